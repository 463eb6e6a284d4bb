/- slices.SortStableFunc of whole numbers of 64 bits, by its walk; of none, too. No condition. -/
import Derived.Sort.LotA
import Derived.Test.YtlgagppdipdkeaaProg
import Derived.Shelf.SlSortCmp.Kit1
import Derived.Sort.WalkA
import Derived.Sort.WalkB2
import Derived.Sort.WalkB12
import Derived.Deep.LoopGhost
import Derived.WalkMore
import Derived.Test.YtlgagppdipdkeaaQ0V
import Derived.Sort.OwnSortedInts
import Derived.Shelf.SlSortFunc.HeapSort
section
section
section
section
section
section
section
section
section
section
section
namespace Go.Proofs.Ytlgagppdipdkeaa.Stb
open Go.Sort
set_option linter.unusedSectionVars false
set_option linter.unusedVariables false
variable {α : Type} [Inhabited α] {lt : α → α → Bool}

def eqv (lt : α → α → Bool) (x y : α) : Bool := !lt x y && !lt y x

/-- Of every class of equals the same ones in the same order. -/
def StL (lt : α → α → Bool) (l l' : List α) : Prop := ∀ x, l'.filter (eqv lt x) = l.filter (eqv lt x)
def St (lt : α → α → Bool) (d d' : Array α) : Prop := StL lt d.toList d'.toList

theorem StL.refl (l : List α) : StL lt l l := fun _ => rfl
theorem StL.trans {l1 l2 l3 : List α} (h : StL lt l1 l2) (g : StL lt l2 l3) : StL lt l1 l3 := fun x => (g x).trans (h x)
theorem StL.symm {l1 l2 : List α} (h : StL lt l1 l2) : StL lt l2 l1 := fun x => (h x).symm
theorem St.refl (d : Array α) : St lt d d := StL.refl _
theorem St.trans {d1 d2 d3 : Array α} (h : St lt d1 d2) (g : St lt d2 d3) : St lt d1 d3 := StL.trans h g

theorem eqv_self (hS : SWO lt) (x : α) : eqv lt x x = true := by simp [eqv, hS.irrefl]

theorem StL.mem (hS : SWO lt) {l l' : List α} (h : StL lt l l') {x : α} (hx : x ∈ l) : x ∈ l' := by
  have : x ∈ l.filter (eqv lt x) := List.mem_filter.mpr ⟨hx, eqv_self hS x⟩
  rw [← h x] at this
  exact (List.mem_filter.mp this).1

/-- No later one is below an earlier one. -/
def SortedL (lt : α → α → Bool) (l : List α) : Prop := l.Pairwise fun x y => lt y x = false

/-- THERE IS BUT ONE SORTED LIST WITH THE SAME CLASSES. -/
theorem uniq (hS : SWO lt) : ∀ {l l' : List α}, SortedL lt l → SortedL lt l' → StL lt l l' → l = l'
  | [], [], _, _, _ => rfl
  | [], y :: t, _, _, h => by have := (h.symm).mem hS (List.mem_cons_self (a := y) (l := t)); cases this
  | x :: s, [], _, _, h => by have := h.mem hS (List.mem_cons_self (a := x) (l := s)); cases this
  | x :: s, y :: t, h1, h2, h => by
    have hx := h.mem hS (List.mem_cons_self (a := x) (l := s))
    have hy := h.symm.mem hS (List.mem_cons_self (a := y) (l := t))
    have a1 : lt x y = false := by
      rcases List.mem_cons.mp hx with rfl | hx
      · exact hS.irrefl _
      · exact (List.pairwise_cons.mp h2).1 _ hx
    have a2 : lt y x = false := by
      rcases List.mem_cons.mp hy with rfl | hy
      · exact hS.irrefl _
      · exact (List.pairwise_cons.mp h1).1 _ hy
    have hxy : x = y := by
      have := h x
      rw [List.filter_cons_of_pos (by simp [eqv, a1, a2]), List.filter_cons_of_pos (eqv_self hS x)] at this
      exact (List.cons.inj this).1.symm
    subst hxy
    have : s = t := uniq hS (List.pairwise_cons.mp h1).2 (List.pairwise_cons.mp h2).2 (fun z => by
      have hz := h z
      by_cases e : eqv lt z x = true
      · rw [List.filter_cons_of_pos e, List.filter_cons_of_pos e] at hz; exact (List.cons.inj hz).2
      · rw [List.filter_cons_of_neg e, List.filter_cons_of_neg e] at hz; exact hz)
    rw [this]

/-- Two runs of which each of the latter is below each of the former, put the other way round. -/
theorem StL.turn (hS : SWO lt) (p u v q : List α) (h : ∀ x ∈ u, ∀ y ∈ v, lt y x = true) : StL lt (p ++ u ++ v ++ q) (p ++ v ++ u ++ q) := by
  intro x
  simp only [List.filter_append]
  have : v.filter (eqv lt x) ++ u.filter (eqv lt x) = u.filter (eqv lt x) ++ v.filter (eqv lt x) := by
    cases hu : u.filter (eqv lt x) with
    | nil => simp
    | cons a s =>
      have ha : a ∈ u.filter (eqv lt x) := by rw [hu]; exact List.mem_cons_self
      have hv : v.filter (eqv lt x) = [] := by
        apply List.filter_eq_nil_iff.mpr
        intro y hy hb
        have h1 := (List.mem_filter.mp ha).2
        have h2 := h a (List.mem_filter.mp ha).1 y hy
        simp only [eqv, Bool.and_eq_true, Bool.not_eq_true'] at h1 hb
        have := hS.ntrans y x a hb.2 h1.1
        rw [h2] at this; cases this
      rw [hv]; simp
  rw [List.append_assoc (List.filter _ p), this, ← List.append_assoc]

/-! ### Runs put round -/
def rot (d : Array α) (a m b : Nat) : Array α := Array.ofFn (n := d.size) fun k => if k.1 < a ∨ b ≤ k.1 then d[k.1]! else if k.1 < a + (b - m) then d[k.1 + (m - a)]! else d[k.1 - (b - m)]!

theorem size_rot (d : Array α) (a m b : Nat) : (rot d a m b).size = d.size := by simp [rot]

theorem rot_get (d : Array α) (a m b k : Nat) (hk : k < d.size) : (rot d a m b)[k]! = if k < a ∨ b ≤ k then d[k]! else if k < a + (b - m) then d[k + (m - a)]! else d[k - (b - m)]! := by
  rw [getElem!_pos _ k (by simpa [size_rot] using hk)]
  simp only [rot, Array.getElem_ofFn]

theorem ext! {d d' : Array α} (hs : d.size = d'.size) (h : ∀ k, k < d.size → d[k]! = d'[k]!) : d = d' := by
  apply Array.ext hs
  intro i h1 h2
  have := h i h1
  rwa [getElem!_pos d i h1, getElem!_pos d' i h2] at this

/-- One of the two runs is of none. -/
theorem rot_none (d : Array α) (a m b : Nat) (h : a = m ∨ m = b) (hb : b ≤ d.size) (ham : a ≤ m) (hmb : m ≤ b) : rot d a m b = d := by
  apply ext! (size_rot ..)
  intro k hk
  rw [size_rot] at hk
  rw [rot_get _ _ _ _ _ hk]
  rcases h with rfl | rfl
  · repeat' split
    all_goals first | rfl | (congr 1; omega) | omega
  · repeat' split
    all_goals first | rfl | (congr 1; omega) | omega

def mapR (d : Array α) (s n : Nat) : List α := (List.range' s n).map fun i => d[i]!

theorem toList_mapR (d : Array α) : d.toList = mapR d 0 d.size := by
  have := extract_toList d 0 d.size (Nat.le_refl _)
  rw [Nat.sub_zero] at this
  rw [mapR, ← this, Array.extract_size]

theorem mapR_append (d : Array α) (s n k : Nat) : mapR d s n ++ mapR d (s + n) k = mapR d s (n + k) := by
  rw [mapR, mapR, ← List.map_append, mapR]
  congr 1
  have := List.range'_append (s := s) (m := n) (n := k) (step := 1)
  rw [Nat.one_mul] at this
  exact this

theorem mapR_congr (d d' : Array α) (s s' n : Nat) (h : ∀ i, i < n → d'[s' + i]! = d[s + i]!) : mapR d' s' n = mapR d s n := by
  apply List.ext_getElem (by simp [mapR])
  intro i h1 h2
  simp only [mapR, List.length_map, List.length_range'] at h1 h2
  simp only [mapR, List.getElem_map, List.getElem_range', Nat.one_mul]
  exact h i h1

theorem mem_mapR {d : Array α} {s n : Nat} {x : α} (h : x ∈ mapR d s n) : ∃ i, s ≤ i ∧ i < s + n ∧ x = d[i]! := by
  simp only [mapR, List.mem_map, List.mem_range'_1] at h
  obtain ⟨i, hi, rfl⟩ := h
  exact ⟨i, hi.1, hi.2, rfl⟩

theorem split4 (d : Array α) (a m b : Nat) (ham : a ≤ m) (hmb : m ≤ b) (hb : b ≤ d.size) : d.toList = mapR d 0 a ++ mapR d a (m - a) ++ mapR d m (b - m) ++ mapR d b (d.size - b) := by
  have e1 := mapR_append d 0 a (m - a)
  have e2 := mapR_append d 0 m (b - m)
  have e3 := mapR_append d 0 b (d.size - b)
  simp only [Nat.zero_add] at e1 e2 e3
  rw [e1, show a + (m - a) = m by omega, e2, show m + (b - m) = b by omega, e3, show b + (d.size - b) = d.size by omega]
  exact toList_mapR d

theorem rot_list (d : Array α) (a m b : Nat) (ham : a ≤ m) (hmb : m ≤ b) (hb : b ≤ d.size) : (rot d a m b).toList = mapR d 0 a ++ mapR d m (b - m) ++ mapR d a (m - a) ++ mapR d b (d.size - b) := by
  have h := split4 (rot d a m b) a (a + (b - m)) b (by omega) (by omega) (by rw [size_rot]; exact hb)
  rw [size_rot, show a + (b - m) - a = b - m by omega, show b - (a + (b - m)) = m - a by omega] at h
  rw [h]
  congr 1
  · congr 1
    · congr 1
      · apply mapR_congr
        intro i hi
        rw [rot_get _ _ _ _ _ (by omega), if_pos (by omega)]
      · apply mapR_congr
        intro i hi
        rw [rot_get _ _ _ _ _ (by omega), if_neg (by omega), if_pos (by omega)]
        congr 1; omega
    · apply mapR_congr
      intro i hi
      rw [rot_get _ _ _ _ _ (by omega), if_neg (by omega), if_neg (by omega)]
      congr 1; omega
  · apply mapR_congr
    intro i hi
    rw [rot_get _ _ _ _ _ (by omega), if_pos (by omega)]

theorem rot_st (hS : SWO lt) (d : Array α) (a m b : Nat) (ham : a ≤ m) (hmb : m ≤ b) (hb : b ≤ d.size) (h : ∀ i j, a ≤ i → i < m → m ≤ j → j < b → lt d[j]! d[i]! = true) : St lt d (rot d a m b) := by
  unfold St
  rw [rot_list d a m b ham hmb hb, split4 d a m b ham hmb hb]
  apply StL.turn hS
  intro x hx y hy
  obtain ⟨i, h1, h2, rfl⟩ := mem_mapR hx
  obtain ⟨j, h3, h4, rfl⟩ := mem_mapR hy
  exact h i j h1 (by omega) h3 (by omega)

theorem rot_perm (d : Array α) (a m b : Nat) (ham : a ≤ m) (hmb : m ≤ b) (hb : b ≤ d.size) : PermIn a b d (rot d a m b) := by
  refine ⟨size_rot .., ?_, ?_⟩
  · intro i hi
    by_cases hk : i < d.size
    · rw [rot_get _ _ _ _ _ hk, if_pos hi]
    · rw [getElem!_neg _ i (by simpa [size_rot] using hk), getElem!_neg _ i hk]
  · rw [extract_toList _ _ _ (by rw [size_rot]; exact hb), extract_toList _ _ _ hb]
    have e1 : (List.range' a (b - a)).map (fun i => (rot d a m b)[i]!) = mapR d m (b - m) ++ mapR d a (m - a) := by
      have := mapR_append (rot d a m b) a (b - m) (m - a)
      rw [show b - m + (m - a) = b - a by omega] at this
      rw [← mapR, ← this]
      congr 1
      · apply mapR_congr
        intro i hi
        rw [rot_get _ _ _ _ _ (by omega), if_neg (by omega), if_pos (by omega)]
        congr 1; omega
      · apply mapR_congr
        intro i hi
        rw [rot_get _ _ _ _ _ (by omega), if_neg (by omega), if_neg (by omega)]
        congr 1; omega
    have e2 : (List.range' a (b - a)).map (fun i => d[i]!) = mapR d a (m - a) ++ mapR d m (b - m) := by
      have := mapR_append d a (m - a) (b - m)
      rw [show m - a + (b - m) = b - a by omega, show a + (m - a) = m by omega] at this
      rw [← mapR, ← this]
    rw [e1, e2]
    exact List.perm_append_comm

theorem swp_get (d : Array α) (i j k : Nat) (hi : i < d.size) (hj : j < d.size) : (swp d i j)[k]! = if k = j then d[i]! else if k = i then d[j]! else d[k]! := by
  by_cases e : k = j
  · subst e; rw [if_pos rfl]; exact swp_right d i k hj
  · rw [if_neg e]
    by_cases e2 : k = i
    · subst e2; rw [if_pos rfl]; exact swp_left d k j hi e
    · rw [if_neg e2]; exact swp_other d i j k e2 e

/-! ### swapRange -/
def swr (d : Array α) (a b : Nat) : Nat → Array α
  | 0 => d
  | n + 1 => swp (swr d a b n) (a + n) (b + n)

theorem size_swr (d : Array α) (a b n : Nat) : (swr d a b n).size = d.size := by
  induction n with
  | zero => rfl
  | succ n ih => rw [swr, size_swp, ih]

theorem swr_get (d : Array α) (a b n : Nat) (hab : a + n ≤ b) (hb : b + n ≤ d.size) (k : Nat) : (swr d a b n)[k]! = if a ≤ k ∧ k < a + n then d[k + (b - a)]! else if b ≤ k ∧ k < b + n then d[k - (b - a)]! else d[k]! := by
  induction n generalizing k with
  | zero => rw [swr, if_neg (by omega), if_neg (by omega)]
  | succ n ih =>
    have ih := fun k => ih (by omega) (by omega) k
    rw [swr, swp_get _ _ _ _ (by rw [size_swr]; omega) (by rw [size_swr]; omega), ih (a + n), ih (b + n), ih k]
    rw [if_neg (show ¬ (a ≤ a + n ∧ a + n < a + n) by omega), if_neg (show ¬ (b ≤ a + n ∧ a + n < b + n) by omega), if_neg (show ¬ (a ≤ b + n ∧ b + n < a + n) by omega), if_neg (show ¬ (b ≤ b + n ∧ b + n < b + n) by omega)]
    by_cases c1 : k = b + n
    · subst c1
      rw [if_pos rfl, if_neg (by omega), if_pos (by omega)]
      congr 1; omega
    · rw [if_neg c1]
      by_cases c2 : k = a + n
      · subst c2
        rw [if_pos rfl, if_pos (by omega)]
        congr 1; omega
      · rw [if_neg c2]
        by_cases c3 : a ≤ k ∧ k < a + n
        · rw [if_pos c3, if_pos (by omega)]
        · rw [if_neg c3, if_neg (show ¬ (a ≤ k ∧ k < a + (n + 1)) by omega)]
          by_cases c4 : b ≤ k ∧ k < b + n
          · rw [if_pos c4, if_pos (by omega)]
          · rw [if_neg c4, if_neg (by omega)]

/-! ### rotate -/
theorem rot_more (d : Array α) (m i j : Nat) (hj : j < i) (hi : i ≤ m) (hb : m + j ≤ d.size) : rot (swr d (m - i) m j) (m - (i - j)) m (m + j) = rot d (m - i) m (m + j) := by
  apply ext! (by rw [size_rot, size_rot, size_swr])
  intro k hk
  rw [size_rot, size_swr] at hk
  have g := swr_get d (m - i) m j (by omega) (by omega)
  rw [rot_get _ _ _ _ _ (by rw [size_swr]; exact hk), rot_get _ _ _ _ _ hk, g, g, g]
  have e1 : m - (m - (i - j)) = i - j := by omega
  have e2 : m + j - m = j := by omega
  have e3 : m - (m - i) = i := by omega
  rw [e1, e2, e3]
  repeat' split
  all_goals first | rfl | (exfalso; omega) | (congr 1; omega)

theorem rot_less (d : Array α) (m i j : Nat) (hj : i < j) (hi : i ≤ m) (hb : m + j ≤ d.size) : rot (swr d (m - i) (m + j - i) i) (m - i) m (m + (j - i)) = rot d (m - i) m (m + j) := by
  apply ext! (by rw [size_rot, size_rot, size_swr])
  intro k hk
  rw [size_rot, size_swr] at hk
  have g := swr_get d (m - i) (m + j - i) i (by omega) (by omega)
  rw [rot_get _ _ _ _ _ (by rw [size_swr]; exact hk), rot_get _ _ _ _ _ hk, g, g, g]
  have e1 : m + (j - i) - m = j - i := by omega
  have e2 : m + j - m = j := by omega
  have e3 : m - (m - i) = i := by omega
  have e4 : m + j - i - (m - i) = j := by omega
  rw [e1, e2, e3, e4]
  repeat' split
  all_goals first | rfl | (exfalso; omega) | (congr 1; omega)

theorem rot_same (d : Array α) (m i : Nat) (hi : i ≤ m) (hb : m + i ≤ d.size) : swr d (m - i) m i = rot d (m - i) m (m + i) := by
  apply ext! (by rw [size_rot, size_swr])
  intro k hk
  rw [size_swr] at hk
  rw [rot_get _ _ _ _ _ hk, swr_get d (m - i) m i (by omega) (by omega)]
  repeat' split
  all_goals first | rfl | (exfalso; omega) | (congr 1; omega)

/-! ### one put among others, place by place -/
theorem swp_rot (d : Array α) (j : Nat) (h : j + 1 < d.size) : swp d (j + 1) j = rot d j (j + 1) (j + 2) := by
  apply ext! (by rw [size_rot, size_swp])
  intro k hk
  rw [size_swp] at hk
  rw [rot_get _ _ _ _ _ hk, swp_get _ _ _ _ (by omega) (by omega)]
  repeat' split
  all_goals first | rfl | (exfalso; omega) | (congr 1; omega)

/-- Up: the one at a behind [a+1, k+1), then one place more. -/
theorem rot_up (d : Array α) (a k : Nat) (hak : a ≤ k) (hk : k + 1 < d.size) : swp (rot d a (a + 1) (k + 1)) k (k + 1) = rot d a (a + 1) (k + 2) := by
  apply ext! (by rw [size_rot, size_swp, size_rot])
  intro i hi
  rw [size_swp, size_rot] at hi
  rw [swp_get _ _ _ _ (by rw [size_rot]; omega) (by rw [size_rot]; omega), rot_get _ _ _ _ _ hi, rot_get _ _ _ _ _ hi, rot_get _ _ _ _ k (by omega), rot_get _ _ _ _ (k + 1) (by omega)]
  repeat' split
  all_goals first | rfl | (exfalso; omega) | (congr 1; omega)

/-- Down: the one at m ahead of [k, m), then one place more. -/
theorem rot_down (d : Array α) (m k : Nat) (hkm : k + 1 ≤ m) (hm : m < d.size) : swp (rot d (k + 1) m (m + 1)) (k + 1) k = rot d k m (m + 1) := by
  apply ext! (by rw [size_rot, size_swp, size_rot])
  intro i hi
  rw [size_swp, size_rot] at hi
  rw [swp_get _ _ _ _ (by rw [size_rot]; omega) (by rw [size_rot]; omega), rot_get _ _ _ _ _ hi, rot_get _ _ _ _ _ hi, rot_get _ _ _ _ k (by omega), rot_get _ _ _ _ (k + 1) (by omega)]
  repeat' split
  all_goals first | rfl | (exfalso; omega) | (congr 1; omega)

/-! ### the insertion sort keeps the order of equals -/
theorem insInner_st (hS : SWO lt) (a : Nat) : ∀ (j : Nat) (d : Array α), j < d.size → St lt d (insInner lt a j d)
  | 0, d, _ => St.refl d
  | j + 1, d, h => by
    rw [insInner]
    split
    · rename_i c
      have hl : lt d[j + 1]! d[j]! = true := by simp only [Bool.and_eq_true] at c; exact c.2
      refine St.trans ?_ (insInner_st hS a j _ (by rw [size_swp]; omega))
      rw [swp_rot d j h]
      apply rot_st hS d j (j + 1) (j + 2) (by omega) (by omega) (by omega)
      intro i k h1 h2 h3 h4
      rw [show i = j by omega, show k = j + 1 by omega]
      exact hl
    · exact St.refl d

theorem size_insInner (a : Nat) : ∀ (j : Nat) (d : Array α), (insInner lt a j d).size = d.size
  | 0, d => rfl
  | j + 1, d => by
    rw [insInner]
    split
    · rw [size_insInner a j, size_swp]
    · rfl

theorem insOuter_st (hS : SWO lt) (a b : Nat) : ∀ (n i : Nat) (d : Array α), b - i = n → b ≤ d.size → St lt d (insOuter lt a b i d)
  | 0, i, d, h, _ => by rw [insOuter, if_neg (by omega)]; exact St.refl d
  | n + 1, i, d, h, hb => by
    rw [insOuter, if_pos (by omega)]
    exact (insInner_st hS a i d (by omega)).trans (insOuter_st hS a b n (i + 1) _ (by omega) (by rw [size_insInner]; exact hb))

theorem insertionSort_st (hS : SWO lt) (d : Array α) (a b : Nat) (hb : b ≤ d.size) : St lt d (insertionSort lt d a b) := insOuter_st hS a b _ _ d rfl hb

/-! ### the merge -/
/-- What a step of the sort may do to [a, b): put it in order, or leave it: equals stay in their order. -/
structure Put (lt : α → α → Bool) (a b : Nat) (d d' : Array α) : Prop where
  perm : PermIn a b d d'
  st : St lt d d'

theorem Put.refl (a b : Nat) (d : Array α) : Put lt a b d d := ⟨permIn_refl _ _ _, St.refl _⟩
theorem Put.trans {a b : Nat} {d d' d'' : Array α} (h : Put lt a b d d') (g : Put lt a b d' d'') : Put lt a b d d'' := ⟨permIn_trans _ _ _ _ _ h.perm g.perm, h.st.trans g.st⟩
theorem Put.mono {a b a' b' : Nat} {d d' : Array α} (h : Put lt a b d d') (ha : a' ≤ a) (hb : b ≤ b') (hs : b' ≤ d.size) : Put lt a' b' d d' := ⟨permIn_mono _ _ _ _ _ _ ha hb hs h.perm, h.st⟩
theorem Put.size {a b : Nat} {d d' : Array α} (h : Put lt a b d d') : d'.size = d.size := h.perm.1
theorem Put.off {a b : Nat} {d d' : Array α} (h : Put lt a b d d') (i : Nat) (hi : i < a ∨ b ≤ i) : d'[i]! = d[i]! := h.perm.2.1 i hi

theorem ins_put (hS : SWO lt) (d : Array α) (a b : Nat) (hab : a ≤ b) (hb : b ≤ d.size) : Put lt a b d (insertionSort lt d a b) ∧ SortedIn lt a b (insertionSort lt d a b) :=
  have h := insertionSort_holds hS d a b hab hb
  ⟨⟨h.1, insertionSort_st hS d a b hb⟩, h.2⟩

theorem SortedIn.off {a b : Nat} {d d' : Array α} (h : SortedIn lt a b d) (he : ∀ i, a ≤ i → i < b → d'[i]! = d[i]!) : SortedIn lt a b d' := by
  intro i j h1 h2 h3
  rw [he i h1 (by omega), he j (by omega) h3]
  exact h i j h1 h2 h3

theorem sorted_le (hS : SWO lt) {a b : Nat} {d : Array α} (h : SortedIn lt a b d) (i j : Nat) (h1 : a ≤ i) (h2 : i ≤ j) (h3 : j < b) : lt d[j]! d[i]! = false := by
  rcases Nat.lt_or_eq_of_le h2 with h2 | rfl
  · exact h i j h1 h2 h3
  · exact hS.irrefl _

/-- x < y ≤ z. -/
theorem lt_le (hS : SWO lt) {x y z : α} (h : lt x y = true) (g : lt z y = false) : lt x z = true := by
  cases e : lt x z with
  | true => rfl
  | false => have := hS.ntrans x z y e g; rw [h] at this; cases this
theorem le_lt (hS : SWO lt) {x y z : α} (h : lt y x = false) (g : lt y z = true) : lt x z = true := by
  cases e : lt x z with
  | true => rfl
  | false => have := hS.ntrans y x z h e; rw [g] at this; cases this

/-- The one at a is put behind all that are below it. -/
theorem one_up (hS : SWO lt) (d : Array α) (a b i : Nat) (hi1 : a + 1 ≤ i) (hi2 : i ≤ b) (hb : b ≤ d.size) (hs : SortedIn lt (a + 1) b d)
    (hlo : ∀ k, a + 1 ≤ k → k < i → lt d[k]! d[a]! = true) (hhi : ∀ k, i ≤ k → k < b → lt d[k]! d[a]! = false) :
    Put lt a b d (rot d a (a + 1) i) ∧ SortedIn lt a b (rot d a (a + 1) i) := by
  refine ⟨⟨permIn_mono _ _ _ _ _ _ (Nat.le_refl _) hi2 hb (rot_perm d a (a + 1) i (by omega) hi1 (by omega)), rot_st hS d a (a + 1) i (by omega) hi1 (by omega) (fun p q h1 h2 h3 h4 => by rw [show p = a by omega]; exact hlo q h3 h4)⟩, ?_⟩
  intro p q h1 h2 h3
  rw [rot_get _ _ _ _ _ (by omega), rot_get _ _ _ _ _ (by omega)]
  have e1 : a + 1 - a = 1 := by omega
  rw [e1]
  by_cases c1 : i ≤ p
  · rw [if_pos (by omega), if_pos (by omega)]; exact hs p q (by omega) h2 h3
  · rw [if_neg (show ¬ (p < a ∨ i ≤ p) by omega)]
    by_cases c2 : i ≤ q
    · rw [if_pos (show q < a ∨ i ≤ q by omega)]
      by_cases c3 : p < a + (i - (a + 1))
      · rw [if_pos c3]; exact hs _ _ (by omega) (by omega) h3
      · rw [if_neg c3, show p - (i - (a + 1)) = a by omega]; exact hhi q c2 h3
    · rw [if_neg (show ¬ (q < a ∨ i ≤ q) by omega)]
      by_cases c3 : q < a + (i - (a + 1))
      · rw [if_pos c3, if_pos (by omega)]; exact hs _ _ (by omega) (by omega) (by omega)
      · rw [if_neg c3, if_pos (by omega), show q - (i - (a + 1)) = a by omega]
        exact hS.asymmA (hlo _ (by omega) (by omega))

/-- The one at m is put ahead of all that are above it. -/
theorem one_down (hS : SWO lt) (d : Array α) (a m i : Nat) (hi1 : a ≤ i) (hi2 : i ≤ m) (hm : m < d.size) (hs : SortedIn lt a m d)
    (hlo : ∀ k, a ≤ k → k < i → lt d[m]! d[k]! = false) (hhi : ∀ k, i ≤ k → k < m → lt d[m]! d[k]! = true) :
    Put lt a (m + 1) d (rot d i m (m + 1)) ∧ SortedIn lt a (m + 1) (rot d i m (m + 1)) := by
  refine ⟨⟨permIn_mono _ _ _ _ _ _ hi1 (Nat.le_refl _) hm (rot_perm d i m (m + 1) hi2 (by omega) (by omega)), rot_st hS d i m (m + 1) hi2 (by omega) (by omega) (fun p q h1 h2 h3 h4 => by rw [show q = m by omega]; exact hhi p h1 h2)⟩, ?_⟩
  intro p q h1 h2 h3
  rw [rot_get _ _ _ _ _ (by omega), rot_get _ _ _ _ _ (by omega)]
  have e1 : m + 1 - m = 1 := by omega
  rw [e1]
  by_cases c1 : q < i
  · rw [if_pos (by omega), if_pos (by omega)]; exact hs p q h1 h2 (by omega)
  · rw [if_neg (show ¬ (q < i ∨ m + 1 ≤ q) by omega)]
    by_cases c2 : q = i
    · rw [if_pos (show q < i + 1 by omega), if_pos (show p < i ∨ _ by omega), show q + (m - i) = m by omega]
      exact hlo p h1 (by omega)
    · rw [if_neg (show ¬ q < i + 1 by omega)]
      by_cases c3 : p < i
      · rw [if_pos (Or.inl c3)]; exact hs _ _ h1 (by omega) (by omega)
      · rw [if_neg (show ¬ (p < i ∨ m + 1 ≤ p) by omega)]
        by_cases c4 : p = i
        · rw [if_pos (show p < i + 1 by omega), show p + (m - i) = m by omega]
          exact hS.asymmA (hhi _ (by omega) (by omega))
        · rw [if_neg (show ¬ p < i + 1 by omega)]; exact hs _ _ (by omega) (by omega) (by omega)

/-- The merge's middle: s: where the first run is cut; e = (a+b)/2 + m - s: where the second is. -/
theorem sym (hS : SWO lt) (d : Array α) (a m b s mid : Nat) (h1 : a ≤ s) (h2 : s ≤ m) (h3 : s ≤ mid) (h4 : mid + m - s ≤ b) (hb : b ≤ d.size) (hmid : a ≤ mid) (hmb : mid ≤ b)
    (hs1 : SortedIn lt a m d) (hs2 : SortedIn lt m b d)
    (hlo : a < s → mid + m - s < b → lt d[mid + m - s]! d[s - 1]! = false)
    (hhi : s < m → m < mid + m - s → lt d[mid + m - s - 1]! d[s]! = true) :
    Put lt a b d (rot d s m (mid + m - s)) ∧ SortedIn lt a s (rot d s m (mid + m - s)) ∧ SortedIn lt s mid (rot d s m (mid + m - s)) ∧ SortedIn lt mid (mid + m - s) (rot d s m (mid + m - s)) ∧ SortedIn lt (mid + m - s) b (rot d s m (mid + m - s))
      ∧ ∀ p q, a ≤ p → p < mid → mid ≤ q → q < b → lt (rot d s m (mid + m - s))[q]! (rot d s m (mid + m - s))[p]! = false := by
  obtain ⟨e, he⟩ : ∃ e, e = mid + m - s := ⟨_, rfl⟩
  rw [← he] at h4 hlo hhi ⊢
  have hem : m ≤ e := by omega
  have hem2 : s + (e - m) = mid := by omega
  have strict : ∀ i j, s ≤ i → i < m → m ≤ j → j < e → lt d[j]! d[i]! = true := by
    intro i j g1 g2 g3 g4
    have k1 := hhi (by omega) (by omega)
    have k2 := sorted_le hS hs1 s i h1 g1 g2
    have k3 := sorted_le hS hs2 j (e - 1) g3 (by omega) (by omega)
    exact le_lt hS k3 (lt_le hS k1 k2)
  have G : ∀ k, k < d.size → (rot d s m e)[k]! = if k < s ∨ e ≤ k then d[k]! else if k < mid then d[k + (m - s)]! else d[k - (e - m)]! := by
    intro k hk; rw [rot_get _ _ _ _ _ hk, hem2]
  refine ⟨⟨permIn_mono _ _ _ _ _ _ h1 h4 hb (rot_perm d s m e h2 hem (by omega)), rot_st hS d s m e h2 hem (by omega) strict⟩, ?_, ?_, ?_, ?_, ?_⟩
  · intro p q g1 g2 g3
    rw [G _ (by omega), G _ (by omega), if_pos (show q < s ∨ _ by omega), if_pos (show p < s ∨ _ by omega)]; exact hs1 p q g1 g2 (by omega)
  · intro p q g1 g2 g3
    rw [G _ (by omega), G _ (by omega), if_neg (show ¬ (q < s ∨ e ≤ q) by omega), if_neg (show ¬ (p < s ∨ e ≤ p) by omega), if_pos (show q < mid by omega), if_pos (show p < mid by omega)]; exact hs2 _ _ (by omega) (by omega) (by omega)
  · intro p q g1 g2 g3
    rw [G _ (by omega), G _ (by omega), if_neg (show ¬ (q < s ∨ e ≤ q) by omega), if_neg (show ¬ (p < s ∨ e ≤ p) by omega), if_neg (show ¬ q < mid by omega), if_neg (show ¬ p < mid by omega)]; exact hs1 _ _ (by omega) (by omega) (by omega)
  · intro p q g1 g2 g3
    rw [G _ (by omega), G _ (by omega), if_pos (show q < s ∨ e ≤ q by omega), if_pos (show p < s ∨ e ≤ p by omega)]; exact hs2 p q (by omega) g2 g3
  · intro p q g1 g2 g3 g4
    rw [G _ (by omega), G _ (by omega)]
    by_cases c1 : p < s
    · rw [if_pos (Or.inl c1)]
      by_cases c2 : e ≤ q
      · rw [if_pos (Or.inr c2)]
        have k1 := hlo (by omega) (by omega)
        have k2 := sorted_le hS hs1 p (s - 1) g1 (by omega) (by omega)
        have k3 := sorted_le hS hs2 e q hem c2 g4
        exact hS.ntrans _ _ _ k3 (hS.ntrans _ _ _ k1 k2)
      · rw [if_neg (by omega), if_neg (by omega)]
        exact sorted_le hS hs1 _ _ g1 (by omega) (by omega)
    · rw [if_neg (show ¬ (p < s ∨ e ≤ p) by omega), if_pos g2]
      by_cases c2 : e ≤ q
      · rw [if_pos (Or.inr c2)]
        exact sorted_le hS hs2 _ _ (by omega) (by omega) g4
      · rw [if_neg (by omega), if_neg (by omega)]
        exact hS.asymmA (strict _ _ (by omega) (by omega) (by omega) (by omega))

/-- The two halves put in order by themselves. -/
theorem halves (hS : SWO lt) (d d1 d2 : Array α) (a mid b : Nat) (ham : a ≤ mid) (hmb : mid ≤ b) (hb : b ≤ d.size)
    (hx : ∀ p q, a ≤ p → p < mid → mid ≤ q → q < b → lt d[q]! d[p]! = false)
    (p1 : Put lt a mid d d1) (s1 : SortedIn lt a mid d1) (p2 : Put lt mid b d1 d2) (s2 : SortedIn lt mid b d2) : Put lt a b d d2 ∧ SortedIn lt a b d2 := by
  have z1 := p1.size
  refine ⟨(p1.mono (Nat.le_refl _) hmb hb).trans (p2.mono ham (Nat.le_refl _) (by omega)), ?_⟩
  have hx1 : ∀ p q, a ≤ p → p < mid → mid ≤ q → q < b → lt d1[q]! d1[p]! = false := by
    intro p q g1 g2 g3 g4
    rw [p1.off q (Or.inr g3)]
    exact permIn_all d d1 a mid (fun x => lt d[q]! x = false) (by omega) p1.perm (fun i i1 i2 => hx i q i1 i2 g3 g4) p g1 g2
  have hx2 : ∀ p q, a ≤ p → p < mid → mid ≤ q → q < b → lt d2[q]! d2[p]! = false := by
    intro p q g1 g2 g3 g4
    rw [p2.off p (Or.inl g2)]
    exact permIn_all d1 d2 mid b (fun x => lt x d1[p]! = false) (by omega) p2.perm (fun i i1 i2 => hx1 p i g1 g2 i1 i2) q g3 g4
  intro p q g1 g2 g3
  by_cases c1 : q < mid
  · rw [p2.off q (Or.inl c1), p2.off p (Or.inl (by omega))]; exact s1 p q g1 g2 c1
  · by_cases c2 : p < mid
    · exact hx2 p q g1 c2 (by omega) g3
    · exact s2 p q (by omega) g2 g3

/-! ### the whole: runs of bs in order -/
/-- Each run of bs from 0 up to 'to' is in order. -/
def Runs (lt : α → α → Bool) (bs to_ : Nat) (d : Array α) : Prop := ∀ k, k * bs < to_ → SortedIn lt (k * bs) (min (k * bs + bs) to_) d

theorem sortedL_of (d : Array α) (h : SortedIn lt 0 d.size d) : SortedL lt d.toList := by
  unfold SortedL
  rw [List.pairwise_iff_getElem]
  intro i j h1 h2 hij
  simp only [Array.length_toList] at h1 h2
  have := h i j (Nat.zero_le _) hij h2
  rwa [getElem!_pos d i h1, getElem!_pos d j h2] at this

end Go.Proofs.Ytlgagppdipdkeaa.Stb

end
namespace Go.Proofs.Ytlgagppdipdkeaa.Stb
open Go.Sort
set_option linter.unusedVariables false
variable {α : Type} [Inhabited α] {lt : α → α → Bool}

/-- Each run of bs that begins in [lo, hi) is in order (none reaches beyond n). -/
def Blk (lt : α → α → Bool) (bs lo hi n : Nat) (d : Array α) : Prop := ∀ p, bs ∣ p → lo ≤ p → p < hi → SortedIn lt p (min (p + bs) n) d

theorem dvd_step (bs p a : Nat) (h1 : bs ∣ p) (h2 : bs ∣ a) (h : p < a) : p + bs ≤ a := by
  obtain ⟨x, rfl⟩ := h1
  obtain ⟨y, rfl⟩ := h2
  have : x < y := Nat.lt_of_mul_lt_mul_left h
  calc bs * x + bs = bs * (x + 1) := by rw [Nat.mul_add, Nat.mul_one]
    _ ≤ bs * y := Nat.mul_le_mul_left _ this

theorem Blk.keep {bs lo hi n x y : Nat} {d d' : Array α} (h : Blk lt bs lo hi n d) (hp : Put lt x y d d') (hd : ∀ p, bs ∣ p → lo ≤ p → p < hi → min (p + bs) n ≤ x ∨ y ≤ p) : Blk lt bs lo hi n d' := by
  intro p h1 h2 h3
  refine Stb.SortedIn.off (h p h1 h2 h3) fun i i1 i2 => hp.off i ?_
  rcases hd p h1 h2 h3 with c | c
  · exact Or.inl (by omega)
  · exact Or.inr (by omega)

/-- A run more at the end. -/
theorem Blk.snoc {bs lo a n : Nat} {d : Array α} (h : Blk lt bs lo a n d) (ha : bs ∣ a) (hs : SortedIn lt a (min (a + bs) n) d) : Blk lt bs lo (a + bs) n d := by
  intro p h1 h2 h3
  by_cases c : p < a
  · exact h p h1 h2 c
  · have : p = a := by
      by_cases c2 : a < p
      · have := dvd_step bs a p ha h1 c2
        omega
      · omega
    rw [this]; exact hs

/-- What is done and what is to do, while runs of bs become runs of twice bs: all ahead of a is done. -/
structure Mid (lt : α → α → Bool) (bs a n : Nat) (d0 d : Array α) : Prop where
  put : Put lt 0 n d0 d
  done : Blk lt (2 * bs) 0 a n d
  todo : Blk lt bs a n n d

theorem Mid.step {bs a n : Nat} {d0 d d' : Array α} (h : Mid lt bs a n d0 d) (hn : n ≤ d0.size) (hbs : 0 < bs) (ha : 2 * bs ∣ a) (hb : a + 2 * bs ≤ n) (hp : Put lt a (a + 2 * bs) d d') (hs : SortedIn lt a (a + 2 * bs) d') : Mid lt bs (a + 2 * bs) n d0 d' := by
  have hsz := h.put.size
  refine ⟨h.put.trans (hp.mono (Nat.zero_le _) hb (by omega)), ?_, ?_⟩
  · refine Blk.snoc (h.done.keep hp fun p h1 h2 h3 => Or.inl ?_) ha ?_
    · have := dvd_step _ p a h1 ha h3
      omega
    · rw [show min (a + 2 * bs) n = a + 2 * bs by omega]; exact hs
  · intro p h1 h2 h3
    have := h.todo.keep hp (d' := d')
    refine Stb.SortedIn.off (h.todo p h1 (by omega) h3) fun i i1 i2 => hp.off i (Or.inr (by omega))

theorem Blk.whole {bs a n : Nat} {d : Array α} (h : Blk lt bs 0 a n d) (ha : bs ∣ a) (hn : n ≤ a + bs) (hs : a < n → SortedIn lt a n d) : Blk lt bs 0 n n d := by
  intro p h1 h2 h3
  by_cases c : p < a
  · exact h p h1 h2 c
  · have : p = a := by
      by_cases c2 : a < p
      · have := dvd_step bs a p ha h1 c2
        omega
      · omega
    subst this
    rw [show min (p + bs) n = n by omega]
    exact hs h3

theorem Mid.last {bs a n : Nat} {d0 d d' : Array α} (h : Mid lt bs a n d0 d) (hn : n ≤ d0.size) (ha : 2 * bs ∣ a) (hb : n ≤ a + 2 * bs) (han : a ≤ n) (hp : Put lt a n d d') (hs : SortedIn lt a n d') : Put lt 0 n d0 d' ∧ Blk lt (2 * bs) 0 n n d' := by
  have hsz := h.put.size
  refine ⟨h.put.trans (hp.mono (Nat.zero_le _) (Nat.le_refl _) (by omega)), Blk.whole (h.done.keep hp fun p h1 h2 h3 => Or.inl ?_) ha hb fun _ => hs⟩
  have := dvd_step _ p a h1 ha h3
  omega

theorem Mid.rest {bs a n : Nat} {d0 d : Array α} (h : Mid lt bs a n d0 d) (ha : bs ∣ a) (hb : n ≤ a + bs) (han : a < n) : SortedIn lt a n d := by
  have := h.todo a ha (Nat.le_refl _) han
  rwa [show min (a + bs) n = n by omega] at this

theorem Blk.one {bs n : Nat} {d : Array α} (h : Blk lt bs 0 n n d) (hn : n ≤ bs) (h0 : 0 < n) : SortedIn lt 0 n d := by
  have := h 0 (Nat.dvd_zero _) (Nat.le_refl _) h0
  rwa [show min (0 + bs) n = n by omega] at this

end Go.Proofs.Ytlgagppdipdkeaa.Stb

end
namespace Go.Proofs.Ytlgagppdipdkeaa.Stb
open Go.Sort
set_option linter.unusedSectionVars false
set_option linter.unusedVariables false
section
variable {α : Type} [Inhabited α] {lt : α → α → Bool}

/-- Put in behind all that it isn't ahead of. -/
def insK (lt : α → α → Bool) (x : α) : List α → List α
  | [] => [x]
  | y :: r => if lt x y = true then x :: y :: r else y :: insK lt x r
def isort (lt : α → α → Bool) (l : List α) : List α := l.foldl (fun out x => insK lt x out) []

theorem mem_insK (x z : α) : ∀ l : List α, z ∈ insK lt x l ↔ z = x ∨ z ∈ l
  | [] => by simp [insK]
  | y :: r => by
    unfold insK
    split
    · simp
    · have := mem_insK x z r
      simp only [List.mem_cons, this]
      constructor
      · rintro (h | h | h) <;> simp [h]
      · rintro (h | h | h) <;> simp [h]
theorem sorted_insK (hS : SWO lt) (x : α) : ∀ l : List α, SortedL lt l → SortedL lt (insK lt x l)
  | [], _ => by unfold insK SortedL; simp
  | y :: r, h => by
    have h1 := List.pairwise_cons.mp h
    unfold insK
    by_cases c : lt x y = true
    · rw [if_pos c]
      refine List.pairwise_cons.mpr ⟨fun z hz => ?_, h⟩
      rcases List.mem_cons.mp hz with rfl | hz
      · cases e : lt z x with
        | false => rfl
        | true => have := hS.trans x z x c e; rw [hS.irrefl] at this; cases this
      · cases e : lt z x with
        | false => rfl
        | true => have := hS.trans z x y e c; rw [h1.1 z hz] at this; cases this
    · rw [if_neg c]
      refine List.pairwise_cons.mpr ⟨fun z hz => ?_, sorted_insK hS x r h1.2⟩
      rcases (mem_insK x z r).mp hz with rfl | hz
      · exact Bool.eq_false_iff.mpr c
      · exact h1.1 z hz
theorem class_insK (hS : SWO lt) (x z : α) : ∀ l : List α, SortedL lt l → (insK lt x l).filter (eqv lt z) = l.filter (eqv lt z) ++ [x].filter (eqv lt z)
  | [], _ => by simp [insK]
  | y :: r, h => by
    have h1 := List.pairwise_cons.mp h
    unfold insK
    by_cases c : lt x y = true
    · rw [if_pos c]
      by_cases e : eqv lt z x = true
      · -- nobody behind is x's equal
        have hn : (y :: r).filter (eqv lt z) = [] := by
          apply List.filter_eq_nil_iff.mpr
          intro u hu hb
          simp only [eqv, Bool.and_eq_true, Bool.not_eq_true'] at e hb
          have hxu : lt x u = true := by
            rcases List.mem_cons.mp hu with rfl | hu
            · exact c
            · cases q : lt x u with
              | true => rfl
              | false =>
                have := hS.ntrans x u y q (h1.1 u hu)
                rw [c] at this; cases this
          have := hS.ntrans x z u e.2 hb.1
          rw [hxu] at this; cases this
        rw [hn, List.filter_cons_of_pos e, hn]; simp [e]
      · rw [List.filter_cons_of_neg e]; simp [e]
    · rw [if_neg c]
      have ih := class_insK hS x z r h1.2
      by_cases e : eqv lt z y = true
      · rw [List.filter_cons_of_pos e, List.filter_cons_of_pos e, ih]; rfl
      · rw [List.filter_cons_of_neg e, List.filter_cons_of_neg e, ih]
theorem isort_go (hS : SWO lt) : ∀ (l out : List α), SortedL lt out → SortedL lt (l.foldl (fun o x => insK lt x o) out) ∧ StL lt (out ++ l) (l.foldl (fun o x => insK lt x o) out)
  | [], out, h => ⟨h, by simpa using StL.refl out⟩
  | x :: l, out, h => by
    have h1 := isort_go hS l (insK lt x out) (sorted_insK hS x out h)
    refine ⟨h1.1, fun z => ?_⟩
    rw [List.foldl_cons, h1.2 z, List.filter_append, class_insK hS x z out h, List.filter_append, show x :: l = [x] ++ l from rfl, List.filter_append, List.append_assoc]
theorem isort_sorted (hS : SWO lt) (l : List α) : SortedL lt (isort lt l) := (isort_go hS l [] (by unfold SortedL; simp)).1
theorem isort_stable (hS : SWO lt) (l : List α) : StL lt l (isort lt l) := by
  have := (isort_go hS l [] (by unfold SortedL; simp)).2
  rwa [List.nil_append] at this
theorem isort_is (hS : SWO lt) {l l' : List α} (h : SortedL lt l') (hs : StL lt l l') : l' = isort lt l :=
  uniq hS h (isort_sorted hS l) ((hs.symm).trans (isort_stable hS l))
theorem insK_map {β : Type} (f : β → α) (x : β) : ∀ l : List β, (insK (fun a b => lt (f a) (f b)) x l).map f = insK lt (f x) (l.map f)
  | [] => rfl
  | y :: r => by
    simp only [insK, List.map_cons]
    split
    · simp
    · rw [List.map_cons, insK_map f x r]
theorem isort_map {β : Type} (f : β → α) (l : List β) : (isort (fun a b => lt (f a) (f b)) l).map f = isort lt (l.map f) := by
  unfold isort
  have : ∀ (l out : List β), (l.foldl (fun o x => insK (fun a b => lt (f a) (f b)) x o) out).map f = (l.map f).foldl (fun o x => insK lt x o) (out.map f) := by
    intro l
    induction l with
    | nil => intro out; rfl
    | cons x l ih => intro out; simp only [List.foldl_cons, List.map_cons]; rw [ih, insK_map]
  simpa using this l []
end
end Go.Proofs.Ytlgagppdipdkeaa.Stb

end
namespace Go.Proofs.Ytlgagppdipdkeaa.Stb
open Go.Shelf Go.RowKit Go.Lib Go.Sort Go.Proofs

/-- A place below N + 1, as Go's int. -/
abbrev Ix (N : Nat) := Fin (N + 1)
abbrev E (N : Nat) (x : Ix N) : Value := Value.int .i64 (x.val : Int)

set_option maxHeartbeats 16000000 in
set_option maxRecDepth 1000000 in
theorem insertion {N : Nat} (cf : Ix N → Ix N → Int) (g : Nat) (cb : Array Value) (blk off cap a b : Nat) (d0 d : Array (Ix N)) (w0 w : World)
    (eg : ∀ args w, (callFunc g args).run Try.prog w = .ok (.enter g args) w) (hcmp : CmpLays1 Try.prog g cb (E N) cf blk off d0.size w0) (R : Row1 (E N) w0 blk off d0) (hs : d0.size = d.size) (S : SW (E N) w0 blk off d w) (hab : a ≤ b) (hb : b ≤ d.size) (hsz : d.size < 4611686018427387904) :
    Calls Try.prog 120 #[.slice (some ⟨blk, off, none⟩) d.size cap, .int .i64 a, .int .i64 b, .func (.func g) #[] cb] w fun e w' => e = .returned (.tuple #[]) ∧ SW (E N) w0 blk off (Sort.insertionSort (ltOf cf) d a b) w' := by
  have mixed : Try.prog.follows Departure.mixedOrders = true := by decide
  have HC : Aside _ := hcmp
  have S0 : Aside (SW (E N) w0 blk off d w) := S
  clear S
  clear hcmp
  go_enter Try.func120, Try.ntmps120
  go_wp2
  go_loopg [8] (b - a) (fun g1 vi wr => ∃ (i : Nat) (dk : Array (Ix N)), vi = .int .i64 i ∧ a < i ∧ i ≤ b + 1 ∧ b + 1 - i ≤ g1 + 1 ∧ dk.size = d.size ∧ Aside (SW (E N) w0 blk off dk wr) ∧ Hid (insOuter (ltOf cf) a b i dk = insOuter (ltOf cf) a b (a + 1) d))
  case atStart => exact ⟨a + 1, d, by go_num, by omega, by omega, by omega, rfl, S0, rfl⟩
  case round =>
    clear S0
    obtain ⟨i, dk, rfl, hai, hib, hg1, hsk, S1, HO⟩ := hrel
    by_cases hlt : i < b
    · have hltz : (i : Int) < (b : Int) := by omega
      go_wp2
      -- the inner loop
      go_loopg [9] i (fun g2 vj wr2 => ∃ (j : Nat) (dj : Array (Ix N)), vj = .int .i64 j ∧ a ≤ j ∧ j ≤ i ∧ j ≤ g2 ∧ dj.size = d.size ∧ Aside (SW (E N) w0 blk off dj wr2) ∧ Hid (insInner (ltOf cf) a j dj = insInner (ltOf cf) a i dk))
      case atStart => exact ⟨i, dk, rfl, by omega, Nat.le_refl _, Nat.le_refl _, hsk, S1, rfl⟩
      case round =>
        clear S1
        obtain ⟨j, dj, rfl, haj, hji, hg2, hsj, SJ, HI⟩ := hrel
        have out : (j ≤ a ∨ (ltOf cf) dj[j]! dj[j - 1]! = false) → Hid (insOuter (ltOf cf) a b (i + 1) dj = insOuter (ltOf cf) a b (a + 1) d) := fun hs => by
          show _ = _
          rw [← HO.out, insOuter_go _ _ _ _ _ hlt, ← HI.out, insInner_stop _ _ _ _ hs]
        have OUT : Aside _ := out
        clear out
        by_cases hja : a < j
        · have hjaz : (a : Int) < (j : Int) := by omega
          obtain ⟨jp, hjp⟩ : ∃ q, q + 1 = j := ⟨j - 1, by omega⟩
          have zjp : (j : Int) = (jp : Int) + 1 := by omega
          have hjad : decide ((jp : Int) + 1 > (a : Int)) = true := decide_eq_true (by omega)
          have hjaz' : (a : Int) < (jp : Int) + 1 := by omega
          cases hlv : (ltOf cf) dj[j]! dj[j - 1]! with
          | true =>
            obtain ⟨iN1193, hiN1193⟩ : ∃ q, q = j := ⟨_, rfl⟩
            obtain ⟨jN1193, hjN1193⟩ : ∃ q, q = j - 1 := ⟨_, rfl⟩
            have ea1193 : ((jp : Int) + 1).toNat = iN1193 := by omega
            have pa1193 : (0 : Int) ≤ (jp : Int) + 1 := by omega
            have ba1193 : (jp : Int) + 1 < (d.size : Int) := by omega
            have ra1193 : IntKind.i64.wrap ((jp : Int) + 1) = (jp : Int) + 1 := by rw [IntKind.wrap_i64]; omega
            have ec1193 : ((jp : Int)).toNat = jN1193 := by omega
            have pc1193 : (0 : Int) ≤ (jp : Int) := by omega
            have bc1193 : (jp : Int) < (d.size : Int) := by omega
            have rc1193 : IntKind.i64.wrap ((jp : Int)) = (jp : Int) := by rw [IntKind.wrap_i64]; omega
            obtain ⟨x1193, hx1193⟩ : ∃ x, x = dj[j]! := ⟨_, rfl⟩
            obtain ⟨y1193, hy1193⟩ : ∃ x, x = dj[j - 1]! := ⟨_, rfl⟩
            have l1193a := SJ.out.cl R (by omega) (j) (by omega)
            have l1193b := SJ.out.cl R (by omega) (j - 1) (by omega)
            rw [← hx1193, ← hiN1193] at l1193a
            rw [← hy1193, ← hjN1193] at l1193b
            have hc1193 := SJ.out.cmp HC.out (by omega) x1193 y1193
            have hv1193 : cf x1193 y1193 < 0 := by rw [hx1193, hy1193]; exact of_decide_eq_true hlv
            have hd1193 : decide (cf x1193 y1193 < 0) = true := decide_eq_true hv1193
            clear hx1193 hy1193 hiN1193 hjN1193
            go_wp2_with fail
            go_quiet_grown (first | (go_at_fn g; refine Calls.grown_of (hc1193 _ _)))
            have S2 : Aside (SW (E N) w0 blk off dj (grow (wr.drewN nq) osq)) := SJ.out.grown nq osq
            clear l1193a l1193b hc1193 SJ
            generalize grow (wr.drewN nq) osq = w2 at S2 ⊢
            clear nq osq
            clear ea1193 ec1193
            go_wp2_with fail
            obtain ⟨iN1194, hiN1194⟩ : ∃ q, q = j := ⟨_, rfl⟩
            obtain ⟨jN1194, hjN1194⟩ : ∃ q, q = j - 1 := ⟨_, rfl⟩
            have ea1194 : ((jp : Int) + 1).toNat = iN1194 := by omega
            have pa1194 : (0 : Int) ≤ (jp : Int) + 1 := by omega
            have ba1194 : (jp : Int) + 1 < (d.size : Int) := by omega
            have ra1194 : IntKind.i64.wrap ((jp : Int) + 1) = (jp : Int) + 1 := by rw [IntKind.wrap_i64]; omega
            have ec1194 : ((jp : Int)).toNat = jN1194 := by omega
            have pc1194 : (0 : Int) ≤ (jp : Int) := by omega
            have bc1194 : (jp : Int) < (d.size : Int) := by omega
            have rc1194 : IntKind.i64.wrap ((jp : Int)) = (jp : Int) := by rw [IntKind.wrap_i64]; omega
            obtain ⟨x1194, hx1194⟩ : ∃ x, x = dj[j]! := ⟨_, rfl⟩
            obtain ⟨y1194, hy1194⟩ : ∃ x, x = dj[j - 1]! := ⟨_, rfl⟩
            have S3 : Aside (SW (E N) w0 blk off (swp dj (j) (j - 1)) ((w2.setCell ⟨blk, off + iN1194, none⟩ (E N y1194)).setCell ⟨blk, off + jN1194, none⟩ (E N x1194)).drew) := by rw [hiN1194, hjN1194, hx1194, hy1194]; exact S2.out.swapped R (j) (j - 1) (by omega) (by omega)
            have c1194a := S2.out.c1 R (by omega) (j) (by omega)
            have c1194b := S2.out.c1 R (by omega) (j - 1) (by omega)
            have f1194a := S2.out.f1 R (by omega) (j) (by omega)
            have f1194b := S2.out.f1 R (by omega) (j - 1) (by omega)
            obtain ⟨u1194, c1194c⟩ := S2.out.c2 R (by omega) (j) (j - 1) (by omega) (by omega) (E N y1194)
            rw [← hjN1194, ← hiN1194] at c1194c
            rw [← hx1194, ← hiN1194] at c1194a
            rw [← hy1194, ← hjN1194] at c1194b
            rw [← hiN1194] at f1194a
            rw [← hjN1194] at f1194b
            clear S2 hx1194 hy1194 hiN1194 hjN1194
            go_wp2_with fail
            go_big_region_o
            clear c1194a c1194b c1194c f1194a f1194b
            generalize ((w2.setCell ⟨blk, off + iN1194, none⟩ (E N y1194)).setCell ⟨blk, off + jN1194, none⟩ (E N x1194)).drew = w3 at S3 ⊢
            clear ea1194 ec1194
            go_wp2
            go_roundg (j - 1)
            case measure => omega
            case rel => exact ⟨j - 1, swp dj j (j - 1), by first | rfl | go_num | (congr 1; omega), by omega, by omega, Nat.le_refl _, by rw [size_swp]; exact hsj, S3, (show Hid _ from by rw [← HI.out, insInner_go (ltOf cf) a j dj hja hlv]; exact rfl)⟩
          | false =>
            obtain ⟨iN1195, hiN1195⟩ : ∃ q, q = j := ⟨_, rfl⟩
            obtain ⟨jN1195, hjN1195⟩ : ∃ q, q = j - 1 := ⟨_, rfl⟩
            have ea1195 : ((jp : Int) + 1).toNat = iN1195 := by omega
            have pa1195 : (0 : Int) ≤ (jp : Int) + 1 := by omega
            have ba1195 : (jp : Int) + 1 < (d.size : Int) := by omega
            have ra1195 : IntKind.i64.wrap ((jp : Int) + 1) = (jp : Int) + 1 := by rw [IntKind.wrap_i64]; omega
            have ec1195 : ((jp : Int)).toNat = jN1195 := by omega
            have pc1195 : (0 : Int) ≤ (jp : Int) := by omega
            have bc1195 : (jp : Int) < (d.size : Int) := by omega
            have rc1195 : IntKind.i64.wrap ((jp : Int)) = (jp : Int) := by rw [IntKind.wrap_i64]; omega
            obtain ⟨x1195, hx1195⟩ : ∃ x, x = dj[j]! := ⟨_, rfl⟩
            obtain ⟨y1195, hy1195⟩ : ∃ x, x = dj[j - 1]! := ⟨_, rfl⟩
            have l1195a := SJ.out.cl R (by omega) (j) (by omega)
            have l1195b := SJ.out.cl R (by omega) (j - 1) (by omega)
            rw [← hx1195, ← hiN1195] at l1195a
            rw [← hy1195, ← hjN1195] at l1195b
            have hc1195 := SJ.out.cmp HC.out (by omega) x1195 y1195
            have hv1195 : ¬ cf x1195 y1195 < 0 := by rw [hx1195, hy1195]; exact of_decide_eq_false hlv
            have hd1195 : decide (cf x1195 y1195 < 0) = false := decide_eq_false hv1195
            clear hx1195 hy1195 hiN1195 hjN1195
            go_wp2_with fail
            go_quiet_grown (first | (go_at_fn g; refine Calls.grown_of (hc1195 _ _)))
            have S2 : Aside (SW (E N) w0 blk off dj (grow (wr.drewN nq) osq)) := SJ.out.grown nq osq
            clear l1195a l1195b hc1195 SJ
            generalize grow (wr.drewN nq) osq = w2 at S2 ⊢
            clear nq osq
            clear ea1195 ec1195
            go_wp2
            go_roundg (b - (i + 1))
            case measure => omega
            case rel => exact ⟨i + 1, dj, by go_num, by omega, by omega, by omega, hsj, S2, OUT.out (Or.inr hlv)⟩
        · -- j = a: out of the inner loop (the guard is false: 'cmp' is not called)
          have hjaz : decide ((j : Int) > (a : Int)) = false := decide_eq_false (by omega)
          have hjaz' : ¬ (a : Int) < (j : Int) := by omega
          go_wp2_with fail
          go_big_region_o
          have S2 : Aside (SW (E N) w0 blk off dj wr.drew) := SJ.out.drew
          clear SJ
          generalize wr.drew = w2 at S2 ⊢
          go_wp2
          go_roundg (b - (i + 1))
          case measure => omega
          case rel => exact ⟨i + 1, dj, by go_num, by omega, by omega, by omega, hsj, S2, OUT.out (Or.inl (by omega))⟩
    · -- the outer loop is at its end
      have hltz : ¬ (i : Int) < (b : Int) := by omega
      go_wp2
      go_end0
      exact ⟨rfl, by unfold Sort.insertionSort; rw [← HO.out, insOuter_stop _ _ _ _ _ hlt]; exact S1.out⟩


end Go.Proofs.Ytlgagppdipdkeaa.Stb

end
namespace Go.Proofs.Ytlgagppdipdkeaa.Stb
open Go.Shelf Go.RowKit Go.Lib Go.Sort Go.Proofs

set_option maxHeartbeats 16000000 in
set_option maxRecDepth 1000000 in
theorem swapRange {N : Nat} (g : Nat) (cb : Array Value) (blk off cap a b n : Nat) (d0 d : Array (Ix N)) (w0 w : World)
    (R : Row1 (E N) w0 blk off d0) (hs : d0.size = d.size) (S : SW (E N) w0 blk off d w) (hab : a + n ≤ b) (hb : b + n ≤ d.size) (hsz : d.size < 1152921504606846976) :
    Calls Try.prog 133 #[.slice (some ⟨blk, off, none⟩) d.size cap, .int .i64 a, .int .i64 b, .int .i64 n, .func (.func g) #[] cb] w fun e w' => e = .returned (.tuple #[]) ∧ SW (E N) w0 blk off (swr d a b n) w' := by
  have mixed : Try.prog.follows Departure.mixedOrders = true := by decide
  have S0 : Aside (SW (E N) w0 blk off d w) := S
  clear S
  go_enter Try.func133, Try.ntmps133
  go_wp2
  go_loopg [10] n (fun g1 vi wr => ∃ (i : Nat), vi = .int .i64 i ∧ i ≤ n ∧ n - i ≤ g1 ∧ Aside (SW (E N) w0 blk off (swr d a b i) wr))
  case atStart => exact ⟨0, rfl, Nat.zero_le _, Nat.le_refl _, S0⟩
  case round =>
    clear S0
    obtain ⟨i, rfl, hin, hg1, S1⟩ := hrel
    have zs : (swr d a b i).size = d.size := size_swr ..
    by_cases hlt : i < n
    · have hltz : (i : Int) < (n : Int) := by omega
      obtain ⟨dk, hdk⟩ : ∃ q, q = swr d a b i := ⟨_, rfl⟩
      obtain ⟨iN, hiN⟩ : ∃ q, q = a + i := ⟨_, rfl⟩
      obtain ⟨jN, hjN⟩ : ∃ q, q = b + i := ⟨_, rfl⟩
      have ea : ((a : Int) + (i : Int)).toNat = iN := by omega
      have pa : (0 : Int) ≤ (a : Int) + (i : Int) := by omega
      have ba : (a : Int) + (i : Int) < (d.size : Int) := by omega
      have ra : IntKind.i64.wrap ((a : Int) + (i : Int)) = (a : Int) + (i : Int) := by rw [IntKind.wrap_i64]; omega
      have ec : ((b : Int) + (i : Int)).toNat = jN := by omega
      have pc : (0 : Int) ≤ (b : Int) + (i : Int) := by omega
      have bc : (b : Int) + (i : Int) < (d.size : Int) := by omega
      have rc : IntKind.i64.wrap ((b : Int) + (i : Int)) = (b : Int) + (i : Int) := by rw [IntKind.wrap_i64]; omega
      rw [← hdk] at S1 zs
      obtain ⟨x, hx⟩ : ∃ x, x = dk[iN]! := ⟨_, rfl⟩
      obtain ⟨y, hy⟩ : ∃ x, x = dk[jN]! := ⟨_, rfl⟩
      have S3 : Aside (SW (E N) w0 blk off (swp dk iN jN) ((wr.setCell ⟨blk, off + iN, none⟩ (.int .i64 y)).setCell ⟨blk, off + jN, none⟩ (.int .i64 x)).drew) := by rw [hx, hy]; exact S1.out.swapped R iN jN (by omega) (by omega)
      have c1a := S1.out.c1 R (by omega) iN (by omega)
      have c1b := S1.out.c1 R (by omega) jN (by omega)
      have f1a := S1.out.f1 R (by omega) iN (by omega)
      have f1b := S1.out.f1 R (by omega) jN (by omega)
      obtain ⟨u1, c1c⟩ := S1.out.c2 R (by omega) iN jN (by omega) (by omega) (.int .i64 y)
      rw [← hx] at c1a
      rw [← hy] at c1b
      have hnext : swp dk iN jN = swr d a b (i + 1) := by rw [hdk, hiN, hjN]; rfl
      rw [hnext] at S3
      clear S1 hx hy hiN hjN hdk hnext
      go_wp2_with fail
      go_big_region_o
      clear c1a c1b c1c f1a f1b
      generalize ((wr.setCell ⟨blk, off + iN, none⟩ (.int .i64 y)).setCell ⟨blk, off + jN, none⟩ (.int .i64 x)).drew = w3 at S3 ⊢
      clear ea ec
      go_wp2
      go_roundg (n - (i + 1))
      case measure => omega
      case rel => exact ⟨i + 1, by go_num, by omega, Nat.le_refl _, S3⟩
    · have hltz : ¬ (i : Int) < (n : Int) := by omega
      have hi : i = n := by omega
      subst hi
      go_wp2
      go_end0
      exact ⟨rfl, S1.out⟩

set_option maxHeartbeats 16000000 in
set_option maxRecDepth 1000000 in
theorem rotate {N : Nat} (g : Nat) (cb : Array Value) (blk off cap a m b : Nat) (d0 d : Array (Ix N)) (w0 w : World)
    (R : Row1 (E N) w0 blk off d0) (hs : d0.size = d.size) (S : SW (E N) w0 blk off d w) (ham : a < m) (hmb : m < b) (hb : b ≤ d.size) (hsz : d.size < 1152921504606846976) :
    Calls Try.prog 131 #[.slice (some ⟨blk, off, none⟩) d.size cap, .int .i64 a, .int .i64 m, .int .i64 b, .func (.func g) #[] cb] w fun e w' => e = .returned (.tuple #[]) ∧ SW (E N) w0 blk off (rot d a m b) w' := by
  have mixed : Try.prog.follows Departure.mixedOrders = true := by decide
  have S0 : Aside (SW (E N) w0 blk off d w) := S
  clear S
  obtain ⟨i0, hi0⟩ : ∃ q, q = m - a := ⟨_, rfl⟩
  obtain ⟨j0, hj0⟩ : ∃ q, q = b - m := ⟨_, rfl⟩
  have zi0 : (m : Int) - (a : Int) = (i0 : Int) := by omega
  have zj0 : (b : Int) - (m : Int) = (j0 : Int) := by omega
  have wi0 : IntKind.i64.wrap (i0 : Int) = (i0 : Int) := by rw [IntKind.wrap_i64]; omega
  have wj0 : IntKind.i64.wrap (j0 : Int) = (j0 : Int) := by rw [IntKind.wrap_i64]; omega
  go_enter Try.func131, Try.ntmps131
  go_wp2
  go_loopg [10, 11] (i0 + j0) (fun g1 vi vj wr => ∃ (i j : Nat) (dk : Array (Ix N)), vi = .int .i64 i ∧ vj = .int .i64 j ∧ 0 < i ∧ 0 < j ∧ i ≤ m ∧ m + j ≤ d.size ∧ i + j ≤ g1 ∧ dk.size = d.size ∧ Aside (SW (E N) w0 blk off dk wr) ∧ Hid (rot dk (m - i) m (m + j) = rot d a m b))
  case atStart => exact ⟨i0, j0, d, by first | go_num | (congr 1; omega), by first | go_num | (congr 1; omega), by omega, by omega, by omega, by omega, by omega, rfl, S0, by show _ = _; congr 1 <;> omega⟩
  case round =>
    clear S0
    obtain ⟨i, j, dk, rfl, rfl, hi, hj, him, hjm, hg1, hsk, S1, HR⟩ := hrel
    have z1 : (m : Int) - (i : Int) = ((m - i : Nat) : Int) := by omega
    have w1 : IntKind.i64.wrap ((m - i : Nat) : Int) = ((m - i : Nat) : Int) := by rw [IntKind.wrap_i64]; omega
    by_cases hne : i = j
    · subst hne
      have hc := fun w => swapRange g cb blk off cap (m - i) m i d0 dk w0 w R (by omega)
      go_wp2_with (go_at_call 133; (first | rw [z1] | skip); (first | rw [w1] | skip); (rw [← hsk]; with_reducible refine (hc _ S1.out (by omega) (by omega) (by omega)).mono ?_); rintro e w' ⟨rfl, S2⟩)
      go_end0
      refine ⟨rfl, ?_⟩
      rw [← HR.out, ← rot_same dk m i him (by omega)]
      exact S2
    · by_cases hgt : j < i
      · have hc := fun w => swapRange g cb blk off cap (m - i) m j d0 dk w0 w R (by omega)
        have z2 : (i : Int) - (j : Int) = ((i - j : Nat) : Int) := by omega
        have w2 : IntKind.i64.wrap ((i - j : Nat) : Int) = ((i - j : Nat) : Int) := by rw [IntKind.wrap_i64]; omega
        go_wp2_with (go_at_call 133; (first | rw [z1] | skip); (first | rw [w1] | skip); (rw [← hsk]; with_reducible refine (hc _ S1.out (by omega) (by omega) (by omega)).mono ?_); rintro e w' ⟨rfl, S2⟩)
        go_roundg (i - j + j)
        case measure => omega
        case rel => exact ⟨i - j, j, swr dk (m - i) m j, by go_num, rfl, by omega, hj, by omega, hjm, Nat.le_refl _, (size_swr ..).trans hsk, S2, (show _ = _ from by rw [← HR.out]; exact rot_more dk m i j hgt him (by omega))⟩
      · have hc := fun w => swapRange g cb blk off cap (m - i) (m + j - i) i d0 dk w0 w R (by omega)
        have z2 : (j : Int) - (i : Int) = ((j - i : Nat) : Int) := by omega
        have z3 : (m : Int) + (j : Int) - (i : Int) = ((m + j - i : Nat) : Int) := by omega
        go_wp2_with (go_at_call 133; (first | rw [z1] | skip); (first | rw [w1] | skip); (first | rw [z3] | skip); (rw [← hsk]; with_reducible refine (hc _ S1.out (by omega) (by omega) (by omega)).mono ?_); rintro e w' ⟨rfl, S2⟩)
        go_roundg (i + (j - i))
        case measure => omega
        case rel => exact ⟨i, j - i, swr dk (m - i) (m + j - i) i, rfl, by go_num, hi, by omega, him, by omega, Nat.le_refl _, (size_swr ..).trans hsk, S2, (show _ = _ from by rw [← HR.out]; exact rot_less dk m i j (by omega) him (by omega))⟩

end Go.Proofs.Ytlgagppdipdkeaa.Stb

end
namespace Go.Proofs.Ytlgagppdipdkeaa.Stb
open Go.Shelf Go.RowKit Go.Lib Go.Sort Go.Proofs

theorem rotate' {N : Nat} (g : Nat) (cb : Array Value) (blk off cap a m b n : Nat) (d0 d : Array (Ix N)) (w0 w : World) (hn : d.size = n)
    (R : Row1 (E N) w0 blk off d0) (hs : d0.size = n) (S : SW (E N) w0 blk off d w) (ham : a < m) (hmb : m < b) (hb : b ≤ n) (hsz : n < 1152921504606846976) :
    Calls Try.prog 131 #[.slice (some ⟨blk, off, none⟩) n cap, .int .i64 a, .int .i64 m, .int .i64 b, .func (.func g) #[] cb] w fun e w' => e = .returned (.tuple #[]) ∧ SW (E N) w0 blk off (rot d a m b) w' := by
  subst hn; exact rotate g cb blk off cap a m b d0 d w0 w R hs S ham hmb hb hsz

theorem lt_or_eq (a b : Nat) (h : a ≤ b) : a < b ∨ a = b := Nat.lt_or_eq_of_le h

/-- What symMerge says at runs no longer than k. -/
def Merges {N : Nat} (cf : Ix N → Ix N → Int) (g : Nat) (cb : Array Value) (blk off cap n : Nat) (w0 : World) (k : Nat) : Prop :=
  ∀ (a m b : Nat) (d : Array (Ix N)) (w : World), b - a ≤ k → d.size = n → SW (E N) w0 blk off d w → a < m → m < b → b ≤ n → SortedIn (ltOf cf) a m d → SortedIn (ltOf cf) m b d →
    Calls Try.prog 121 #[.slice (some ⟨blk, off, none⟩) n cap, .int .i64 a, .int .i64 m, .int .i64 b, .func (.func g) #[] cb] w fun e w' => e = .returned (.tuple #[]) ∧ ∃ d', Put (ltOf cf) a b d d' ∧ SortedIn (ltOf cf) a b d' ∧ SW (E N) w0 blk off d' w'

set_option maxHeartbeats 16000000 in
set_option maxRecDepth 1000000 in
theorem merge_up {N : Nat} (cf : Ix N → Ix N → Int) (hS : SWO (ltOf cf)) (g : Nat) (cb : Array Value) (blk off cap n : Nat) (d0 : Array (Ix N)) (w0 : World)
    (eg : ∀ args w, (callFunc g args).run Try.prog w = .ok (.enter g args) w) (hcmp : CmpLays1 Try.prog g cb (E N) cf blk off d0.size w0) (R : Row1 (E N) w0 blk off d0) (hn0 : d0.size = n) (hsz : n < 1152921504606846976)
    (a m b : Nat) (d : Array (Ix N)) (w : World) (hn : d.size = n) (S : SW (E N) w0 blk off d w) (ham1 : a < m) (ham2 : m ≤ a + 1) (hmb : m < b) (hb : b ≤ n) (h2 : SortedIn (ltOf cf) m b d) :
    Calls Try.prog 121 #[.slice (some ⟨blk, off, none⟩) n cap, .int .i64 a, .int .i64 m, .int .i64 b, .func (.func g) #[] cb] w fun e w' => e = .returned (.tuple #[]) ∧ ∃ d', Put (ltOf cf) a b d d' ∧ SortedIn (ltOf cf) a b d' ∧ SW (E N) w0 blk off d' w' := by
  have mixed : Try.prog.follows Departure.mixedOrders = true := by decide
  have HC : Aside _ := hcmp
  have S0 : Aside (SW (E N) w0 blk off d w) := S
  have OUT : Aside (∀ i, m ≤ i → i ≤ b → (∀ k, m ≤ k → k < i → ltOf cf d[k]! d[a]! = true) → (∀ k, i ≤ k → k < b → ltOf cf d[k]! d[a]! = false) → Put (ltOf cf) a b d (rot d a (a + 1) i) ∧ SortedIn (ltOf cf) a b (rot d a (a + 1) i)) :=
    fun i i1 i2 i3 i4 => one_up hS d a b i (by omega) i2 (by omega) (by rw [show a + 1 = m by omega]; exact h2) (fun k k1 k2 => i3 k (by omega) k2) i4
  have H2 : Aside _ := h2
  clear S hcmp h2
  have hc1 : (m : Int) - (a : Int) = 1 := by omega
  go_enter Try.func121, Try.ntmps121
  go_wp2
  clear hc1
  go_loopg [10, 11] (b - m) (fun g1 vi vj wr => ∃ (i j : Nat), vi = .int .i64 i ∧ vj = .int .i64 j ∧ m ≤ i ∧ i ≤ j ∧ j ≤ b ∧ j - i ≤ g1 ∧ Aside (SW (E N) w0 blk off d wr) ∧ Aside (∀ k, m ≤ k → k < i → ltOf cf d[k]! d[a]! = true) ∧ Aside (∀ k, j ≤ k → k < b → ltOf cf d[k]! d[a]! = false))
  case atStart => exact ⟨m, b, rfl, rfl, Nat.le_refl _, by omega, Nat.le_refl _, Nat.le_refl _, S0, fun k k1 k2 => by omega, fun k k1 k2 => by omega⟩
  case round =>
    clear S0
    obtain ⟨i, j, rfl, rfl, hmi, hij, hjb, hg1, S1, LO, HI⟩ := hrel
    by_cases hlt : i < j
    · have hltz : (i : Int) < (j : Int) := by omega
      go_wp2_with fail
      obtain ⟨h, hh⟩ : ∃ h : Nat, h = (i + j) / 2 := ⟨_, rfl⟩
      have zh : ((i : Int) + (j : Int)) / 2 = (h : Int) := by omega
      have hh1 : i ≤ h := by omega
      have hh2 : h < j := by omega
      rw [zh]
      clear zh hh
      obtain ⟨iN, hiN⟩ : ∃ q, q = h := ⟨_, rfl⟩
      obtain ⟨jN, hjN⟩ : ∃ q, q = a := ⟨_, rfl⟩
      have ea : ((h : Int)).toNat = iN := by omega
      have pa : (0 : Int) ≤ (h : Int) := by omega
      have ba : (h : Int) < (n : Int) := by omega
      have ec : ((a : Int)).toNat = jN := by omega
      have pc : (0 : Int) ≤ (a : Int) := by omega
      have bc : (a : Int) < (n : Int) := by omega
      obtain ⟨x, hx⟩ : ∃ x, x = d[h]! := ⟨_, rfl⟩
      obtain ⟨y, hy⟩ : ∃ x, x = d[a]! := ⟨_, rfl⟩
      have la := S1.out.cl R (by omega) h (by omega)
      have lb := S1.out.cl R (by omega) a (by omega)
      rw [← hx, ← hiN] at la
      rw [← hy, ← hjN] at lb
      have hc := S1.out.cmp HC.out (by omega) x y
      cases hlv : ltOf cf d[h]! d[a]! with
      | true =>
        have hv : cf x y < 0 := by rw [hx, hy]; exact of_decide_eq_true hlv
        have hd : decide (cf x y < 0) = true := decide_eq_true hv
        clear hx hy hiN hjN
        go_quiet_grown (first | (go_at_fn g; refine Calls.grown_of (hc _ _)))
        have S2 : Aside (SW (E N) w0 blk off d (grow (wr.drewN nq) osq)) := S1.out.grown nq osq
        clear la lb hc S1
        generalize grow (wr.drewN nq) osq = w2 at S2 ⊢
        clear nq osq ea ec
        go_wp2
        go_roundg (j - (h + 1))
        case measure => omega
        case rel => exact ⟨h + 1, j, by first | rfl | go_num, rfl, by omega, by omega, hjb, Nat.le_refl _, S2, fun k k1 k2 => (lt_or_eq k h (by omega)).elim (fun c => le_lt hS (sorted_le hS H2.out k h k1 (by omega) (by omega)) hlv) (fun c => by rw [c]; exact hlv), HI⟩
      | false =>
        have hv : ¬ cf x y < 0 := by rw [hx, hy]; exact of_decide_eq_false hlv
        have hd : decide (cf x y < 0) = false := decide_eq_false hv
        clear hx hy hiN hjN
        go_quiet_grown (first | (go_at_fn g; refine Calls.grown_of (hc _ _)))
        have S2 : Aside (SW (E N) w0 blk off d (grow (wr.drewN nq) osq)) := S1.out.grown nq osq
        clear la lb hc S1
        generalize grow (wr.drewN nq) osq = w2 at S2 ⊢
        clear nq osq ea ec
        go_wp2
        go_roundg (h - i)
        case measure => omega
        case rel => exact ⟨i, h, rfl, by first | rfl | go_num, hmi, hh1, by omega, Nat.le_refl _, S2, LO, fun k k1 k2 => hS.ntrans _ _ _ (sorted_le hS H2.out h k (by omega) k1 (by omega)) hlv⟩
    · have hji : j = i := by omega
      subst hji
      have HP := OUT.out j hmi hjb LO.out HI.out
      have HO : Aside _ := HP
      clear HP OUT LO HI H2 hlt
      have zj1 : IntKind.i64.wrap ((j : Int) - 1) = (j : Int) - 1 := by rw [IntKind.wrap_i64]; omega
      go_wp2
      go_loopg [13] (j - a) (fun g1 vk wr => ∃ (k : Nat), vk = .int .i64 k ∧ a ≤ k ∧ k + 1 ≤ j ∧ j - k ≤ g1 ∧ Aside (SW (E N) w0 blk off (rot d a (a + 1) (k + 1)) wr))
      case atStart => exact ⟨a, rfl, Nat.le_refl _, by omega, Nat.le_refl _, by rw [rot_none d a (a + 1) (a + 1) (Or.inr rfl) (by omega) (by omega) (Nat.le_refl _)]; exact S1⟩
      case round =>
        clear S1
        obtain ⟨k, rfl, hak, hkj, hg1, S1⟩ := hrel
        by_cases hkl : k + 1 < j
        · have hltz : (k : Int) < (j : Int) - 1 := by omega
          obtain ⟨dk, hdk⟩ : ∃ q, q = rot d a (a + 1) (k + 1) := ⟨_, rfl⟩
          have zs : dk.size = n := by rw [hdk, size_rot, hn]
          obtain ⟨iN, hiN⟩ : ∃ q, q = k := ⟨_, rfl⟩
          obtain ⟨jN, hjN⟩ : ∃ q, q = k + 1 := ⟨_, rfl⟩
          have ea : ((k : Int)).toNat = iN := by omega
          have pa : (0 : Int) ≤ (k : Int) := by omega
          have ba : (k : Int) < (n : Int) := by omega
          have ec : ((k : Int) + 1).toNat = jN := by omega
          have pc : (0 : Int) ≤ (k : Int) + 1 := by omega
          have bc : (k : Int) + 1 < (n : Int) := by omega
          have rc : IntKind.i64.wrap ((k : Int) + 1) = (k : Int) + 1 := by rw [IntKind.wrap_i64]; omega
          rw [← hdk] at S1
          obtain ⟨x, hx⟩ : ∃ x, x = dk[iN]! := ⟨_, rfl⟩
          obtain ⟨y, hy⟩ : ∃ x, x = dk[jN]! := ⟨_, rfl⟩
          have S3 : Aside (SW (E N) w0 blk off (swp dk iN jN) ((wr.setCell ⟨blk, off + iN, none⟩ (.int .i64 y)).setCell ⟨blk, off + jN, none⟩ (.int .i64 x)).drew) := by rw [hx, hy]; exact S1.out.swapped R iN jN (by omega) (by omega)
          have c1a := S1.out.c1 R (by omega) iN (by omega)
          have c1b := S1.out.c1 R (by omega) jN (by omega)
          have f1a := S1.out.f1 R (by omega) iN (by omega)
          have f1b := S1.out.f1 R (by omega) jN (by omega)
          obtain ⟨u1, c1c⟩ := S1.out.c2 R (by omega) iN jN (by omega) (by omega) (.int .i64 y)
          rw [← hx] at c1a
          rw [← hy] at c1b
          have hnext : swp dk iN jN = rot d a (a + 1) (k + 1 + 1) := by rw [hdk, hiN, hjN]; exact rot_up d a k hak (by omega)
          rw [hnext] at S3
          clear S1 hx hy hiN hjN hdk hnext
          go_wp2_with fail
          go_big_region_o
          clear c1a c1b c1c f1a f1b
          generalize ((wr.setCell ⟨blk, off + iN, none⟩ (.int .i64 y)).setCell ⟨blk, off + jN, none⟩ (.int .i64 x)).drew = w3 at S3 ⊢
          clear ea ec
          go_wp2
          go_roundg (j - (k + 1))
          case measure => omega
          case rel => exact ⟨k + 1, by first | rfl | go_num, by omega, by omega, Nat.le_refl _, S3⟩
        · have hltz : ¬ (k : Int) < (j : Int) - 1 := by omega
          rw [show k + 1 = j by omega] at S1
          go_wp2
          refine bodyPost_ret (results_none rfl _ _ _) rfl ?_
          exact ⟨rfl, _, HO.out.1, HO.out.2, S1.out⟩

end Go.Proofs.Ytlgagppdipdkeaa.Stb

end
namespace Go.Proofs.Ytlgagppdipdkeaa.Stb
open Go.Shelf Go.RowKit Go.Lib Go.Sort Go.Proofs

set_option maxHeartbeats 16000000 in
set_option maxRecDepth 1000000 in
theorem merge_down {N : Nat} (cf : Ix N → Ix N → Int) (hS : SWO (ltOf cf)) (g : Nat) (cb : Array Value) (blk off cap n : Nat) (d0 : Array (Ix N)) (w0 : World)
    (eg : ∀ args w, (callFunc g args).run Try.prog w = .ok (.enter g args) w) (hcmp : CmpLays1 Try.prog g cb (E N) cf blk off d0.size w0) (R : Row1 (E N) w0 blk off d0) (hn0 : d0.size = n) (hsz : n < 1152921504606846976)
    (a m b : Nat) (d : Array (Ix N)) (w : World) (hn : d.size = n) (S : SW (E N) w0 blk off d w) (ham : a + 1 < m) (hmb1 : m < b) (hmb2 : b ≤ m + 1) (hb : b ≤ n) (h2 : SortedIn (ltOf cf) a m d) :
    Calls Try.prog 121 #[.slice (some ⟨blk, off, none⟩) n cap, .int .i64 a, .int .i64 m, .int .i64 b, .func (.func g) #[] cb] w fun e w' => e = .returned (.tuple #[]) ∧ ∃ d', Put (ltOf cf) a b d d' ∧ SortedIn (ltOf cf) a b d' ∧ SW (E N) w0 blk off d' w' := by
  have mixed : Try.prog.follows Departure.mixedOrders = true := by decide
  have HC : Aside _ := hcmp
  have S0 : Aside (SW (E N) w0 blk off d w) := S
  have OUT : Aside (∀ i, a ≤ i → i ≤ m → (∀ k, a ≤ k → k < i → ltOf cf d[m]! d[k]! = false) → (∀ k, i ≤ k → k < m → ltOf cf d[m]! d[k]! = true) → Put (ltOf cf) a b d (rot d i m (m + 1)) ∧ SortedIn (ltOf cf) a b (rot d i m (m + 1))) :=
    fun i i1 i2 i3 i4 => by
      have := one_down hS d a m i i1 i2 (by omega) h2 i3 i4
      rwa [show m + 1 = b by omega] at this ⊢
  have H2 : Aside _ := h2
  clear S hcmp h2
  have hc0 : ((m : Int) - (a : Int) == 1) = false := beq_eq_false_iff_ne.mpr (by omega)
  have hc1 : (b : Int) - (m : Int) = 1 := by omega
  go_enter Try.func121, Try.ntmps121
  go_wp2
  clear hc1 hc0
  go_loopg [14, 15] (m - a) (fun g1 vi vj wr => ∃ (i j : Nat), vi = .int .i64 i ∧ vj = .int .i64 j ∧ a ≤ i ∧ i ≤ j ∧ j ≤ m ∧ j - i ≤ g1 ∧ Aside (SW (E N) w0 blk off d wr) ∧ Aside (∀ k, a ≤ k → k < i → ltOf cf d[m]! d[k]! = false) ∧ Aside (∀ k, j ≤ k → k < m → ltOf cf d[m]! d[k]! = true))
  case atStart => exact ⟨a, m, rfl, rfl, Nat.le_refl _, by omega, Nat.le_refl _, Nat.le_refl _, S0, fun k k1 k2 => by omega, fun k k1 k2 => by omega⟩
  case round =>
    clear S0
    obtain ⟨i, j, rfl, rfl, hmi, hij, hjb, hg1, S1, LO, HI⟩ := hrel
    by_cases hlt : i < j
    · have hltz : (i : Int) < (j : Int) := by omega
      go_wp2_with fail
      obtain ⟨h, hh⟩ : ∃ h : Nat, h = (i + j) / 2 := ⟨_, rfl⟩
      have zh : ((i : Int) + (j : Int)) / 2 = (h : Int) := by omega
      have hh1 : i ≤ h := by omega
      have hh2 : h < j := by omega
      rw [zh]
      clear zh hh
      obtain ⟨iN, hiN⟩ : ∃ q, q = m := ⟨_, rfl⟩
      obtain ⟨jN, hjN⟩ : ∃ q, q = h := ⟨_, rfl⟩
      have ea : ((m : Int)).toNat = iN := by omega
      have pa : (0 : Int) ≤ (m : Int) := by omega
      have ba : (m : Int) < (n : Int) := by omega
      have ec : ((h : Int)).toNat = jN := by omega
      have pc : (0 : Int) ≤ (h : Int) := by omega
      have bc : (h : Int) < (n : Int) := by omega
      obtain ⟨x, hx⟩ : ∃ x, x = d[m]! := ⟨_, rfl⟩
      obtain ⟨y, hy⟩ : ∃ x, x = d[h]! := ⟨_, rfl⟩
      have la := S1.out.cl R (by omega) m (by omega)
      have lb := S1.out.cl R (by omega) h (by omega)
      rw [← hx, ← hiN] at la
      rw [← hy, ← hjN] at lb
      have hc := S1.out.cmp HC.out (by omega) x y
      cases hlv : ltOf cf d[m]! d[h]! with
      | true =>
        have hv : cf x y < 0 := by rw [hx, hy]; exact of_decide_eq_true hlv
        have hd : decide (cf x y < 0) = true := decide_eq_true hv
        clear hx hy hiN hjN
        go_quiet_grown (first | (go_at_fn g; refine Calls.grown_of (hc _ _)))
        have S2 : Aside (SW (E N) w0 blk off d (grow (wr.drewN nq) osq)) := S1.out.grown nq osq
        clear la lb hc S1
        generalize grow (wr.drewN nq) osq = w2 at S2 ⊢
        clear nq osq ea ec
        go_wp2
        go_roundg (h - i)
        case measure => omega
        case rel => exact ⟨i, h, rfl, by first | rfl | go_num, hmi, hh1, by omega, Nat.le_refl _, S2, LO, fun k k1 k2 => lt_le hS hlv (sorted_le hS H2.out h k (by omega) k1 (by omega))⟩
      | false =>
        have hv : ¬ cf x y < 0 := by rw [hx, hy]; exact of_decide_eq_false hlv
        have hd : decide (cf x y < 0) = false := decide_eq_false hv
        clear hx hy hiN hjN
        go_quiet_grown (first | (go_at_fn g; refine Calls.grown_of (hc _ _)))
        have S2 : Aside (SW (E N) w0 blk off d (grow (wr.drewN nq) osq)) := S1.out.grown nq osq
        clear la lb hc S1
        generalize grow (wr.drewN nq) osq = w2 at S2 ⊢
        clear nq osq ea ec
        go_wp2
        go_roundg (j - (h + 1))
        case measure => omega
        case rel => exact ⟨h + 1, j, by first | rfl | go_num, rfl, by omega, by omega, hjb, Nat.le_refl _, S2, fun k k1 k2 => hS.ntrans _ _ _ hlv (sorted_le hS H2.out k h k1 (by omega) (by omega)), HI⟩
    · obtain rfl : j = i := by omega
      have HP := OUT.out j hmi hjb LO.out HI.out
      have HO : Aside _ := HP
      clear HP OUT LO HI H2 hlt
      go_wp2
      go_loopg [17] (m - j) (fun g1 vk wr => ∃ (k : Nat), vk = .int .i64 k ∧ j ≤ k ∧ k ≤ m ∧ k - j ≤ g1 ∧ Aside (SW (E N) w0 blk off (rot d k m (m + 1)) wr))
      case atStart => exact ⟨m, rfl, hjb, Nat.le_refl _, Nat.le_refl _, by rw [rot_none d m m (m + 1) (Or.inl rfl) (by omega) (Nat.le_refl _) (by omega)]; exact S1⟩
      case round =>
        clear S1
        obtain ⟨k, rfl, hjk, hkm, hg1, S1⟩ := hrel
        by_cases hkl : j < k
        · obtain ⟨kp, rfl⟩ : ∃ q, k = q + 1 := ⟨k - 1, by omega⟩
          have hltz : (j : Int) < (kp : Int) + 1 := by omega
          obtain ⟨dk, hdk⟩ : ∃ q, q = rot d (kp + 1) m (m + 1) := ⟨_, rfl⟩
          have zs : dk.size = n := by rw [hdk, size_rot, hn]
          obtain ⟨iN, hiN⟩ : ∃ q, q = kp + 1 := ⟨_, rfl⟩
          obtain ⟨jN, hjN⟩ : ∃ q, q = kp := ⟨_, rfl⟩
          have ea : ((kp : Int) + 1).toNat = iN := by omega
          have pa : (0 : Int) ≤ (kp : Int) + 1 := by omega
          have ba : (kp : Int) + 1 < (n : Int) := by omega
          have ra : IntKind.i64.wrap ((kp : Int) + 1) = (kp : Int) + 1 := by rw [IntKind.wrap_i64]; omega
          have ec : ((kp : Int)).toNat = jN := by omega
          have pc : (0 : Int) ≤ (kp : Int) := by omega
          have bc : (kp : Int) < (n : Int) := by omega
          have rc : IntKind.i64.wrap ((kp : Int)) = (kp : Int) := by rw [IntKind.wrap_i64]; omega
          rw [← hdk] at S1
          obtain ⟨x, hx⟩ : ∃ x, x = dk[iN]! := ⟨_, rfl⟩
          obtain ⟨y, hy⟩ : ∃ x, x = dk[jN]! := ⟨_, rfl⟩
          have S3 : Aside (SW (E N) w0 blk off (swp dk iN jN) ((wr.setCell ⟨blk, off + iN, none⟩ (.int .i64 y)).setCell ⟨blk, off + jN, none⟩ (.int .i64 x)).drew) := by rw [hx, hy]; exact S1.out.swapped R iN jN (by omega) (by omega)
          have c1a := S1.out.c1 R (by omega) iN (by omega)
          have c1b := S1.out.c1 R (by omega) jN (by omega)
          have f1a := S1.out.f1 R (by omega) iN (by omega)
          have f1b := S1.out.f1 R (by omega) jN (by omega)
          obtain ⟨u1, c1c⟩ := S1.out.c2 R (by omega) iN jN (by omega) (by omega) (.int .i64 y)
          rw [← hx] at c1a
          rw [← hy] at c1b
          have hnext : swp dk iN jN = rot d kp m (m + 1) := by rw [hdk, hiN, hjN]; exact rot_down d m kp (by omega) (by omega)
          rw [hnext] at S3
          clear S1 hx hy hiN hjN hdk hnext
          go_wp2_with fail
          go_big_region_o
          clear c1a c1b c1c f1a f1b
          generalize ((wr.setCell ⟨blk, off + iN, none⟩ (.int .i64 y)).setCell ⟨blk, off + jN, none⟩ (.int .i64 x)).drew = w3 at S3 ⊢
          clear ea ec
          go_wp2
          go_roundg (kp - j)
          case measure => omega
          case rel => exact ⟨kp, by first | rfl | go_num | (congr 1; omega), by omega, by omega, Nat.le_refl _, S3⟩
        · have hltz : ¬ (j : Int) < (k : Int) := by omega
          obtain rfl : k = j := by omega
          go_wp2
          refine bodyPost_ret (results_none rfl _ _ _) rfl ?_
          exact ⟨rfl, _, HO.out.1, HO.out.2, S1.out⟩

end Go.Proofs.Ytlgagppdipdkeaa.Stb

end
namespace Go.Proofs.Ytlgagppdipdkeaa.Stb
open Go.Shelf Go.RowKit Go.Lib Go.Sort Go.Proofs

theorem three (p q : Prop) : (p ∧ q) ∨ (p ∧ ¬ q) ∨ ¬ p := by
  by_cases hp : p
  · by_cases hq : q
    · exact Or.inl ⟨hp, hq⟩
    · exact Or.inr (Or.inl ⟨hp, hq⟩)
  · exact Or.inr (Or.inr hp)

/-- What is left to do once the cut is found. -/
structure Cut {N : Nat} (cf : Ix N → Ix N → Int) (g : Nat) (cb : Array Value) (blk off cap n : Nat) (w0 : World) (a m b mid s e : Nat) (d : Array (Ix N)) : Prop where
  he : e + s = mid + m
  sm : s ≤ m
  smid : s ≤ mid
  as_ : a ≤ s
  me : m ≤ e
  mide : mid ≤ e
  eb : e ≤ b
  rotd : s < m → m < e → ∀ w, SW (E N) w0 blk off d w → Calls Try.prog 131 #[.slice (some ⟨blk, off, none⟩) n cap, .int .i64 s, .int .i64 m, .int .i64 e, .func (.func g) #[] cb] w fun e_ w' => e_ = .returned (.tuple #[]) ∧ SW (E N) w0 blk off (Stb.rot d s m e) w'
  norot : ¬ (s < m ∧ m < e) → Stb.rot d s m e = d
  left : a < s → s < mid → ∀ w, SW (E N) w0 blk off (Stb.rot d s m e) w → Calls Try.prog 121 #[.slice (some ⟨blk, off, none⟩) n cap, .int .i64 a, .int .i64 s, .int .i64 mid, .func (.func g) #[] cb] w fun e_ w' => e_ = .returned (.tuple #[]) ∧ ∃ d', (Put (ltOf cf) a mid (Stb.rot d s m e) d' ∧ SortedIn (ltOf cf) a mid d') ∧ SW (E N) w0 blk off d' w'
  noleft : ¬ (a < s ∧ s < mid) → Put (ltOf cf) a mid (Stb.rot d s m e) (Stb.rot d s m e) ∧ SortedIn (ltOf cf) a mid (Stb.rot d s m e)
  right : ∀ d', Put (ltOf cf) a mid (Stb.rot d s m e) d' ∧ SortedIn (ltOf cf) a mid d' → mid < e → e < b → ∀ w, SW (E N) w0 blk off d' w → Calls Try.prog 121 #[.slice (some ⟨blk, off, none⟩) n cap, .int .i64 mid, .int .i64 e, .int .i64 b, .func (.func g) #[] cb] w fun e_ w' => e_ = .returned (.tuple #[]) ∧ ∃ d'', (Put (ltOf cf) a b d d'' ∧ SortedIn (ltOf cf) a b d'') ∧ SW (E N) w0 blk off d'' w'
  noright : ∀ d', Put (ltOf cf) a mid (Stb.rot d s m e) d' ∧ SortedIn (ltOf cf) a mid d' → ¬ (mid < e ∧ e < b) → Put (ltOf cf) a b d d' ∧ SortedIn (ltOf cf) a b d'

theorem cut_of {N : Nat} (cf : Ix N → Ix N → Int) (hS : SWO (ltOf cf)) (g : Nat) (cb : Array Value) (blk off cap n : Nat) (d0 : Array (Ix N)) (w0 : World) (R : Row1 (E N) w0 blk off d0) (hn0 : d0.size = n) (hsz : n < 1152921504606846976)
    (k : Nat) (ih : Merges cf g cb blk off cap n w0 k) (a m b mid s : Nat) (d : Array (Ix N)) (hn : d.size = n) (hk : b - a ≤ k + 1) (ham : a < m) (hmb : m < b) (hb : b ≤ n) (hmid1 : a + b ≤ 2 * mid + 1) (hmid2 : 2 * mid ≤ a + b)
    (h1 : SortedIn (ltOf cf) a m d) (h2 : SortedIn (ltOf cf) m b d) (hs1 : a ≤ s) (hs2 : s ≤ m) (hs3 : s ≤ mid) (hs4 : mid + m ≤ b + s)
    (hlo : a < s → mid + m - s < b → ltOf cf d[mid + m - s]! d[s - 1]! = false) (hhi : s < m → m < mid + m - s → ltOf cf d[mid + m - s - 1]! d[s]! = true) :
    Cut cf g cb blk off cap n w0 a m b mid s (mid + m - s) d := by
  have hmid : a ≤ mid := by omega
  have hmb2 : mid ≤ b := by omega
  obtain ⟨P, S1, S2, S3, S4, X⟩ := sym hS d a m b s mid hs1 hs2 hs3 (by omega) (by omega) hmid hmb2 h1 h2 hlo hhi
  obtain ⟨e, he⟩ : ∃ e, e = mid + m - s := ⟨_, rfl⟩
  rw [← he] at P S1 S2 S3 S4 X ⊢
  have zr : (rot d s m e).size = n := by rw [size_rot, hn]
  have fin : ∀ d' d'', Put (ltOf cf) a mid (rot d s m e) d' ∧ SortedIn (ltOf cf) a mid d' → Put (ltOf cf) mid b d' d'' → SortedIn (ltOf cf) mid b d'' → Put (ltOf cf) a b d d'' ∧ SortedIn (ltOf cf) a b d'' := by
    intro d' d'' hp hq hr
    have := halves hS (rot d s m e) d' d'' a mid b hmid hmb2 (by omega) X hp.1 hp.2 hq hr
    exact ⟨P.trans this.1, this.2⟩
  have keep : ∀ d' x y, Put (ltOf cf) a mid (rot d s m e) d' → mid ≤ x → SortedIn (ltOf cf) x y (rot d s m e) → SortedIn (ltOf cf) x y d' :=
    fun d' x y hp hx hy => Stb.SortedIn.off hy fun i i1 i2 => hp.off i (Or.inr (by omega))
  refine ⟨by omega, hs2, hs3, hs1, by omega, by omega, by omega, ?_, ?_, ?_, ?_, ?_, ?_⟩
  · intro c1 c2 w hw
    exact rotate' g cb blk off cap s m e n d0 d w0 w hn R hn0 hw c1 c2 (by omega) hsz
  · intro c
    exact rot_none d s m e (by omega) (by omega) hs2 (by omega)
  · intro c1 c2 w hw
    refine (ih a s mid _ w (by omega) zr hw c1 c2 (by omega) S1 S2).mono ?_
    rintro e_ w' ⟨rfl, d', p1, p2, p3⟩
    exact ⟨rfl, d', ⟨p1, p2⟩, p3⟩
  · intro c
    refine ⟨Put.refl _ _ _, ?_⟩
    rcases Nat.lt_or_ge a s with c1 | c1
    · rw [show mid = s by omega]; exact S1
    · rw [show a = s by omega]; exact S2
  · intro d' hp c1 c2 w hw
    refine (ih mid e b d' w (by omega) (by rw [hp.1.size]; exact zr) hw c1 c2 hb (keep d' _ _ hp.1 (Nat.le_refl _) S3) (keep d' _ _ hp.1 (by omega) S4)).mono ?_
    rintro e_ w' ⟨rfl, d'', p1, p2, p3⟩
    exact ⟨rfl, d'', fin d' d'' hp p1 p2, p3⟩
  · intro d' hp c
    refine fin d' d' hp (Put.refl _ _ _) ?_
    rcases Nat.lt_or_ge mid e with c1 | c1
    · rw [show b = e by omega]; exact keep d' _ _ hp.1 (Nat.le_refl _) S3
    · have : mid = e := by omega
      rw [this]; exact keep d' _ _ hp.1 (by omega) S4

set_option maxHeartbeats 16000000 in
set_option maxRecDepth 1000000 in
theorem merge_mid {N : Nat} (cf : Ix N → Ix N → Int) (hS : SWO (ltOf cf)) (g : Nat) (cb : Array Value) (blk off cap n : Nat) (d0 : Array (Ix N)) (w0 : World)
    (eg : ∀ args w, (callFunc g args).run Try.prog w = .ok (.enter g args) w) (hcmp : CmpLays1 Try.prog g cb (E N) cf blk off d0.size w0) (R : Row1 (E N) w0 blk off d0) (hn0 : d0.size = n) (hsz : n < 1152921504606846976)
    (kk : Nat) (ih : Merges cf g cb blk off cap n w0 kk)
    (a m b : Nat) (d : Array (Ix N)) (w : World) (hkk : b - a ≤ kk + 1) (hn : d.size = n) (S : SW (E N) w0 blk off d w) (ham : a + 1 < m) (hmb : m + 1 < b) (hb : b ≤ n) (h1 : SortedIn (ltOf cf) a m d) (h2 : SortedIn (ltOf cf) m b d) :
    Calls Try.prog 121 #[.slice (some ⟨blk, off, none⟩) n cap, .int .i64 a, .int .i64 m, .int .i64 b, .func (.func g) #[] cb] w fun e w' => e = .returned (.tuple #[]) ∧ ∃ d', Put (ltOf cf) a b d d' ∧ SortedIn (ltOf cf) a b d' ∧ SW (E N) w0 blk off d' w' := by
  have mixed : Try.prog.follows Departure.mixedOrders = true := by decide
  have HC : Aside _ := hcmp
  have S0 : Aside (SW (E N) w0 blk off d w) := S
  obtain ⟨mid, hmidE⟩ : ∃ q, q = (a + b) / 2 := ⟨_, rfl⟩
  have hm1 : a + b ≤ 2 * mid + 1 := by omega
  have hm2 : 2 * mid ≤ a + b := by omega
  have zmid : ((a : Int) + (b : Int)) / 2 = (mid : Int) := by omega
  clear hmidE
  have CUT := fun s => cut_of cf hS g cb blk off cap n d0 w0 R hn0 hsz kk ih a m b mid s d hn hkk (by omega) (by omega) hb hm1 hm2 h1 h2
  have C0 : Aside _ := CUT
  clear S hcmp h1 h2 CUT ih hkk
  have hc0 : ((m : Int) - (a : Int) == 1) = false := beq_eq_false_iff_ne.mpr (by omega)
  have hc1 : ((b : Int) - (m : Int) == 1) = false := beq_eq_false_iff_ne.mpr (by omega)
  obtain ⟨s0, r0, hsr⟩ : ∃ s0 r0 : Nat, (mid < m ∧ (mid : Int) + (m : Int) - (b : Int) = (s0 : Int) ∧ r0 = mid) ∨ (m ≤ mid ∧ s0 = a ∧ r0 = m) := by
    by_cases c : mid < m
    · exact ⟨mid + m - b, mid, Or.inl ⟨c, by omega, rfl⟩⟩
    · exact ⟨a, m, Or.inr ⟨by omega, rfl, rfl⟩⟩
  have b1 : a ≤ s0 := by omega
  have b2 : s0 ≤ r0 := by omega
  have b3 : r0 ≤ m := by omega
  have b4 : r0 ≤ mid := by omega
  have b5 : mid + m ≤ b + s0 := by omega
  have b6 : a < s0 → mid + m = b + s0 := by omega
  have b7 : r0 < m → r0 = mid := by omega
  have B6 : Aside _ := b6
  have B7 : Aside _ := b7
  clear b6 b7
  go_enter Try.func121, Try.ntmps121
  rcases hsr with ⟨hgt, zs0, hr0⟩ | ⟨hgt, hs0, hr0⟩
  · have hgtz : (mid : Int) < (m : Int) := by omega
    subst r0
    go_wp2
    clear zmid hc0 hc1 zs0
    go_loopg [20, 21] (mid - s0) (fun g1 vi vj wr => ∃ (s r : Nat), vi = .int .i64 s ∧ vj = .int .i64 r ∧ s0 ≤ s ∧ s ≤ r ∧ r ≤ mid ∧ r - s ≤ g1 ∧ Aside (SW (E N) w0 blk off d wr) ∧ Aside (s0 < s → ltOf cf d[mid + m - s]! d[s - 1]! = false) ∧ Aside (r < mid → ltOf cf d[mid + m - 1 - r]! d[r]! = true))
    case atStart => exact ⟨s0, mid, rfl, rfl, Nat.le_refl _, b2, Nat.le_refl _, Nat.le_refl _, S0, fun k => by omega, fun k => by omega⟩
    case round =>
      clear S0
      obtain ⟨s, r, rfl, rfl, hss, hsr, hrr, hg1, S1, LO, HI⟩ := hrel
      by_cases hlt : s < r
      · have hltz : (s : Int) < (r : Int) := by omega
        go_wp2_with fail
        obtain ⟨c, hcE⟩ : ∃ c : Nat, c = (s + r) / 2 := ⟨_, rfl⟩
        have zc : ((s : Int) + (r : Int)) / 2 = (c : Int) := by omega
        have hc1 : s ≤ c := by omega
        have hc2 : c < r := by omega
        rw [zc]
        clear zc hcE
        obtain ⟨iN, hiN⟩ : ∃ q, q = mid + m - 1 - c := ⟨_, rfl⟩
        obtain ⟨jN, hjN⟩ : ∃ q, q = c := ⟨_, rfl⟩
        have ea : ((mid : Int) + (m : Int) - 1 - (c : Int)).toNat = iN := by omega
        have pa : (0 : Int) ≤ (mid : Int) + (m : Int) - 1 - (c : Int) := by omega
        have ba : (mid : Int) + (m : Int) - 1 - (c : Int) < (n : Int) := by omega
        have ra : IntKind.i64.wrap ((mid : Int) + (m : Int) - 1 - (c : Int)) = (mid : Int) + (m : Int) - 1 - (c : Int) := by rw [IntKind.wrap_i64]; omega
        have pa2 : (c : Int) ≤ (mid : Int) + (m : Int) - 1 := by omega
        have ec : ((c : Int)).toNat = jN := by omega
        have pc : (0 : Int) ≤ (c : Int) := by omega
        have bc : (c : Int) < (n : Int) := by omega
        obtain ⟨x, hx⟩ : ∃ x, x = d[mid + m - 1 - c]! := ⟨_, rfl⟩
        obtain ⟨y, hy⟩ : ∃ x, x = d[c]! := ⟨_, rfl⟩
        have la := S1.out.cl R (by omega) (mid + m - 1 - c) (by omega)
        have lb := S1.out.cl R (by omega) c (by omega)
        rw [← hx, ← hiN] at la
        rw [← hy, ← hjN] at lb
        have hc := S1.out.cmp HC.out (by omega) x y
        cases hlv : ltOf cf d[mid + m - 1 - c]! d[c]! with
        | true =>
          have hv : cf x y < 0 := by rw [hx, hy]; exact of_decide_eq_true hlv
          have hd : decide (cf x y < 0) = true := decide_eq_true hv
          clear hx hy hiN hjN
          go_quiet_grown (first | (go_at_fn g; refine Calls.grown_of (hc _ _)))
          have S2 : Aside (SW (E N) w0 blk off d (grow (wr.drewN nq) osq)) := S1.out.grown nq osq
          clear la lb hc S1
          generalize grow (wr.drewN nq) osq = w2 at S2 ⊢
          clear nq osq ea ec
          go_wp2
          go_roundg (c - s)
          case measure => omega
          case rel => exact ⟨s, c, rfl, by first | rfl | go_num, hss, hc1, by omega, Nat.le_refl _, S2, LO, fun _ => hlv⟩
        | false =>
          have hv : ¬ cf x y < 0 := by rw [hx, hy]; exact of_decide_eq_false hlv
          have hd : decide (cf x y < 0) = false := decide_eq_false hv
          clear hx hy hiN hjN
          go_quiet_grown (first | (go_at_fn g; refine Calls.grown_of (hc _ _)))
          have S2 : Aside (SW (E N) w0 blk off d (grow (wr.drewN nq) osq)) := S1.out.grown nq osq
          clear la lb hc S1
          generalize grow (wr.drewN nq) osq = w2 at S2 ⊢
          clear nq osq ea ec
          go_wp2
          go_roundg (r - (c + 1))
          case measure => omega
          case rel => exact ⟨c + 1, r, by first | rfl | go_num, rfl, by omega, by omega, hrr, Nat.le_refl _, S2, fun _ => by rw [show mid + m - (c + 1) = mid + m - 1 - c by omega, show c + 1 - 1 = c by omega]; exact hlv, HI⟩
      · obtain rfl : r = s := by omega
        have hlo : a < r → mid + m - r < b → ltOf cf d[mid + m - r]! d[r - 1]! = false := by
          intro k1 k2
          by_cases k3 : s0 < r
          · exact LO.out k3
          · have := B6.out (show a < s0 by omega)
            omega
        have hhi : r < m → m < mid + m - r → ltOf cf d[mid + m - r - 1]! d[r]! = true := by
          intro k1 k2
          by_cases k3 : r < mid
          · have := HI.out k3
            rwa [show mid + m - 1 - r = mid + m - r - 1 by omega] at this
          · have := B7.out (show mid < m by omega)
            omega
        have HX0 := C0.out r (by omega) (by omega) (by omega) (by omega) hlo hhi
        clear hlo hhi
        obtain ⟨e, hE⟩ : ∃ e, e = mid + m - r := ⟨_, rfl⟩
        rw [← hE] at HX0
        have ze : (mid : Int) + (m : Int) - (r : Int) = (e : Int) := by omega
        have HX : Aside _ := HX0
        clear HX0 C0 LO HI B6 B7 HC hE
        have k1 := three ((r : Int) < (m : Int)) ((m : Int) < (e : Int))
        have k2 := three ((a : Int) < (r : Int)) ((r : Int) < (mid : Int))
        have k3 := three ((mid : Int) < (e : Int)) ((e : Int) < (b : Int))
        rcases k1 with ⟨p1, q1⟩ | ⟨p1, q1⟩ | p1
        · rcases k2 with ⟨p2, q2⟩ | ⟨p2, q2⟩ | p2
          · rcases k3 with ⟨p3, q3⟩ | ⟨p3, q3⟩ | p3
            · go_wp2_with (first | (go_at_call 131; (with_reducible refine (HX.out.rotd (by omega) (by omega) _ S1.out).mono ?_); rintro e_ w' ⟨rfl, S2⟩) | (go_at_call 121; (with_reducible refine (HX.out.left (by omega) (by omega) _ S2).mono ?_); rintro e_ w' ⟨rfl, d1, P1, S3⟩) | (go_at_call 121; (with_reducible refine (HX.out.right d1 P1 (by omega) (by omega) _ S3).mono ?_); rintro e_ w' ⟨rfl, d2, P2, S4⟩))
              all_goals (go_end0; exact ⟨rfl, d2, P2.1, P2.2, S4⟩)
            · go_wp2_with (first | (go_at_call 131; (with_reducible refine (HX.out.rotd (by omega) (by omega) _ S1.out).mono ?_); rintro e_ w' ⟨rfl, S2⟩) | (go_at_call 121; (with_reducible refine (HX.out.left (by omega) (by omega) _ S2).mono ?_); rintro e_ w' ⟨rfl, d1, P1, S3⟩))
              all_goals (go_end0; have P2 := HX.out.noright d1 P1 (by omega); exact ⟨rfl, d1, P2.1, P2.2, S3⟩)
            · go_wp2_with (first | (go_at_call 131; (with_reducible refine (HX.out.rotd (by omega) (by omega) _ S1.out).mono ?_); rintro e_ w' ⟨rfl, S2⟩) | (go_at_call 121; (with_reducible refine (HX.out.left (by omega) (by omega) _ S2).mono ?_); rintro e_ w' ⟨rfl, d1, P1, S3⟩))
              all_goals (go_end0; have P2 := HX.out.noright d1 P1 (by omega); exact ⟨rfl, d1, P2.1, P2.2, S3⟩)
          · have P1 := HX.out.noleft (by omega)
            rcases k3 with ⟨p3, q3⟩ | ⟨p3, q3⟩ | p3
            · go_wp2_with (first | (go_at_call 131; (with_reducible refine (HX.out.rotd (by omega) (by omega) _ S1.out).mono ?_); rintro e_ w' ⟨rfl, S2⟩) | (go_at_call 121; (with_reducible refine (HX.out.right _ P1 (by omega) (by omega) _ S2).mono ?_); rintro e_ w' ⟨rfl, d2, P2, S4⟩))
              all_goals (go_end0; exact ⟨rfl, d2, P2.1, P2.2, S4⟩)
            · go_wp2_with (first | (go_at_call 131; (with_reducible refine (HX.out.rotd (by omega) (by omega) _ S1.out).mono ?_); rintro e_ w' ⟨rfl, S2⟩))
              all_goals (go_end0; have P2 := HX.out.noright _ P1 (by omega); exact ⟨rfl, _, P2.1, P2.2, S2⟩)
            · go_wp2_with (first | (go_at_call 131; (with_reducible refine (HX.out.rotd (by omega) (by omega) _ S1.out).mono ?_); rintro e_ w' ⟨rfl, S2⟩))
              all_goals (go_end0; have P2 := HX.out.noright _ P1 (by omega); exact ⟨rfl, _, P2.1, P2.2, S2⟩)
          · have P1 := HX.out.noleft (by omega)
            rcases k3 with ⟨p3, q3⟩ | ⟨p3, q3⟩ | p3
            · go_wp2_with (first | (go_at_call 131; (with_reducible refine (HX.out.rotd (by omega) (by omega) _ S1.out).mono ?_); rintro e_ w' ⟨rfl, S2⟩) | (go_at_call 121; (with_reducible refine (HX.out.right _ P1 (by omega) (by omega) _ S2).mono ?_); rintro e_ w' ⟨rfl, d2, P2, S4⟩))
              all_goals (go_end0; exact ⟨rfl, d2, P2.1, P2.2, S4⟩)
            · go_wp2_with (first | (go_at_call 131; (with_reducible refine (HX.out.rotd (by omega) (by omega) _ S1.out).mono ?_); rintro e_ w' ⟨rfl, S2⟩))
              all_goals (go_end0; have P2 := HX.out.noright _ P1 (by omega); exact ⟨rfl, _, P2.1, P2.2, S2⟩)
            · go_wp2_with (first | (go_at_call 131; (with_reducible refine (HX.out.rotd (by omega) (by omega) _ S1.out).mono ?_); rintro e_ w' ⟨rfl, S2⟩))
              all_goals (go_end0; have P2 := HX.out.noright _ P1 (by omega); exact ⟨rfl, _, P2.1, P2.2, S2⟩)
        · have S2 : SW (E N) w0 blk off (rot d r m e) wr := by rw [HX.out.norot (by omega)]; exact S1.out
          rcases k2 with ⟨p2, q2⟩ | ⟨p2, q2⟩ | p2
          · rcases k3 with ⟨p3, q3⟩ | ⟨p3, q3⟩ | p3
            · go_wp2_with (first | (go_at_call 121; (with_reducible refine (HX.out.left (by omega) (by omega) _ S2).mono ?_); rintro e_ w' ⟨rfl, d1, P1, S3⟩) | (go_at_call 121; (with_reducible refine (HX.out.right d1 P1 (by omega) (by omega) _ S3).mono ?_); rintro e_ w' ⟨rfl, d2, P2, S4⟩))
              all_goals (go_end0; exact ⟨rfl, d2, P2.1, P2.2, S4⟩)
            · go_wp2_with (first | (go_at_call 121; (with_reducible refine (HX.out.left (by omega) (by omega) _ S2).mono ?_); rintro e_ w' ⟨rfl, d1, P1, S3⟩))
              all_goals (go_end0; have P2 := HX.out.noright d1 P1 (by omega); exact ⟨rfl, d1, P2.1, P2.2, S3⟩)
            · go_wp2_with (first | (go_at_call 121; (with_reducible refine (HX.out.left (by omega) (by omega) _ S2).mono ?_); rintro e_ w' ⟨rfl, d1, P1, S3⟩))
              all_goals (go_end0; have P2 := HX.out.noright d1 P1 (by omega); exact ⟨rfl, d1, P2.1, P2.2, S3⟩)
          · have P1 := HX.out.noleft (by omega)
            rcases k3 with ⟨p3, q3⟩ | ⟨p3, q3⟩ | p3
            · go_wp2_with (first | (go_at_call 121; (with_reducible refine (HX.out.right _ P1 (by omega) (by omega) _ S2).mono ?_); rintro e_ w' ⟨rfl, d2, P2, S4⟩))
              all_goals (go_end0; exact ⟨rfl, d2, P2.1, P2.2, S4⟩)
            · go_wp2
              all_goals (go_end0; have P2 := HX.out.noright _ P1 (by omega); exact ⟨rfl, _, P2.1, P2.2, S2⟩)
            · go_wp2
              all_goals (go_end0; have P2 := HX.out.noright _ P1 (by omega); exact ⟨rfl, _, P2.1, P2.2, S2⟩)
          · have P1 := HX.out.noleft (by omega)
            rcases k3 with ⟨p3, q3⟩ | ⟨p3, q3⟩ | p3
            · go_wp2_with (first | (go_at_call 121; (with_reducible refine (HX.out.right _ P1 (by omega) (by omega) _ S2).mono ?_); rintro e_ w' ⟨rfl, d2, P2, S4⟩))
              all_goals (go_end0; exact ⟨rfl, d2, P2.1, P2.2, S4⟩)
            · go_wp2
              all_goals (go_end0; have P2 := HX.out.noright _ P1 (by omega); exact ⟨rfl, _, P2.1, P2.2, S2⟩)
            · go_wp2
              all_goals (go_end0; have P2 := HX.out.noright _ P1 (by omega); exact ⟨rfl, _, P2.1, P2.2, S2⟩)
        · have S2 : SW (E N) w0 blk off (rot d r m e) wr := by rw [HX.out.norot (by omega)]; exact S1.out
          rcases k2 with ⟨p2, q2⟩ | ⟨p2, q2⟩ | p2
          · rcases k3 with ⟨p3, q3⟩ | ⟨p3, q3⟩ | p3
            · go_wp2_with (first | (go_at_call 121; (with_reducible refine (HX.out.left (by omega) (by omega) _ S2).mono ?_); rintro e_ w' ⟨rfl, d1, P1, S3⟩) | (go_at_call 121; (with_reducible refine (HX.out.right d1 P1 (by omega) (by omega) _ S3).mono ?_); rintro e_ w' ⟨rfl, d2, P2, S4⟩))
              all_goals (go_end0; exact ⟨rfl, d2, P2.1, P2.2, S4⟩)
            · go_wp2_with (first | (go_at_call 121; (with_reducible refine (HX.out.left (by omega) (by omega) _ S2).mono ?_); rintro e_ w' ⟨rfl, d1, P1, S3⟩))
              all_goals (go_end0; have P2 := HX.out.noright d1 P1 (by omega); exact ⟨rfl, d1, P2.1, P2.2, S3⟩)
            · go_wp2_with (first | (go_at_call 121; (with_reducible refine (HX.out.left (by omega) (by omega) _ S2).mono ?_); rintro e_ w' ⟨rfl, d1, P1, S3⟩))
              all_goals (go_end0; have P2 := HX.out.noright d1 P1 (by omega); exact ⟨rfl, d1, P2.1, P2.2, S3⟩)
          · have P1 := HX.out.noleft (by omega)
            rcases k3 with ⟨p3, q3⟩ | ⟨p3, q3⟩ | p3
            · go_wp2_with (first | (go_at_call 121; (with_reducible refine (HX.out.right _ P1 (by omega) (by omega) _ S2).mono ?_); rintro e_ w' ⟨rfl, d2, P2, S4⟩))
              all_goals (go_end0; exact ⟨rfl, d2, P2.1, P2.2, S4⟩)
            · go_wp2
              all_goals (go_end0; have P2 := HX.out.noright _ P1 (by omega); exact ⟨rfl, _, P2.1, P2.2, S2⟩)
            · go_wp2
              all_goals (go_end0; have P2 := HX.out.noright _ P1 (by omega); exact ⟨rfl, _, P2.1, P2.2, S2⟩)
          · have P1 := HX.out.noleft (by omega)
            rcases k3 with ⟨p3, q3⟩ | ⟨p3, q3⟩ | p3
            · go_wp2_with (first | (go_at_call 121; (with_reducible refine (HX.out.right _ P1 (by omega) (by omega) _ S2).mono ?_); rintro e_ w' ⟨rfl, d2, P2, S4⟩))
              all_goals (go_end0; exact ⟨rfl, d2, P2.1, P2.2, S4⟩)
            · go_wp2
              all_goals (go_end0; have P2 := HX.out.noright _ P1 (by omega); exact ⟨rfl, _, P2.1, P2.2, S2⟩)
            · go_wp2
              all_goals (go_end0; have P2 := HX.out.noright _ P1 (by omega); exact ⟨rfl, _, P2.1, P2.2, S2⟩)
  · have hgtz : ¬ (mid : Int) < (m : Int) := by omega
    subst s0
    subst r0
    go_wp2
    clear zmid hc0 hc1
    go_loopg [20, 21] (m - a) (fun g1 vi vj wr => ∃ (s r : Nat), vi = .int .i64 s ∧ vj = .int .i64 r ∧ a ≤ s ∧ s ≤ r ∧ r ≤ m ∧ r - s ≤ g1 ∧ Aside (SW (E N) w0 blk off d wr) ∧ Aside (a < s → ltOf cf d[mid + m - s]! d[s - 1]! = false) ∧ Aside (r < m → ltOf cf d[mid + m - 1 - r]! d[r]! = true))
    case atStart => exact ⟨a, m, rfl, rfl, Nat.le_refl _, b2, Nat.le_refl _, Nat.le_refl _, S0, fun k => by omega, fun k => by omega⟩
    case round =>
      clear S0
      obtain ⟨s, r, rfl, rfl, hss, hsr, hrr, hg1, S1, LO, HI⟩ := hrel
      by_cases hlt : s < r
      · have hltz : (s : Int) < (r : Int) := by omega
        go_wp2_with fail
        obtain ⟨c, hcE⟩ : ∃ c : Nat, c = (s + r) / 2 := ⟨_, rfl⟩
        have zc : ((s : Int) + (r : Int)) / 2 = (c : Int) := by omega
        have hc1 : s ≤ c := by omega
        have hc2 : c < r := by omega
        rw [zc]
        clear zc hcE
        obtain ⟨iN, hiN⟩ : ∃ q, q = mid + m - 1 - c := ⟨_, rfl⟩
        obtain ⟨jN, hjN⟩ : ∃ q, q = c := ⟨_, rfl⟩
        have ea : ((mid : Int) + (m : Int) - 1 - (c : Int)).toNat = iN := by omega
        have pa : (0 : Int) ≤ (mid : Int) + (m : Int) - 1 - (c : Int) := by omega
        have ba : (mid : Int) + (m : Int) - 1 - (c : Int) < (n : Int) := by omega
        have ra : IntKind.i64.wrap ((mid : Int) + (m : Int) - 1 - (c : Int)) = (mid : Int) + (m : Int) - 1 - (c : Int) := by rw [IntKind.wrap_i64]; omega
        have pa2 : (c : Int) ≤ (mid : Int) + (m : Int) - 1 := by omega
        have ec : ((c : Int)).toNat = jN := by omega
        have pc : (0 : Int) ≤ (c : Int) := by omega
        have bc : (c : Int) < (n : Int) := by omega
        obtain ⟨x, hx⟩ : ∃ x, x = d[mid + m - 1 - c]! := ⟨_, rfl⟩
        obtain ⟨y, hy⟩ : ∃ x, x = d[c]! := ⟨_, rfl⟩
        have la := S1.out.cl R (by omega) (mid + m - 1 - c) (by omega)
        have lb := S1.out.cl R (by omega) c (by omega)
        rw [← hx, ← hiN] at la
        rw [← hy, ← hjN] at lb
        have hc := S1.out.cmp HC.out (by omega) x y
        cases hlv : ltOf cf d[mid + m - 1 - c]! d[c]! with
        | true =>
          have hv : cf x y < 0 := by rw [hx, hy]; exact of_decide_eq_true hlv
          have hd : decide (cf x y < 0) = true := decide_eq_true hv
          clear hx hy hiN hjN
          go_quiet_grown (first | (go_at_fn g; refine Calls.grown_of (hc _ _)))
          have S2 : Aside (SW (E N) w0 blk off d (grow (wr.drewN nq) osq)) := S1.out.grown nq osq
          clear la lb hc S1
          generalize grow (wr.drewN nq) osq = w2 at S2 ⊢
          clear nq osq ea ec
          go_wp2
          go_roundg (c - s)
          case measure => omega
          case rel => exact ⟨s, c, rfl, by first | rfl | go_num, hss, hc1, by omega, Nat.le_refl _, S2, LO, fun _ => hlv⟩
        | false =>
          have hv : ¬ cf x y < 0 := by rw [hx, hy]; exact of_decide_eq_false hlv
          have hd : decide (cf x y < 0) = false := decide_eq_false hv
          clear hx hy hiN hjN
          go_quiet_grown (first | (go_at_fn g; refine Calls.grown_of (hc _ _)))
          have S2 : Aside (SW (E N) w0 blk off d (grow (wr.drewN nq) osq)) := S1.out.grown nq osq
          clear la lb hc S1
          generalize grow (wr.drewN nq) osq = w2 at S2 ⊢
          clear nq osq ea ec
          go_wp2
          go_roundg (r - (c + 1))
          case measure => omega
          case rel => exact ⟨c + 1, r, by first | rfl | go_num, rfl, by omega, by omega, hrr, Nat.le_refl _, S2, fun _ => by rw [show mid + m - (c + 1) = mid + m - 1 - c by omega, show c + 1 - 1 = c by omega]; exact hlv, HI⟩
      · obtain rfl : r = s := by omega
        have hlo : a < r → mid + m - r < b → ltOf cf d[mid + m - r]! d[r - 1]! = false := by
          intro k1 k2
          by_cases k3 : a < r
          · exact LO.out k3
          · have := B6.out (show a < a by omega)
            omega
        have hhi : r < m → m < mid + m - r → ltOf cf d[mid + m - r - 1]! d[r]! = true := by
          intro k1 k2
          by_cases k3 : r < m
          · have := HI.out k3
            rwa [show mid + m - 1 - r = mid + m - r - 1 by omega] at this
          · have := B7.out (show m < m by omega)
            omega
        have HX0 := C0.out r (by omega) (by omega) (by omega) (by omega) hlo hhi
        clear hlo hhi
        obtain ⟨e, hE⟩ : ∃ e, e = mid + m - r := ⟨_, rfl⟩
        rw [← hE] at HX0
        have ze : (mid : Int) + (m : Int) - (r : Int) = (e : Int) := by omega
        have HX : Aside _ := HX0
        clear HX0 C0 LO HI B6 B7 HC hE
        have k1 := three ((r : Int) < (m : Int)) ((m : Int) < (e : Int))
        have k2 := three ((a : Int) < (r : Int)) ((r : Int) < (mid : Int))
        have k3 := three ((mid : Int) < (e : Int)) ((e : Int) < (b : Int))
        rcases k1 with ⟨p1, q1⟩ | ⟨p1, q1⟩ | p1
        · rcases k2 with ⟨p2, q2⟩ | ⟨p2, q2⟩ | p2
          · rcases k3 with ⟨p3, q3⟩ | ⟨p3, q3⟩ | p3
            · go_wp2_with (first | (go_at_call 131; (with_reducible refine (HX.out.rotd (by omega) (by omega) _ S1.out).mono ?_); rintro e_ w' ⟨rfl, S2⟩) | (go_at_call 121; (with_reducible refine (HX.out.left (by omega) (by omega) _ S2).mono ?_); rintro e_ w' ⟨rfl, d1, P1, S3⟩) | (go_at_call 121; (with_reducible refine (HX.out.right d1 P1 (by omega) (by omega) _ S3).mono ?_); rintro e_ w' ⟨rfl, d2, P2, S4⟩))
              all_goals (go_end0; exact ⟨rfl, d2, P2.1, P2.2, S4⟩)
            · go_wp2_with (first | (go_at_call 131; (with_reducible refine (HX.out.rotd (by omega) (by omega) _ S1.out).mono ?_); rintro e_ w' ⟨rfl, S2⟩) | (go_at_call 121; (with_reducible refine (HX.out.left (by omega) (by omega) _ S2).mono ?_); rintro e_ w' ⟨rfl, d1, P1, S3⟩))
              all_goals (go_end0; have P2 := HX.out.noright d1 P1 (by omega); exact ⟨rfl, d1, P2.1, P2.2, S3⟩)
            · go_wp2_with (first | (go_at_call 131; (with_reducible refine (HX.out.rotd (by omega) (by omega) _ S1.out).mono ?_); rintro e_ w' ⟨rfl, S2⟩) | (go_at_call 121; (with_reducible refine (HX.out.left (by omega) (by omega) _ S2).mono ?_); rintro e_ w' ⟨rfl, d1, P1, S3⟩))
              all_goals (go_end0; have P2 := HX.out.noright d1 P1 (by omega); exact ⟨rfl, d1, P2.1, P2.2, S3⟩)
          · have P1 := HX.out.noleft (by omega)
            rcases k3 with ⟨p3, q3⟩ | ⟨p3, q3⟩ | p3
            · go_wp2_with (first | (go_at_call 131; (with_reducible refine (HX.out.rotd (by omega) (by omega) _ S1.out).mono ?_); rintro e_ w' ⟨rfl, S2⟩) | (go_at_call 121; (with_reducible refine (HX.out.right _ P1 (by omega) (by omega) _ S2).mono ?_); rintro e_ w' ⟨rfl, d2, P2, S4⟩))
              all_goals (go_end0; exact ⟨rfl, d2, P2.1, P2.2, S4⟩)
            · go_wp2_with (first | (go_at_call 131; (with_reducible refine (HX.out.rotd (by omega) (by omega) _ S1.out).mono ?_); rintro e_ w' ⟨rfl, S2⟩))
              all_goals (go_end0; have P2 := HX.out.noright _ P1 (by omega); exact ⟨rfl, _, P2.1, P2.2, S2⟩)
            · go_wp2_with (first | (go_at_call 131; (with_reducible refine (HX.out.rotd (by omega) (by omega) _ S1.out).mono ?_); rintro e_ w' ⟨rfl, S2⟩))
              all_goals (go_end0; have P2 := HX.out.noright _ P1 (by omega); exact ⟨rfl, _, P2.1, P2.2, S2⟩)
          · have P1 := HX.out.noleft (by omega)
            rcases k3 with ⟨p3, q3⟩ | ⟨p3, q3⟩ | p3
            · go_wp2_with (first | (go_at_call 131; (with_reducible refine (HX.out.rotd (by omega) (by omega) _ S1.out).mono ?_); rintro e_ w' ⟨rfl, S2⟩) | (go_at_call 121; (with_reducible refine (HX.out.right _ P1 (by omega) (by omega) _ S2).mono ?_); rintro e_ w' ⟨rfl, d2, P2, S4⟩))
              all_goals (go_end0; exact ⟨rfl, d2, P2.1, P2.2, S4⟩)
            · go_wp2_with (first | (go_at_call 131; (with_reducible refine (HX.out.rotd (by omega) (by omega) _ S1.out).mono ?_); rintro e_ w' ⟨rfl, S2⟩))
              all_goals (go_end0; have P2 := HX.out.noright _ P1 (by omega); exact ⟨rfl, _, P2.1, P2.2, S2⟩)
            · go_wp2_with (first | (go_at_call 131; (with_reducible refine (HX.out.rotd (by omega) (by omega) _ S1.out).mono ?_); rintro e_ w' ⟨rfl, S2⟩))
              all_goals (go_end0; have P2 := HX.out.noright _ P1 (by omega); exact ⟨rfl, _, P2.1, P2.2, S2⟩)
        · have S2 : SW (E N) w0 blk off (rot d r m e) wr := by rw [HX.out.norot (by omega)]; exact S1.out
          rcases k2 with ⟨p2, q2⟩ | ⟨p2, q2⟩ | p2
          · rcases k3 with ⟨p3, q3⟩ | ⟨p3, q3⟩ | p3
            · go_wp2_with (first | (go_at_call 121; (with_reducible refine (HX.out.left (by omega) (by omega) _ S2).mono ?_); rintro e_ w' ⟨rfl, d1, P1, S3⟩) | (go_at_call 121; (with_reducible refine (HX.out.right d1 P1 (by omega) (by omega) _ S3).mono ?_); rintro e_ w' ⟨rfl, d2, P2, S4⟩))
              all_goals (go_end0; exact ⟨rfl, d2, P2.1, P2.2, S4⟩)
            · go_wp2_with (first | (go_at_call 121; (with_reducible refine (HX.out.left (by omega) (by omega) _ S2).mono ?_); rintro e_ w' ⟨rfl, d1, P1, S3⟩))
              all_goals (go_end0; have P2 := HX.out.noright d1 P1 (by omega); exact ⟨rfl, d1, P2.1, P2.2, S3⟩)
            · go_wp2_with (first | (go_at_call 121; (with_reducible refine (HX.out.left (by omega) (by omega) _ S2).mono ?_); rintro e_ w' ⟨rfl, d1, P1, S3⟩))
              all_goals (go_end0; have P2 := HX.out.noright d1 P1 (by omega); exact ⟨rfl, d1, P2.1, P2.2, S3⟩)
          · have P1 := HX.out.noleft (by omega)
            rcases k3 with ⟨p3, q3⟩ | ⟨p3, q3⟩ | p3
            · go_wp2_with (first | (go_at_call 121; (with_reducible refine (HX.out.right _ P1 (by omega) (by omega) _ S2).mono ?_); rintro e_ w' ⟨rfl, d2, P2, S4⟩))
              all_goals (go_end0; exact ⟨rfl, d2, P2.1, P2.2, S4⟩)
            · go_wp2
              all_goals (go_end0; have P2 := HX.out.noright _ P1 (by omega); exact ⟨rfl, _, P2.1, P2.2, S2⟩)
            · go_wp2
              all_goals (go_end0; have P2 := HX.out.noright _ P1 (by omega); exact ⟨rfl, _, P2.1, P2.2, S2⟩)
          · have P1 := HX.out.noleft (by omega)
            rcases k3 with ⟨p3, q3⟩ | ⟨p3, q3⟩ | p3
            · go_wp2_with (first | (go_at_call 121; (with_reducible refine (HX.out.right _ P1 (by omega) (by omega) _ S2).mono ?_); rintro e_ w' ⟨rfl, d2, P2, S4⟩))
              all_goals (go_end0; exact ⟨rfl, d2, P2.1, P2.2, S4⟩)
            · go_wp2
              all_goals (go_end0; have P2 := HX.out.noright _ P1 (by omega); exact ⟨rfl, _, P2.1, P2.2, S2⟩)
            · go_wp2
              all_goals (go_end0; have P2 := HX.out.noright _ P1 (by omega); exact ⟨rfl, _, P2.1, P2.2, S2⟩)
        · have S2 : SW (E N) w0 blk off (rot d r m e) wr := by rw [HX.out.norot (by omega)]; exact S1.out
          rcases k2 with ⟨p2, q2⟩ | ⟨p2, q2⟩ | p2
          · rcases k3 with ⟨p3, q3⟩ | ⟨p3, q3⟩ | p3
            · go_wp2_with (first | (go_at_call 121; (with_reducible refine (HX.out.left (by omega) (by omega) _ S2).mono ?_); rintro e_ w' ⟨rfl, d1, P1, S3⟩) | (go_at_call 121; (with_reducible refine (HX.out.right d1 P1 (by omega) (by omega) _ S3).mono ?_); rintro e_ w' ⟨rfl, d2, P2, S4⟩))
              all_goals (go_end0; exact ⟨rfl, d2, P2.1, P2.2, S4⟩)
            · go_wp2_with (first | (go_at_call 121; (with_reducible refine (HX.out.left (by omega) (by omega) _ S2).mono ?_); rintro e_ w' ⟨rfl, d1, P1, S3⟩))
              all_goals (go_end0; have P2 := HX.out.noright d1 P1 (by omega); exact ⟨rfl, d1, P2.1, P2.2, S3⟩)
            · go_wp2_with (first | (go_at_call 121; (with_reducible refine (HX.out.left (by omega) (by omega) _ S2).mono ?_); rintro e_ w' ⟨rfl, d1, P1, S3⟩))
              all_goals (go_end0; have P2 := HX.out.noright d1 P1 (by omega); exact ⟨rfl, d1, P2.1, P2.2, S3⟩)
          · have P1 := HX.out.noleft (by omega)
            rcases k3 with ⟨p3, q3⟩ | ⟨p3, q3⟩ | p3
            · go_wp2_with (first | (go_at_call 121; (with_reducible refine (HX.out.right _ P1 (by omega) (by omega) _ S2).mono ?_); rintro e_ w' ⟨rfl, d2, P2, S4⟩))
              all_goals (go_end0; exact ⟨rfl, d2, P2.1, P2.2, S4⟩)
            · go_wp2
              all_goals (go_end0; have P2 := HX.out.noright _ P1 (by omega); exact ⟨rfl, _, P2.1, P2.2, S2⟩)
            · go_wp2
              all_goals (go_end0; have P2 := HX.out.noright _ P1 (by omega); exact ⟨rfl, _, P2.1, P2.2, S2⟩)
          · have P1 := HX.out.noleft (by omega)
            rcases k3 with ⟨p3, q3⟩ | ⟨p3, q3⟩ | p3
            · go_wp2_with (first | (go_at_call 121; (with_reducible refine (HX.out.right _ P1 (by omega) (by omega) _ S2).mono ?_); rintro e_ w' ⟨rfl, d2, P2, S4⟩))
              all_goals (go_end0; exact ⟨rfl, d2, P2.1, P2.2, S4⟩)
            · go_wp2
              all_goals (go_end0; have P2 := HX.out.noright _ P1 (by omega); exact ⟨rfl, _, P2.1, P2.2, S2⟩)
            · go_wp2
              all_goals (go_end0; have P2 := HX.out.noright _ P1 (by omega); exact ⟨rfl, _, P2.1, P2.2, S2⟩)

end Go.Proofs.Ytlgagppdipdkeaa.Stb

end
namespace Go.Proofs.Ytlgagppdipdkeaa.Stb
open Go.Shelf Go.RowKit Go.Lib Go.Sort Go.Proofs

theorem merge_all {N : Nat} (cf : Ix N → Ix N → Int) (hS : SWO (ltOf cf)) (g : Nat) (cb : Array Value) (blk off cap n : Nat) (d0 : Array (Ix N)) (w0 : World)
    (eg : ∀ args w, (callFunc g args).run Try.prog w = .ok (.enter g args) w) (hcmp : CmpLays1 Try.prog g cb (E N) cf blk off d0.size w0) (R : Row1 (E N) w0 blk off d0) (hn0 : d0.size = n) (hsz : n < 1152921504606846976) :
    ∀ k, Merges cf g cb blk off cap n w0 k
  | 0 => fun a m b d w hk _ _ h1 h2 => by omega
  | k + 1 => fun a m b d w hk hn S h1 h2 hb s1 s2 => by
    by_cases c1 : m ≤ a + 1
    · exact merge_up cf hS g cb blk off cap n d0 w0 eg hcmp R hn0 hsz a m b d w hn S h1 c1 h2 hb s2
    · by_cases c2 : b ≤ m + 1
      · exact merge_down cf hS g cb blk off cap n d0 w0 eg hcmp R hn0 hsz a m b d w hn S (by omega) h2 c2 hb s1
      · exact merge_mid cf hS g cb blk off cap n d0 w0 eg hcmp R hn0 hsz k (merge_all cf hS g cb blk off cap n d0 w0 eg hcmp R hn0 hsz k) a m b d w hk hn S (by omega) (by omega) hb s1 s2

end Go.Proofs.Ytlgagppdipdkeaa.Stb

end
namespace Go.Proofs.Ytlgagppdipdkeaa.Stb
open Go.Shelf Go.RowKit Go.Lib Go.Sort Go.Proofs

theorem insertion' {N : Nat} (cf : Ix N → Ix N → Int) (hS : SWO (ltOf cf)) (g : Nat) (cb : Array Value) (blk off cap n : Nat) (d0 : Array (Ix N)) (w0 : World)
    (eg : ∀ args w, (callFunc g args).run Try.prog w = .ok (.enter g args) w) (hcmp : CmpLays1 Try.prog g cb (E N) cf blk off d0.size w0) (R : Row1 (E N) w0 blk off d0) (hn0 : d0.size = n) (hsz : n < 1152921504606846976)
    (a b : Nat) (d : Array (Ix N)) (w : World) (hn : d.size = n) (S : SW (E N) w0 blk off d w) (hab : a ≤ b) (hb : b ≤ n) :
    Calls Try.prog 120 #[.slice (some ⟨blk, off, none⟩) n cap, .int .i64 a, .int .i64 b, .func (.func g) #[] cb] w fun e w' => e = .returned (.tuple #[]) ∧ ∃ d', Put (ltOf cf) a b d d' ∧ SortedIn (ltOf cf) a b d' ∧ SW (E N) w0 blk off d' w' := by
  subst hn
  refine (insertion cf g cb blk off cap a b d0 d w0 w eg hcmp R hn0 S hab hb (by omega)).mono ?_
  rintro e w' ⟨rfl, h⟩
  have := ins_put hS d a b hab hb
  exact ⟨rfl, _, this.1, this.2, h⟩

end Go.Proofs.Ytlgagppdipdkeaa.Stb

end
namespace Go.Proofs.Ytlgagppdipdkeaa.Stb
open Go.Shelf Go.RowKit Go.Lib Go.Sort Go.Proofs
theorem Mid.left {N : Nat} {lt : Ix N → Ix N → Bool} {bs a n : Nat} {d0 d : Array (Ix N)} (h : Mid lt bs a n d0 d) (ha : 2 * bs ∣ a) (hb : a + 2 * bs ≤ n) (h0 : 0 < bs) : SortedIn lt a (a + bs) d := by
  have := h.todo a (Nat.dvd_trans (Nat.dvd_mul_left _ _) ha) (Nat.le_refl _) (by omega)
  rwa [show min (a + bs) n = a + bs by omega] at this
theorem Mid.right {N : Nat} {lt : Ix N → Ix N → Bool} {bs a n : Nat} {d0 d : Array (Ix N)} (h : Mid lt bs a n d0 d) (ha : 2 * bs ∣ a) (hb : a + 2 * bs ≤ n) (h0 : 0 < bs) : SortedIn lt (a + bs) (a + 2 * bs) d := by
  have := h.todo (a + bs) (Nat.dvd_add (Nat.dvd_trans (Nat.dvd_mul_left _ _) ha) (Nat.dvd_refl _)) (by omega) (by omega)
  rwa [show min (a + bs + bs) n = a + 2 * bs by omega] at this
theorem Mid.left' {N : Nat} {lt : Ix N → Ix N → Bool} {bs a n : Nat} {d0 d : Array (Ix N)} (h : Mid lt bs a n d0 d) (ha : 2 * bs ∣ a) (hb : a + bs < n) : SortedIn lt a (a + bs) d := by
  have := h.todo a (Nat.dvd_trans (Nat.dvd_mul_left _ _) ha) (Nat.le_refl _) (by omega)
  rwa [show min (a + bs) n = a + bs by omega] at this
theorem Mid.right' {N : Nat} {lt : Ix N → Ix N → Bool} {bs a n : Nat} {d0 d : Array (Ix N)} (h : Mid lt bs a n d0 d) (ha : 2 * bs ∣ a) (hb : a + bs < n) (hb2 : n ≤ a + 2 * bs) : SortedIn lt (a + bs) n d := by
  have := h.todo (a + bs) (Nat.dvd_add (Nat.dvd_trans (Nat.dvd_mul_left _ _) ha) (Nat.dvd_refl _)) (by omega) (by omega)
  rwa [show min (a + bs + bs) n = n by omega] at this
set_option maxHeartbeats 16000000 in
set_option maxRecDepth 1000000 in
theorem stable {N : Nat} (cf : Ix N → Ix N → Int) (hS : SWO (ltOf cf)) (g : Nat) (cb : Array Value) (blk off cap n : Nat) (d : Array (Ix N)) (w : World)
    (eg : ∀ args w, (callFunc g args).run Try.prog w = .ok (.enter g args) w) (hcmp : CmpLays1 Try.prog g cb (E N) cf blk off d.size w) (R : Row1 (E N) w blk off d) (hn : d.size = n) (hsz : n < 1152921504606846976) :
    Calls Try.prog 99 #[.slice (some ⟨blk, off, none⟩) n cap, .int .i64 n, .func (.func g) #[] cb] w fun e w' => e = .returned (.tuple #[]) ∧ ∃ d', Put (ltOf cf) 0 n d d' ∧ SortedIn (ltOf cf) 0 n d' ∧ SW (E N) w blk off d' w' := by
  have INS : Aside _ := insertion' cf hS g cb blk off cap n d w eg hcmp R hn hsz
  have MER : Aside _ := merge_all cf hS g cb blk off cap n d w eg hcmp R hn hsz n
  have S0 : Aside (SW (E N) w blk off d w) := SW.start R.hH
  clear hcmp
  go_enter Try.func99, Try.ntmps99
  go_wp2
  go_loopg [7, 8] n (fun g1 va vb wr => ∃ (a : Nat) (dk : Array (Ix N)), va = .int .i64 a ∧ vb = .int .i64 ((a : Int) + 20) ∧ a ≤ n ∧ 20 ∣ a ∧ n - a ≤ g1 ∧ Aside (SW (E N) w blk off dk wr) ∧ Aside (Put (ltOf cf) 0 n d dk) ∧ Aside (Blk (ltOf cf) 20 0 a n dk))
  case atStart => exact ⟨0, d, rfl, rfl, Nat.zero_le _, Nat.dvd_zero _, Nat.le_refl _, S0, Put.refl _ _ _, fun p _ _ h => absurd h (Nat.not_lt_zero _)⟩
  case round =>
    clear S0
    obtain ⟨a, dk, rfl, rfl, han, hda, hg1, S1, P1, B1⟩ := hrel
    by_cases hlt : a + 20 ≤ n
    · have hltz : (a : Int) + 20 ≤ (n : Int) := by omega
      have zb : (a : Int) + 20 = ((a + 20 : Nat) : Int) := by omega
      have hc := INS.out a (a + 20) dk wr (by rw [P1.out.size]; exact hn) S1.out (by omega) hlt
      rw [← zb] at hc
      clear zb
      go_wp2_with fail
      go_at_call 120
      refine hc.mono ?_
      rintro e_ w' ⟨rfl, d1, p1, s1, S2⟩
      go_wp2
      go_roundg (n - (a + 20))
      case measure => omega
      case rel => exact ⟨a + 20, d1, by first | rfl | go_num, by first | rfl | go_num, hlt, Nat.dvd_add hda (Nat.dvd_refl _), Nat.le_refl _, S2, P1.out.trans (p1.mono (Nat.zero_le _) hlt (by rw [P1.out.size]; omega)), Blk.snoc (B1.out.keep p1 fun p h1 h2 h3 => Or.inl (by have := dvd_step _ p a h1 hda h3; omega)) hda (by rw [show min (a + 20) n = a + 20 by omega]; exact s1)⟩
    · have hltz : ¬ (a : Int) + 20 ≤ (n : Int) := by omega
      have hc := INS.out a n dk wr (by rw [P1.out.size]; exact hn) S1.out han (Nat.le_refl _)
      have hz := P1.out.size
      go_wp2_with (go_at_call 120; (with_reducible refine hc.mono ?_); rintro e_ w' ⟨rfl, d1, p1, s1, S2⟩)
      have P2 : Aside (Put (ltOf cf) 0 n d d1) := P1.out.trans (p1.mono (Nat.zero_le _) (Nat.le_refl _) (by omega))
      have B2 : Aside (Blk (ltOf cf) 20 0 n n d1) := Blk.whole (B1.out.keep p1 fun p h1 h2 h3 => Or.inl (by have := dvd_step _ p a h1 hda h3; omega)) hda (by omega) (fun _ => s1)
      have S3 : Aside _ := S2
      clear S1 P1 B1 p1 s1 S2 hc hz hltz hlt hda hg1 han
      go_loopg [6] n (fun g2 vs wr2 => ∃ (bs : Nat) (dk : Array (Ix N)), vs = .int .i64 bs ∧ 0 < bs ∧ bs < 2305843009213693952 ∧ n - bs ≤ g2 ∧ Aside (SW (E N) w blk off dk wr2) ∧ Aside (Put (ltOf cf) 0 n d dk) ∧ Aside (Blk (ltOf cf) bs 0 n n dk))
      case atStart => exact ⟨20, d1, rfl, by omega, by omega, by omega, S3, P2, B2⟩
      case round =>
        clear S3 P2 B2
        obtain ⟨bs, dk, rfl, hb0, hb1, hg2, S4, P4, B4⟩ := hrel
        by_cases hlt : bs < n
        · have hltz : (bs : Int) < (n : Int) := by omega
          have M0 : Aside (Mid (ltOf cf) bs 0 n dk dk) := ⟨Put.refl _ _ _, fun p _ _ h => absurd h (Nat.not_lt_zero _), B4.out⟩
          go_wp2
          go_loopg [7, 8] n (fun g3 va vb wr3 => ∃ (a : Nat) (dj : Array (Ix N)), va = .int .i64 a ∧ vb = .int .i64 ((a : Int) + 2 * (bs : Int)) ∧ a ≤ n ∧ 2 * bs ∣ a ∧ n - a ≤ g3 ∧ Aside (SW (E N) w blk off dj wr3) ∧ Aside (Put (ltOf cf) 0 n d dj) ∧ Aside (Mid (ltOf cf) bs a n dk dj))
          case atStart => exact ⟨0, dk, rfl, (by first | rfl | (congr 1; omega)), Nat.zero_le _, Nat.dvd_zero _, Nat.le_refl _, S4, P4, M0⟩
          case round =>
            have hdk := P4.out.size
            clear S4 P4 B4 M0
            obtain ⟨a, dj, rfl, rfl, han, hda, hg3, S5, P5, M5⟩ := hrel
            have hdj := P5.out.size
            by_cases hle : a + 2 * bs ≤ n
            · have hlez : (a : Int) + 2 * (bs : Int) ≤ (n : Int) := by omega
              have hc := MER.out a (a + bs) (a + 2 * bs) dj wr (by omega) (by omega) S5.out (by omega) (by omega) hle (M5.out.left hda hle hb0) (M5.out.right hda hle hb0)
              have z1 : ((a + bs : Nat) : Int) = (a : Int) + (bs : Int) := by omega
              have z2 : ((a + 2 * bs : Nat) : Int) = (a : Int) + 2 * (bs : Int) := by omega
              rw [z1, z2] at hc
              clear z1 z2
              go_wp2_with (go_at_call 121; refine hc.mono ?_; rintro e_ w' ⟨rfl, d2, p2, s2, S6⟩)
              go_roundg (n - (a + 2 * bs))
              case measure => omega
              case rel => exact ⟨a + 2 * bs, d2, by first | rfl | go_num | (congr 1; omega), by first | rfl | go_num | (congr 1; omega), hle, Nat.dvd_add hda (Nat.dvd_refl _), Nat.le_refl _, S6, P5.out.trans (p2.mono (Nat.zero_le _) hle (by omega)), M5.out.step (by omega) hb0 hda hle p2 s2⟩
            · have hlez : ¬ (a : Int) + 2 * (bs : Int) ≤ (n : Int) := by omega
              by_cases hm : a + bs < n
              · have hmz : (a : Int) + (bs : Int) < (n : Int) := by omega
                have hc := MER.out a (a + bs) n dj wr (by omega) (by omega) S5.out (by omega) hm (Nat.le_refl _) (M5.out.left' hda hm) (M5.out.right' hda hm (by omega))
                have z1 : ((a + bs : Nat) : Int) = (a : Int) + (bs : Int) := by omega
                rw [z1] at hc
                clear z1
                go_wp2_with (go_at_call 121; refine hc.mono ?_; rintro e_ w' ⟨rfl, d2, p2, s2, S6⟩)
                go_roundg (n - bs * 2)
                case measure => omega
                case rel =>
                  have := M5.out.last (d' := d2) (by omega) hda (by omega) han p2 s2
                  exact ⟨2 * bs, d2, by first | rfl | go_num | (congr 1; omega), by omega, by omega, by omega, S6, P5.out.trans (p2.mono (Nat.zero_le _) (Nat.le_refl _) (by omega)), this.2⟩
              · have hmz : ¬ (a : Int) + (bs : Int) < (n : Int) := by omega
                have s2 : SortedIn (ltOf cf) a n dj := by
                  rcases Nat.lt_or_ge a n with h | h
                  · exact M5.out.rest (Nat.dvd_trans (Nat.dvd_mul_left _ _) hda) (by omega) h
                  · exact fun i j h1 h2 h3 => absurd h3 (by omega)
                have S6 : Aside _ := s2
                clear s2
                go_wp2
                go_roundg (n - bs * 2)
                case measure => omega
                case rel =>
                  have := M5.out.last (d' := dj) (by omega) hda (by omega) han (Put.refl _ _ _) S6.out
                  exact ⟨2 * bs, dj, by first | rfl | go_num | (congr 1; omega), by omega, by omega, by omega, S5, P5, this.2⟩
        · have hltz : ¬ (bs : Int) < (n : Int) := by omega
          go_wp2
          go_end0
          refine ⟨rfl, dk, P4.out, ?_, S4.out⟩
          rcases Nat.eq_zero_or_pos n with h0 | h0
          · subst h0; exact fun i j _ h1 h2 => absurd h2 (Nat.not_lt_zero _)
          · exact B4.out.one (by omega) h0

end Go.Proofs.Ytlgagppdipdkeaa.Stb

end
set_option linter.unusedVariables false
namespace Go.Proofs.Ytlgagppdipdkeaa.Stb
open Go.Shelf Go.RowKit Go.Lib Go.Sort Go.Proofs

theorem sortStable {N : Nat} (cf : Ix N → Ix N → Int) (hS : SWO (ltOf cf)) (g : Nat) (cb : Array Value) (blk off cap n : Nat) (d : Array (Ix N)) (w : World)
    (eg : ∀ args w, (callFunc g args).run Try.prog w = .ok (.enter g args) w) (hcmp : CmpLays1 Try.prog g cb (E N) cf blk off d.size w) (R : Row1 (E N) w blk off d) (hn : d.size = n) (hsz : n < 1152921504606846976) :
    Calls Try.prog 71 #[.slice (some ⟨blk, off, none⟩) n cap, .func (.func g) #[] cb] w fun e w' => e = .returned (.tuple #[]) ∧ ∃ d', Put (ltOf cf) 0 n d d' ∧ SortedIn (ltOf cf) 0 n d' ∧ SW (E N) w blk off d' w' := by
  have hc := stable cf hS g cb blk off cap n d w eg hcmp R hn hsz
  clear hcmp hn eg
  go_enter Try.func71, Try.ntmps71
  go_wp2_with (go_at_call 99; refine hc.mono ?_; rintro e w' ⟨rfl, h⟩)
  go_end0
  exact ⟨rfl, h⟩

theorem ins0 (A : Option Addr) (cap : Nat) (f : Value) (w : World) :
    Calls Try.prog 120 #[.slice A 0 cap, .int .i64 0, .int .i64 0, f] w fun e w' => e = .returned (.tuple #[]) ∧ w = w' := by
  go_enter Try.func120, Try.ntmps120
  go_wp2
  go_loopg [8] 0 (fun g1 va wr => va = .int .i64 1 ∧ w = wr)
  case atStart => exact ⟨rfl, rfl⟩
  case round =>
    obtain ⟨rfl, rfl⟩ := hrel
    go_wp2
    go_end0
    exact ⟨rfl, rfl⟩
/-- Of none there is nothing to sort. -/
theorem stable0 (A : Option Addr) (cap : Nat) (f : Value) (w : World) :
    Calls Try.prog 99 #[.slice A 0 cap, .int .i64 0, f] w fun e w' => e = .returned (.tuple #[]) ∧ w = w' := by
  have hc := ins0 A cap f w
  go_enter Try.func99, Try.ntmps99
  go_wp2
  go_loopg [7, 8] 0 (fun g1 va vb wr => va = .int .i64 0 ∧ vb = .int .i64 20 ∧ w = wr)
  case atStart => exact ⟨rfl, rfl, rfl⟩
  case round =>
    obtain ⟨rfl, rfl, rfl⟩ := hrel
    go_wp2_with (go_at_call 120; refine hc.mono ?_; rintro e w' ⟨rfl, rfl⟩)
    go_loopg [6] 0 (fun g1 va wr => va = .int .i64 20 ∧ w = wr)
    case atStart => exact ⟨rfl, rfl⟩
    case round =>
      obtain ⟨rfl, rfl⟩ := hrel
      go_wp2
      go_end0
      exact ⟨rfl, rfl⟩
theorem sortStable0 (A : Option Addr) (cap : Nat) (f : Value) (w : World) :
    Calls Try.prog 71 #[.slice A 0 cap, f] w fun e w' => e = .returned (.tuple #[]) ∧ w = w' := by
  have hc := stable0 A cap f w
  go_enter Try.func71, Try.ntmps71
  go_wp2_with (go_at_call 99; refine hc.mono ?_; rintro e w' ⟨rfl, rfl⟩)
  go_end0
  exact ⟨rfl, rfl⟩
end Go.Proofs.Ytlgagppdipdkeaa.Stb
namespace Go.Proofs.Ytlgagppdipdkeaa.Stb
open Go.Shelf Go.RowKit Go.Lib Go.Sort Go.Proofs Go.Proofs.YtlgagppdipdkeaaW.PrintWords
theorem keep_sort {N : Nat} (W : World) (blk m : Nat) (dk : Array (Stb.Ix N)) (os : Array Obj) : KeepBut W (sortWorld (Stb.E N) W blk 0 m dk os) blk none := by
  refine ⟨?_, fun k hk hne _ => ?_⟩
  · unfold sortWorld; simp
  · unfold sortWorld
    rw [Go.Sort.heap_grow_old _ _ (by simpa using hk)]
    have : blk ≠ k := fun e => hne e.symm
    simp [Go.Sort.putRow, Go.Sort.mapBlock, Go.Sort.ahead, Array.getElem?_modify, this]

end Go.Proofs.Ytlgagppdipdkeaa.Stb
