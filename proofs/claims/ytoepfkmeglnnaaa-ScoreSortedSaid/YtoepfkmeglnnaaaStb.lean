/- The plain law of Go's stable sort (insertion in blocks, then symMerge over rotate): no program here. -/
import Derived.Sort.LotA
namespace Go.Proofs.Ytoepfkmeglnnaaa.Stb
open Go.Sort
set_option linter.unusedSectionVars false
set_option linter.unusedVariables false
variable {α : Type} [Inhabited α] {lt : α → α → Bool}

def eqv (lt : α → α → Bool) (x y : α) : Bool := !lt x y && !lt y x

/-- Of every class of equals the same ones in the same order. -/
def StL (lt : α → α → Bool) (l l' : List α) : Prop := ∀ x, l'.filter (eqv lt x) = l.filter (eqv lt x)
def St (lt : α → α → Bool) (d d' : Array α) : Prop := StL lt d.toList d'.toList

theorem StL.refl (l : List α) : StL lt l l := fun _ => rfl
theorem StL.trans {l1 l2 l3 : List α} (h : StL lt l1 l2) (g : StL lt l2 l3) : StL lt l1 l3 := fun x => (g x).trans (h x)
theorem StL.symm {l1 l2 : List α} (h : StL lt l1 l2) : StL lt l2 l1 := fun x => (h x).symm
theorem St.refl (d : Array α) : St lt d d := StL.refl _
theorem St.trans {d1 d2 d3 : Array α} (h : St lt d1 d2) (g : St lt d2 d3) : St lt d1 d3 := StL.trans h g

theorem eqv_self (hS : SWO lt) (x : α) : eqv lt x x = true := by simp [eqv, hS.irrefl]

theorem StL.mem (hS : SWO lt) {l l' : List α} (h : StL lt l l') {x : α} (hx : x ∈ l) : x ∈ l' := by
  have : x ∈ l.filter (eqv lt x) := List.mem_filter.mpr ⟨hx, eqv_self hS x⟩
  rw [← h x] at this
  exact (List.mem_filter.mp this).1

/-- No later one is below an earlier one. -/
def SortedL (lt : α → α → Bool) (l : List α) : Prop := l.Pairwise fun x y => lt y x = false

/-- THERE IS BUT ONE SORTED LIST WITH THE SAME CLASSES. -/
theorem uniq (hS : SWO lt) : ∀ {l l' : List α}, SortedL lt l → SortedL lt l' → StL lt l l' → l = l'
  | [], [], _, _, _ => rfl
  | [], y :: t, _, _, h => by have := (h.symm).mem hS (List.mem_cons_self (a := y) (l := t)); cases this
  | x :: s, [], _, _, h => by have := h.mem hS (List.mem_cons_self (a := x) (l := s)); cases this
  | x :: s, y :: t, h1, h2, h => by
    have hx := h.mem hS (List.mem_cons_self (a := x) (l := s))
    have hy := h.symm.mem hS (List.mem_cons_self (a := y) (l := t))
    have a1 : lt x y = false := by
      rcases List.mem_cons.mp hx with rfl | hx
      · exact hS.irrefl _
      · exact (List.pairwise_cons.mp h2).1 _ hx
    have a2 : lt y x = false := by
      rcases List.mem_cons.mp hy with rfl | hy
      · exact hS.irrefl _
      · exact (List.pairwise_cons.mp h1).1 _ hy
    have hxy : x = y := by
      have := h x
      rw [List.filter_cons_of_pos (by simp [eqv, a1, a2]), List.filter_cons_of_pos (eqv_self hS x)] at this
      exact (List.cons.inj this).1.symm
    subst hxy
    have : s = t := uniq hS (List.pairwise_cons.mp h1).2 (List.pairwise_cons.mp h2).2 (fun z => by
      have hz := h z
      by_cases e : eqv lt z x = true
      · rw [List.filter_cons_of_pos e, List.filter_cons_of_pos e] at hz; exact (List.cons.inj hz).2
      · rw [List.filter_cons_of_neg e, List.filter_cons_of_neg e] at hz; exact hz)
    rw [this]

/-- Two runs of which each of the latter is below each of the former, put the other way round. -/
theorem StL.turn (hS : SWO lt) (p u v q : List α) (h : ∀ x ∈ u, ∀ y ∈ v, lt y x = true) : StL lt (p ++ u ++ v ++ q) (p ++ v ++ u ++ q) := by
  intro x
  simp only [List.filter_append]
  have : v.filter (eqv lt x) ++ u.filter (eqv lt x) = u.filter (eqv lt x) ++ v.filter (eqv lt x) := by
    cases hu : u.filter (eqv lt x) with
    | nil => simp
    | cons a s =>
      have ha : a ∈ u.filter (eqv lt x) := by rw [hu]; exact List.mem_cons_self
      have hv : v.filter (eqv lt x) = [] := by
        apply List.filter_eq_nil_iff.mpr
        intro y hy hb
        have h1 := (List.mem_filter.mp ha).2
        have h2 := h a (List.mem_filter.mp ha).1 y hy
        simp only [eqv, Bool.and_eq_true, Bool.not_eq_true'] at h1 hb
        have := hS.ntrans y x a hb.2 h1.1
        rw [h2] at this; cases this
      rw [hv]; simp
  rw [List.append_assoc (List.filter _ p), this, ← List.append_assoc]

/-! ### Runs put round -/
def rot (d : Array α) (a m b : Nat) : Array α := Array.ofFn (n := d.size) fun k => if k.1 < a ∨ b ≤ k.1 then d[k.1]! else if k.1 < a + (b - m) then d[k.1 + (m - a)]! else d[k.1 - (b - m)]!

theorem size_rot (d : Array α) (a m b : Nat) : (rot d a m b).size = d.size := by simp [rot]

theorem rot_get (d : Array α) (a m b k : Nat) (hk : k < d.size) : (rot d a m b)[k]! = if k < a ∨ b ≤ k then d[k]! else if k < a + (b - m) then d[k + (m - a)]! else d[k - (b - m)]! := by
  rw [getElem!_pos _ k (by simpa [size_rot] using hk)]
  simp only [rot, Array.getElem_ofFn]

theorem ext! {d d' : Array α} (hs : d.size = d'.size) (h : ∀ k, k < d.size → d[k]! = d'[k]!) : d = d' := by
  apply Array.ext hs
  intro i h1 h2
  have := h i h1
  rwa [getElem!_pos d i h1, getElem!_pos d' i h2] at this

/-- One of the two runs is of none. -/
theorem rot_none (d : Array α) (a m b : Nat) (h : a = m ∨ m = b) (hb : b ≤ d.size) (ham : a ≤ m) (hmb : m ≤ b) : rot d a m b = d := by
  apply ext! (size_rot ..)
  intro k hk
  rw [size_rot] at hk
  rw [rot_get _ _ _ _ _ hk]
  rcases h with rfl | rfl
  · repeat' split
    all_goals first | rfl | (congr 1; omega) | omega
  · repeat' split
    all_goals first | rfl | (congr 1; omega) | omega

def mapR (d : Array α) (s n : Nat) : List α := (List.range' s n).map fun i => d[i]!

theorem toList_mapR (d : Array α) : d.toList = mapR d 0 d.size := by
  have := extract_toList d 0 d.size (Nat.le_refl _)
  rw [Nat.sub_zero] at this
  rw [mapR, ← this, Array.extract_size]

theorem mapR_append (d : Array α) (s n k : Nat) : mapR d s n ++ mapR d (s + n) k = mapR d s (n + k) := by
  rw [mapR, mapR, ← List.map_append, mapR]
  congr 1
  have := List.range'_append (s := s) (m := n) (n := k) (step := 1)
  rw [Nat.one_mul] at this
  exact this

theorem mapR_congr (d d' : Array α) (s s' n : Nat) (h : ∀ i, i < n → d'[s' + i]! = d[s + i]!) : mapR d' s' n = mapR d s n := by
  apply List.ext_getElem (by simp [mapR])
  intro i h1 h2
  simp only [mapR, List.length_map, List.length_range'] at h1 h2
  simp only [mapR, List.getElem_map, List.getElem_range', Nat.one_mul]
  exact h i h1

theorem mem_mapR {d : Array α} {s n : Nat} {x : α} (h : x ∈ mapR d s n) : ∃ i, s ≤ i ∧ i < s + n ∧ x = d[i]! := by
  simp only [mapR, List.mem_map, List.mem_range'_1] at h
  obtain ⟨i, hi, rfl⟩ := h
  exact ⟨i, hi.1, hi.2, rfl⟩

theorem split4 (d : Array α) (a m b : Nat) (ham : a ≤ m) (hmb : m ≤ b) (hb : b ≤ d.size) : d.toList = mapR d 0 a ++ mapR d a (m - a) ++ mapR d m (b - m) ++ mapR d b (d.size - b) := by
  have e1 := mapR_append d 0 a (m - a)
  have e2 := mapR_append d 0 m (b - m)
  have e3 := mapR_append d 0 b (d.size - b)
  simp only [Nat.zero_add] at e1 e2 e3
  rw [e1, show a + (m - a) = m by omega, e2, show m + (b - m) = b by omega, e3, show b + (d.size - b) = d.size by omega]
  exact toList_mapR d

theorem rot_list (d : Array α) (a m b : Nat) (ham : a ≤ m) (hmb : m ≤ b) (hb : b ≤ d.size) : (rot d a m b).toList = mapR d 0 a ++ mapR d m (b - m) ++ mapR d a (m - a) ++ mapR d b (d.size - b) := by
  have h := split4 (rot d a m b) a (a + (b - m)) b (by omega) (by omega) (by rw [size_rot]; exact hb)
  rw [size_rot, show a + (b - m) - a = b - m by omega, show b - (a + (b - m)) = m - a by omega] at h
  rw [h]
  congr 1
  · congr 1
    · congr 1
      · apply mapR_congr
        intro i hi
        rw [rot_get _ _ _ _ _ (by omega), if_pos (by omega)]
      · apply mapR_congr
        intro i hi
        rw [rot_get _ _ _ _ _ (by omega), if_neg (by omega), if_pos (by omega)]
        congr 1; omega
    · apply mapR_congr
      intro i hi
      rw [rot_get _ _ _ _ _ (by omega), if_neg (by omega), if_neg (by omega)]
      congr 1; omega
  · apply mapR_congr
    intro i hi
    rw [rot_get _ _ _ _ _ (by omega), if_pos (by omega)]

theorem rot_st (hS : SWO lt) (d : Array α) (a m b : Nat) (ham : a ≤ m) (hmb : m ≤ b) (hb : b ≤ d.size) (h : ∀ i j, a ≤ i → i < m → m ≤ j → j < b → lt d[j]! d[i]! = true) : St lt d (rot d a m b) := by
  unfold St
  rw [rot_list d a m b ham hmb hb, split4 d a m b ham hmb hb]
  apply StL.turn hS
  intro x hx y hy
  obtain ⟨i, h1, h2, rfl⟩ := mem_mapR hx
  obtain ⟨j, h3, h4, rfl⟩ := mem_mapR hy
  exact h i j h1 (by omega) h3 (by omega)

theorem rot_perm (d : Array α) (a m b : Nat) (ham : a ≤ m) (hmb : m ≤ b) (hb : b ≤ d.size) : PermIn a b d (rot d a m b) := by
  refine ⟨size_rot .., ?_, ?_⟩
  · intro i hi
    by_cases hk : i < d.size
    · rw [rot_get _ _ _ _ _ hk, if_pos hi]
    · rw [getElem!_neg _ i (by simpa [size_rot] using hk), getElem!_neg _ i hk]
  · rw [extract_toList _ _ _ (by rw [size_rot]; exact hb), extract_toList _ _ _ hb]
    have e1 : (List.range' a (b - a)).map (fun i => (rot d a m b)[i]!) = mapR d m (b - m) ++ mapR d a (m - a) := by
      have := mapR_append (rot d a m b) a (b - m) (m - a)
      rw [show b - m + (m - a) = b - a by omega] at this
      rw [← mapR, ← this]
      congr 1
      · apply mapR_congr
        intro i hi
        rw [rot_get _ _ _ _ _ (by omega), if_neg (by omega), if_pos (by omega)]
        congr 1; omega
      · apply mapR_congr
        intro i hi
        rw [rot_get _ _ _ _ _ (by omega), if_neg (by omega), if_neg (by omega)]
        congr 1; omega
    have e2 : (List.range' a (b - a)).map (fun i => d[i]!) = mapR d a (m - a) ++ mapR d m (b - m) := by
      have := mapR_append d a (m - a) (b - m)
      rw [show m - a + (b - m) = b - a by omega, show a + (m - a) = m by omega] at this
      rw [← mapR, ← this]
    rw [e1, e2]
    exact List.perm_append_comm

theorem swp_get (d : Array α) (i j k : Nat) (hi : i < d.size) (hj : j < d.size) : (swp d i j)[k]! = if k = j then d[i]! else if k = i then d[j]! else d[k]! := by
  by_cases e : k = j
  · subst e; rw [if_pos rfl]; exact swp_right d i k hj
  · rw [if_neg e]
    by_cases e2 : k = i
    · subst e2; rw [if_pos rfl]; exact swp_left d k j hi e
    · rw [if_neg e2]; exact swp_other d i j k e2 e

/-! ### swapRange -/
def swr (d : Array α) (a b : Nat) : Nat → Array α
  | 0 => d
  | n + 1 => swp (swr d a b n) (a + n) (b + n)

theorem size_swr (d : Array α) (a b n : Nat) : (swr d a b n).size = d.size := by
  induction n with
  | zero => rfl
  | succ n ih => rw [swr, size_swp, ih]

theorem swr_get (d : Array α) (a b n : Nat) (hab : a + n ≤ b) (hb : b + n ≤ d.size) (k : Nat) : (swr d a b n)[k]! = if a ≤ k ∧ k < a + n then d[k + (b - a)]! else if b ≤ k ∧ k < b + n then d[k - (b - a)]! else d[k]! := by
  induction n generalizing k with
  | zero => rw [swr, if_neg (by omega), if_neg (by omega)]
  | succ n ih =>
    have ih := fun k => ih (by omega) (by omega) k
    rw [swr, swp_get _ _ _ _ (by rw [size_swr]; omega) (by rw [size_swr]; omega), ih (a + n), ih (b + n), ih k]
    rw [if_neg (show ¬ (a ≤ a + n ∧ a + n < a + n) by omega), if_neg (show ¬ (b ≤ a + n ∧ a + n < b + n) by omega), if_neg (show ¬ (a ≤ b + n ∧ b + n < a + n) by omega), if_neg (show ¬ (b ≤ b + n ∧ b + n < b + n) by omega)]
    by_cases c1 : k = b + n
    · subst c1
      rw [if_pos rfl, if_neg (by omega), if_pos (by omega)]
      congr 1; omega
    · rw [if_neg c1]
      by_cases c2 : k = a + n
      · subst c2
        rw [if_pos rfl, if_pos (by omega)]
        congr 1; omega
      · rw [if_neg c2]
        by_cases c3 : a ≤ k ∧ k < a + n
        · rw [if_pos c3, if_pos (by omega)]
        · rw [if_neg c3, if_neg (show ¬ (a ≤ k ∧ k < a + (n + 1)) by omega)]
          by_cases c4 : b ≤ k ∧ k < b + n
          · rw [if_pos c4, if_pos (by omega)]
          · rw [if_neg c4, if_neg (by omega)]

/-! ### rotate -/
theorem rot_more (d : Array α) (m i j : Nat) (hj : j < i) (hi : i ≤ m) (hb : m + j ≤ d.size) : rot (swr d (m - i) m j) (m - (i - j)) m (m + j) = rot d (m - i) m (m + j) := by
  apply ext! (by rw [size_rot, size_rot, size_swr])
  intro k hk
  rw [size_rot, size_swr] at hk
  have g := swr_get d (m - i) m j (by omega) (by omega)
  rw [rot_get _ _ _ _ _ (by rw [size_swr]; exact hk), rot_get _ _ _ _ _ hk, g, g, g]
  have e1 : m - (m - (i - j)) = i - j := by omega
  have e2 : m + j - m = j := by omega
  have e3 : m - (m - i) = i := by omega
  rw [e1, e2, e3]
  repeat' split
  all_goals first | rfl | (exfalso; omega) | (congr 1; omega)

theorem rot_less (d : Array α) (m i j : Nat) (hj : i < j) (hi : i ≤ m) (hb : m + j ≤ d.size) : rot (swr d (m - i) (m + j - i) i) (m - i) m (m + (j - i)) = rot d (m - i) m (m + j) := by
  apply ext! (by rw [size_rot, size_rot, size_swr])
  intro k hk
  rw [size_rot, size_swr] at hk
  have g := swr_get d (m - i) (m + j - i) i (by omega) (by omega)
  rw [rot_get _ _ _ _ _ (by rw [size_swr]; exact hk), rot_get _ _ _ _ _ hk, g, g, g]
  have e1 : m + (j - i) - m = j - i := by omega
  have e2 : m + j - m = j := by omega
  have e3 : m - (m - i) = i := by omega
  have e4 : m + j - i - (m - i) = j := by omega
  rw [e1, e2, e3, e4]
  repeat' split
  all_goals first | rfl | (exfalso; omega) | (congr 1; omega)

theorem rot_same (d : Array α) (m i : Nat) (hi : i ≤ m) (hb : m + i ≤ d.size) : swr d (m - i) m i = rot d (m - i) m (m + i) := by
  apply ext! (by rw [size_rot, size_swr])
  intro k hk
  rw [size_swr] at hk
  rw [rot_get _ _ _ _ _ hk, swr_get d (m - i) m i (by omega) (by omega)]
  repeat' split
  all_goals first | rfl | (exfalso; omega) | (congr 1; omega)

/-! ### one put among others, place by place -/
theorem swp_rot (d : Array α) (j : Nat) (h : j + 1 < d.size) : swp d (j + 1) j = rot d j (j + 1) (j + 2) := by
  apply ext! (by rw [size_rot, size_swp])
  intro k hk
  rw [size_swp] at hk
  rw [rot_get _ _ _ _ _ hk, swp_get _ _ _ _ (by omega) (by omega)]
  repeat' split
  all_goals first | rfl | (exfalso; omega) | (congr 1; omega)

theorem swp_comm (d : Array α) (i j : Nat) (hi : i < d.size) (hj : j < d.size) : swp d i j = swp d j i := by
  apply ext! (by rw [size_swp, size_swp])
  intro k hk
  rw [swp_get _ _ _ _ hi hj, swp_get _ _ _ _ hj hi]
  repeat' split
  all_goals first | rfl | (subst_vars; rfl) | (exfalso; omega)

/-- Up: the one at a behind [a+1, k+1), then one place more. -/
theorem rot_up (d : Array α) (a k : Nat) (hak : a ≤ k) (hk : k + 1 < d.size) : swp (rot d a (a + 1) (k + 1)) k (k + 1) = rot d a (a + 1) (k + 2) := by
  apply ext! (by rw [size_rot, size_swp, size_rot])
  intro i hi
  rw [size_swp, size_rot] at hi
  rw [swp_get _ _ _ _ (by rw [size_rot]; omega) (by rw [size_rot]; omega), rot_get _ _ _ _ _ hi, rot_get _ _ _ _ _ hi, rot_get _ _ _ _ k (by omega), rot_get _ _ _ _ (k + 1) (by omega)]
  repeat' split
  all_goals first | rfl | (exfalso; omega) | (congr 1; omega)

/-- Down: the one at m ahead of [k, m), then one place more. -/
theorem rot_down (d : Array α) (m k : Nat) (hkm : k + 1 ≤ m) (hm : m < d.size) : swp (rot d (k + 1) m (m + 1)) (k + 1) k = rot d k m (m + 1) := by
  apply ext! (by rw [size_rot, size_swp, size_rot])
  intro i hi
  rw [size_swp, size_rot] at hi
  rw [swp_get _ _ _ _ (by rw [size_rot]; omega) (by rw [size_rot]; omega), rot_get _ _ _ _ _ hi, rot_get _ _ _ _ _ hi, rot_get _ _ _ _ k (by omega), rot_get _ _ _ _ (k + 1) (by omega)]
  repeat' split
  all_goals first | rfl | (exfalso; omega) | (congr 1; omega)

/-! ### the insertion sort keeps the order of equals -/
theorem insInner_st (hS : SWO lt) (a : Nat) : ∀ (j : Nat) (d : Array α), j < d.size → St lt d (insInner lt a j d)
  | 0, d, _ => St.refl d
  | j + 1, d, h => by
    rw [insInner]
    split
    · rename_i c
      have hl : lt d[j + 1]! d[j]! = true := by simp only [Bool.and_eq_true] at c; exact c.2
      refine St.trans ?_ (insInner_st hS a j _ (by rw [size_swp]; omega))
      rw [swp_rot d j h]
      apply rot_st hS d j (j + 1) (j + 2) (by omega) (by omega) (by omega)
      intro i k h1 h2 h3 h4
      rw [show i = j by omega, show k = j + 1 by omega]
      exact hl
    · exact St.refl d

theorem size_insInner (a : Nat) : ∀ (j : Nat) (d : Array α), (insInner lt a j d).size = d.size
  | 0, d => rfl
  | j + 1, d => by
    rw [insInner]
    split
    · rw [size_insInner a j, size_swp]
    · rfl

theorem insOuter_st (hS : SWO lt) (a b : Nat) : ∀ (n i : Nat) (d : Array α), b - i = n → b ≤ d.size → St lt d (insOuter lt a b i d)
  | 0, i, d, h, _ => by rw [insOuter, if_neg (by omega)]; exact St.refl d
  | n + 1, i, d, h, hb => by
    rw [insOuter, if_pos (by omega)]
    exact (insInner_st hS a i d (by omega)).trans (insOuter_st hS a b n (i + 1) _ (by omega) (by rw [size_insInner]; exact hb))

theorem insertionSort_st (hS : SWO lt) (d : Array α) (a b : Nat) (hb : b ≤ d.size) : St lt d (insertionSort lt d a b) := insOuter_st hS a b _ _ d rfl hb

/-! ### the merge -/
/-- What a step of the sort may do to [a, b): put it in order, or leave it: equals stay in their order. -/
structure Put (lt : α → α → Bool) (a b : Nat) (d d' : Array α) : Prop where
  perm : PermIn a b d d'
  st : St lt d d'

theorem Put.refl (a b : Nat) (d : Array α) : Put lt a b d d := ⟨permIn_refl _ _ _, St.refl _⟩
theorem Put.trans {a b : Nat} {d d' d'' : Array α} (h : Put lt a b d d') (g : Put lt a b d' d'') : Put lt a b d d'' := ⟨permIn_trans _ _ _ _ _ h.perm g.perm, h.st.trans g.st⟩
theorem Put.mono {a b a' b' : Nat} {d d' : Array α} (h : Put lt a b d d') (ha : a' ≤ a) (hb : b ≤ b') (hs : b' ≤ d.size) : Put lt a' b' d d' := ⟨permIn_mono _ _ _ _ _ _ ha hb hs h.perm, h.st⟩
theorem Put.size {a b : Nat} {d d' : Array α} (h : Put lt a b d d') : d'.size = d.size := h.perm.1
theorem Put.off {a b : Nat} {d d' : Array α} (h : Put lt a b d d') (i : Nat) (hi : i < a ∨ b ≤ i) : d'[i]! = d[i]! := h.perm.2.1 i hi

theorem ins_put (hS : SWO lt) (d : Array α) (a b : Nat) (hab : a ≤ b) (hb : b ≤ d.size) : Put lt a b d (insertionSort lt d a b) ∧ SortedIn lt a b (insertionSort lt d a b) :=
  have h := insertionSort_holds hS d a b hab hb
  ⟨⟨h.1, insertionSort_st hS d a b hb⟩, h.2⟩

theorem SortedIn.off {a b : Nat} {d d' : Array α} (h : SortedIn lt a b d) (he : ∀ i, a ≤ i → i < b → d'[i]! = d[i]!) : SortedIn lt a b d' := by
  intro i j h1 h2 h3
  rw [he i h1 (by omega), he j (by omega) h3]
  exact h i j h1 h2 h3

theorem sorted_le (hS : SWO lt) {a b : Nat} {d : Array α} (h : SortedIn lt a b d) (i j : Nat) (h1 : a ≤ i) (h2 : i ≤ j) (h3 : j < b) : lt d[j]! d[i]! = false := by
  rcases Nat.lt_or_eq_of_le h2 with h2 | rfl
  · exact h i j h1 h2 h3
  · exact hS.irrefl _

/-- x < y ≤ z. -/
theorem lt_le (hS : SWO lt) {x y z : α} (h : lt x y = true) (g : lt z y = false) : lt x z = true := by
  cases e : lt x z with
  | true => rfl
  | false => have := hS.ntrans x z y e g; rw [h] at this; cases this
theorem le_lt (hS : SWO lt) {x y z : α} (h : lt y x = false) (g : lt y z = true) : lt x z = true := by
  cases e : lt x z with
  | true => rfl
  | false => have := hS.ntrans y x z h e; rw [g] at this; cases this

/-- The one at a is put behind all that are below it. -/
theorem one_up (hS : SWO lt) (d : Array α) (a b i : Nat) (hi1 : a + 1 ≤ i) (hi2 : i ≤ b) (hb : b ≤ d.size) (hs : SortedIn lt (a + 1) b d)
    (hlo : ∀ k, a + 1 ≤ k → k < i → lt d[k]! d[a]! = true) (hhi : ∀ k, i ≤ k → k < b → lt d[k]! d[a]! = false) :
    Put lt a b d (rot d a (a + 1) i) ∧ SortedIn lt a b (rot d a (a + 1) i) := by
  refine ⟨⟨permIn_mono _ _ _ _ _ _ (Nat.le_refl _) hi2 hb (rot_perm d a (a + 1) i (by omega) hi1 (by omega)), rot_st hS d a (a + 1) i (by omega) hi1 (by omega) (fun p q h1 h2 h3 h4 => by rw [show p = a by omega]; exact hlo q h3 h4)⟩, ?_⟩
  intro p q h1 h2 h3
  rw [rot_get _ _ _ _ _ (by omega), rot_get _ _ _ _ _ (by omega)]
  have e1 : a + 1 - a = 1 := by omega
  rw [e1]
  by_cases c1 : i ≤ p
  · rw [if_pos (by omega), if_pos (by omega)]; exact hs p q (by omega) h2 h3
  · rw [if_neg (show ¬ (p < a ∨ i ≤ p) by omega)]
    by_cases c2 : i ≤ q
    · rw [if_pos (show q < a ∨ i ≤ q by omega)]
      by_cases c3 : p < a + (i - (a + 1))
      · rw [if_pos c3]; exact hs _ _ (by omega) (by omega) h3
      · rw [if_neg c3, show p - (i - (a + 1)) = a by omega]; exact hhi q c2 h3
    · rw [if_neg (show ¬ (q < a ∨ i ≤ q) by omega)]
      by_cases c3 : q < a + (i - (a + 1))
      · rw [if_pos c3, if_pos (by omega)]; exact hs _ _ (by omega) (by omega) (by omega)
      · rw [if_neg c3, if_pos (by omega), show q - (i - (a + 1)) = a by omega]
        exact hS.asymmA (hlo _ (by omega) (by omega))

/-- The one at m is put ahead of all that are above it. -/
theorem one_down (hS : SWO lt) (d : Array α) (a m i : Nat) (hi1 : a ≤ i) (hi2 : i ≤ m) (hm : m < d.size) (hs : SortedIn lt a m d)
    (hlo : ∀ k, a ≤ k → k < i → lt d[m]! d[k]! = false) (hhi : ∀ k, i ≤ k → k < m → lt d[m]! d[k]! = true) :
    Put lt a (m + 1) d (rot d i m (m + 1)) ∧ SortedIn lt a (m + 1) (rot d i m (m + 1)) := by
  refine ⟨⟨permIn_mono _ _ _ _ _ _ hi1 (Nat.le_refl _) hm (rot_perm d i m (m + 1) hi2 (by omega) (by omega)), rot_st hS d i m (m + 1) hi2 (by omega) (by omega) (fun p q h1 h2 h3 h4 => by rw [show q = m by omega]; exact hhi p h1 h2)⟩, ?_⟩
  intro p q h1 h2 h3
  rw [rot_get _ _ _ _ _ (by omega), rot_get _ _ _ _ _ (by omega)]
  have e1 : m + 1 - m = 1 := by omega
  rw [e1]
  by_cases c1 : q < i
  · rw [if_pos (by omega), if_pos (by omega)]; exact hs p q h1 h2 (by omega)
  · rw [if_neg (show ¬ (q < i ∨ m + 1 ≤ q) by omega)]
    by_cases c2 : q = i
    · rw [if_pos (show q < i + 1 by omega), if_pos (show p < i ∨ _ by omega), show q + (m - i) = m by omega]
      exact hlo p h1 (by omega)
    · rw [if_neg (show ¬ q < i + 1 by omega)]
      by_cases c3 : p < i
      · rw [if_pos (Or.inl c3)]; exact hs _ _ h1 (by omega) (by omega)
      · rw [if_neg (show ¬ (p < i ∨ m + 1 ≤ p) by omega)]
        by_cases c4 : p = i
        · rw [if_pos (show p < i + 1 by omega), show p + (m - i) = m by omega]
          exact hS.asymmA (hhi _ (by omega) (by omega))
        · rw [if_neg (show ¬ p < i + 1 by omega)]; exact hs _ _ (by omega) (by omega) (by omega)

/-- The merge's middle: s: where the first run is cut; e = (a+b)/2 + m - s: where the second is. -/
theorem sym (hS : SWO lt) (d : Array α) (a m b s mid : Nat) (h1 : a ≤ s) (h2 : s ≤ m) (h3 : s ≤ mid) (h4 : mid + m - s ≤ b) (hb : b ≤ d.size) (hmid : a ≤ mid) (hmb : mid ≤ b)
    (hs1 : SortedIn lt a m d) (hs2 : SortedIn lt m b d)
    (hlo : a < s → mid + m - s < b → lt d[mid + m - s]! d[s - 1]! = false)
    (hhi : s < m → m < mid + m - s → lt d[mid + m - s - 1]! d[s]! = true) :
    Put lt a b d (rot d s m (mid + m - s)) ∧ SortedIn lt a s (rot d s m (mid + m - s)) ∧ SortedIn lt s mid (rot d s m (mid + m - s)) ∧ SortedIn lt mid (mid + m - s) (rot d s m (mid + m - s)) ∧ SortedIn lt (mid + m - s) b (rot d s m (mid + m - s))
      ∧ ∀ p q, a ≤ p → p < mid → mid ≤ q → q < b → lt (rot d s m (mid + m - s))[q]! (rot d s m (mid + m - s))[p]! = false := by
  obtain ⟨e, he⟩ : ∃ e, e = mid + m - s := ⟨_, rfl⟩
  rw [← he] at h4 hlo hhi ⊢
  have hem : m ≤ e := by omega
  have hem2 : s + (e - m) = mid := by omega
  have strict : ∀ i j, s ≤ i → i < m → m ≤ j → j < e → lt d[j]! d[i]! = true := by
    intro i j g1 g2 g3 g4
    have k1 := hhi (by omega) (by omega)
    have k2 := sorted_le hS hs1 s i h1 g1 g2
    have k3 := sorted_le hS hs2 j (e - 1) g3 (by omega) (by omega)
    exact le_lt hS k3 (lt_le hS k1 k2)
  have G : ∀ k, k < d.size → (rot d s m e)[k]! = if k < s ∨ e ≤ k then d[k]! else if k < mid then d[k + (m - s)]! else d[k - (e - m)]! := by
    intro k hk; rw [rot_get _ _ _ _ _ hk, hem2]
  refine ⟨⟨permIn_mono _ _ _ _ _ _ h1 h4 hb (rot_perm d s m e h2 hem (by omega)), rot_st hS d s m e h2 hem (by omega) strict⟩, ?_, ?_, ?_, ?_, ?_⟩
  · intro p q g1 g2 g3
    rw [G _ (by omega), G _ (by omega), if_pos (show q < s ∨ _ by omega), if_pos (show p < s ∨ _ by omega)]; exact hs1 p q g1 g2 (by omega)
  · intro p q g1 g2 g3
    rw [G _ (by omega), G _ (by omega), if_neg (show ¬ (q < s ∨ e ≤ q) by omega), if_neg (show ¬ (p < s ∨ e ≤ p) by omega), if_pos (show q < mid by omega), if_pos (show p < mid by omega)]; exact hs2 _ _ (by omega) (by omega) (by omega)
  · intro p q g1 g2 g3
    rw [G _ (by omega), G _ (by omega), if_neg (show ¬ (q < s ∨ e ≤ q) by omega), if_neg (show ¬ (p < s ∨ e ≤ p) by omega), if_neg (show ¬ q < mid by omega), if_neg (show ¬ p < mid by omega)]; exact hs1 _ _ (by omega) (by omega) (by omega)
  · intro p q g1 g2 g3
    rw [G _ (by omega), G _ (by omega), if_pos (show q < s ∨ e ≤ q by omega), if_pos (show p < s ∨ e ≤ p by omega)]; exact hs2 p q (by omega) g2 g3
  · intro p q g1 g2 g3 g4
    rw [G _ (by omega), G _ (by omega)]
    by_cases c1 : p < s
    · rw [if_pos (Or.inl c1)]
      by_cases c2 : e ≤ q
      · rw [if_pos (Or.inr c2)]
        have k1 := hlo (by omega) (by omega)
        have k2 := sorted_le hS hs1 p (s - 1) g1 (by omega) (by omega)
        have k3 := sorted_le hS hs2 e q hem c2 g4
        exact hS.ntrans _ _ _ k3 (hS.ntrans _ _ _ k1 k2)
      · rw [if_neg (by omega), if_neg (by omega)]
        exact sorted_le hS hs1 _ _ g1 (by omega) (by omega)
    · rw [if_neg (show ¬ (p < s ∨ e ≤ p) by omega), if_pos g2]
      by_cases c2 : e ≤ q
      · rw [if_pos (Or.inr c2)]
        exact sorted_le hS hs2 _ _ (by omega) (by omega) g4
      · rw [if_neg (by omega), if_neg (by omega)]
        exact hS.asymmA (strict _ _ (by omega) (by omega) (by omega) (by omega))

/-- The two halves put in order by themselves. -/
theorem halves (hS : SWO lt) (d d1 d2 : Array α) (a mid b : Nat) (ham : a ≤ mid) (hmb : mid ≤ b) (hb : b ≤ d.size)
    (hx : ∀ p q, a ≤ p → p < mid → mid ≤ q → q < b → lt d[q]! d[p]! = false)
    (p1 : Put lt a mid d d1) (s1 : SortedIn lt a mid d1) (p2 : Put lt mid b d1 d2) (s2 : SortedIn lt mid b d2) : Put lt a b d d2 ∧ SortedIn lt a b d2 := by
  have z1 := p1.size
  refine ⟨(p1.mono (Nat.le_refl _) hmb hb).trans (p2.mono ham (Nat.le_refl _) (by omega)), ?_⟩
  have hx1 : ∀ p q, a ≤ p → p < mid → mid ≤ q → q < b → lt d1[q]! d1[p]! = false := by
    intro p q g1 g2 g3 g4
    rw [p1.off q (Or.inr g3)]
    exact permIn_all d d1 a mid (fun x => lt d[q]! x = false) (by omega) p1.perm (fun i i1 i2 => hx i q i1 i2 g3 g4) p g1 g2
  have hx2 : ∀ p q, a ≤ p → p < mid → mid ≤ q → q < b → lt d2[q]! d2[p]! = false := by
    intro p q g1 g2 g3 g4
    rw [p2.off p (Or.inl g2)]
    exact permIn_all d1 d2 mid b (fun x => lt x d1[p]! = false) (by omega) p2.perm (fun i i1 i2 => hx1 p i g1 g2 i1 i2) q g3 g4
  intro p q g1 g2 g3
  by_cases c1 : q < mid
  · rw [p2.off q (Or.inl c1), p2.off p (Or.inl (by omega))]; exact s1 p q g1 g2 c1
  · by_cases c2 : p < mid
    · exact hx2 p q g1 c2 (by omega) g3
    · exact s2 p q (by omega) g2 g3

/-! ### the whole: runs of bs in order -/
/-- Each run of bs from 0 up to 'to' is in order. -/
def Runs (lt : α → α → Bool) (bs to : Nat) (d : Array α) : Prop := ∀ k, k * bs < to → SortedIn lt (k * bs) (min (k * bs + bs) to) d

theorem sortedL_of (d : Array α) (h : SortedIn lt 0 d.size d) : SortedL lt d.toList := by
  unfold SortedL
  rw [List.pairwise_iff_getElem]
  intro i j h1 h2 hij
  simp only [Array.length_toList] at h1 h2
  have := h i j (Nat.zero_le _) hij h2
  rwa [getElem!_pos d i h1, getElem!_pos d j h2] at this

end Go.Proofs.Ytoepfkmeglnnaaa.Stb
