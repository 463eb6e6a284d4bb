/- The laws' size, the program's learning at small corpora, the fixed calls: plainly. No condition. -/
import Derived.Test.YtkdegcpfjfgajaaPaW
import Derived.Test.YtkdegcpfjfgajaaPwW
import Derived.Test.YtkdegcpfjfgajaaXKnW
import Derived.Test.YtkdegcpfjfgajaaQ2W
import Derived.Test.YtkdegcpfjfgajaaQ4W
namespace Go.Proofs.Ytkdegcpfjfgajaa.X
open Go Go.RowKit Go.Proofs.YtkdegcpfjfgajaaW.PrintWords Go.Proofs.Ytkdegcpfjfgajaa.Mg Go.Proofs.Ytkdegcpfjfgajaa.Pt Go.Proofs.Ytkdegcpfjfgajaa.Q Go.Proofs.Ytkdegcpfjfgajaa.L
set_option linter.unusedVariables false
set_option linter.unusedSimpArgs false
/-! ### the size -/
theorem rd53_drop (l : List S53) (i : Nat) (h : i < l.length) : l.drop i = rd_T53 l (i : Int) :: l.drop (i + 1) := by
  rw [List.drop_eq_getElem_cons h, rd_T53, Int.toNat_natCast, List.getD_eq_getElem?_getD, List.getElem?_eq_getElem h, Option.getD_some]
theorem size19_l0 (l : List S53) (hl : l.length ≤ 10000000000000) (hn : ∀ i : Int, (rd_T53 l i).f0.length ≤ 140737488355328) : ∀ (d i : Nat) (n : Int), i + d = l.length → 0 ≤ n → n ≤ 200000000000000 →
    ∃ v, (∀ k, d + 1 ≤ k → imprimaturref19_Size.l0 k l 250 n (i : Int) = some v) ∧ (v ≤ 250 → n + d + tot ((l.drop i).map (fun x => x.f0)) ≤ v) := by
  intro d
  induction d with
  | zero =>
    intro i n h1 h2 h3
    refine ⟨n, fun k hk => ?_, fun _ => by rw [List.drop_eq_nil_of_le (by omega)]; simp [tot]⟩
    obtain ⟨k, rfl⟩ : ∃ k', k = k' + 1 := ⟨k - 1, by omega⟩
    rw [imprimaturref19_Size.l0, if_neg (by omega)]
  | succ d ih =>
    intro i n h1 h2 h3
    by_cases c : n ≤ 250
    · have hb := hn i
      have hw : wrap64 ((wrap64 (n + 1)) + ((rd_T53 l (i : Int)).f0.length : Int)) = n + 1 + ((rd_T53 l (i : Int)).f0.length : Int) := by unfold wrap64; omega
      obtain ⟨v, g1, g2⟩ := ih (i + 1) (n + 1 + ((rd_T53 l (i : Int)).f0.length : Int)) (by omega) (by omega) (by omega)
      refine ⟨v, fun k hk => ?_, fun hv => ?_⟩
      · obtain ⟨k, rfl⟩ : ∃ k', k = k' + 1 := ⟨k - 1, by omega⟩
        rw [imprimaturref19_Size.l0, if_pos (by omega), if_pos c, if_pos (by omega), hw, show wrap64 ((i : Int) + 1) = ((i + 1 : Nat) : Int) by unfold wrap64; omega]
        exact g1 k (by omega)
      · have := g2 hv
        rw [rd53_drop l i (by omega), List.map_cons, tot]
        omega
    · refine ⟨n, fun k hk => ?_, fun hv => absurd hv c⟩
      obtain ⟨k, rfl⟩ : ∃ k', k = k' + 1 := ⟨k - 1, by omega⟩
      rw [imprimaturref19_Size.l0, if_pos (by omega), if_neg c]
theorem size06_l0 (l : List (List Int)) (hl : l.length ≤ 10000000000000) (hn : ∀ i : Int, (rd_L1 l i).length ≤ 140737488355328) : ∀ (d i : Nat) (n : Int), i + d = l.length → 0 ≤ n → n ≤ 200000000000000 →
    ∃ v, (∀ k, d + 1 ≤ k → imprimaturref06_Size.l0 k l 300 n (i : Int) = some v) ∧ (v ≤ 300 → n + d + tot (l.drop i) ≤ v) := by
  intro d
  induction d with
  | zero =>
    intro i n h1 h2 h3
    refine ⟨n, fun k hk => ?_, fun _ => by rw [List.drop_eq_nil_of_le (by omega)]; simp [tot]⟩
    obtain ⟨k, rfl⟩ : ∃ k', k = k' + 1 := ⟨k - 1, by omega⟩
    rw [imprimaturref06_Size.l0, if_neg (by omega)]
  | succ d ih =>
    intro i n h1 h2 h3
    by_cases c : n ≤ 300
    · have hb := hn i
      have hw : wrap64 ((wrap64 (n + 1)) + ((rd_L1 l (i : Int)).length : Int)) = n + 1 + ((rd_L1 l (i : Int)).length : Int) := by unfold wrap64; omega
      obtain ⟨v, g1, g2⟩ := ih (i + 1) (n + 1 + ((rd_L1 l (i : Int)).length : Int)) (by omega) (by omega) (by omega)
      refine ⟨v, fun k hk => ?_, fun hv => ?_⟩
      · obtain ⟨k, rfl⟩ : ∃ k', k = k' + 1 := ⟨k - 1, by omega⟩
        rw [imprimaturref06_Size.l0, if_pos (by omega), if_pos c, if_pos (by omega), hw, show wrap64 ((i : Int) + 1) = ((i + 1 : Nat) : Int) by unfold wrap64; omega]
        exact g1 k (by omega)
      · have := g2 hv
        rw [rdL1_drop l i (by omega), tot]
        omega
    · refine ⟨n, fun k hk => ?_, fun hv => absurd hv c⟩
      obtain ⟨k, rfl⟩ : ∃ k', k = k' + 1 := ⟨k - 1, by omega⟩
      rw [imprimaturref06_Size.l0, if_pos (by omega), if_neg c]
/-- A corpus and specials as the rows hand them in. -/
structure In_ (l : List S53) (sp : List (List Int)) : Prop where
  l1 : l.length ≤ 10000000000000
  l2 : ∀ i : Int, (rd_T53 l i).f0.length ≤ 140737488355328
  s1 : sp.length ≤ 10000000000000
  s2 : ∀ i : Int, (rd_L1 sp i).length ≤ 140737488355328
  by_ : ∀ x ∈ l, ∀ b ∈ x.f0, 0 ≤ b ∧ b < 256
  sb : ∀ x ∈ sp, ∀ b ∈ x, 0 ≤ b ∧ b < 256
structure Small (l : List S53) (sp : List (List Int)) : Prop where
  hl : l.length + tot (l.map (fun x => x.f0)) ≤ 250
  hs : sp.length + tot sp ≤ 300
  by_ : ∀ x ∈ l, ∀ b ∈ x.f0, 0 ≤ b ∧ b < 256
  sb : ∀ x ∈ sp, ∀ b ∈ x, 0 ≤ b ∧ b < 256
theorem great_ev (l : List S53) (sp : List (List Int)) (h : In_ l sp) : ∃ b, (∀ k, l.length + sp.length + 1 ≤ k → imprimaturlaw19_great.f k l sp = some b) ∧ (b = false → Small l sp) := by
  obtain ⟨v, g1, g2⟩ := size19_l0 l h.l1 h.l2 l.length 0 0 (by omega) (by omega) (by omega)
  obtain ⟨u, g3, g4⟩ := size06_l0 sp h.s1 h.s2 sp.length 0 0 (by omega) (by omega) (by omega)
  rw [List.drop_zero] at g2 g4
  replace g1 : ∀ k, l.length + 1 ≤ k → imprimaturref19_Size.l0 k l 250 0 0 = some v := g1
  replace g3 : ∀ k, sp.length + 1 ≤ k → imprimaturref06_Size.l0 k sp 300 0 0 = some u := g3
  by_cases c : v > 250
  · refine ⟨true, fun k hk => ?_, fun h => by cases h⟩
    unfold imprimaturlaw19_great.f imprimaturref19_Size.f
    rw [g1 k (by omega), Option.bind_some, if_pos c]
  · refine ⟨decide (u > 300), fun k hk => ?_, fun hu => ?_⟩
    · unfold imprimaturlaw19_great.f imprimaturref19_Size.f imprimaturref06_Size.f
      rw [g1 k (by omega), Option.bind_some, if_neg c, g3 k (by omega), Option.bind_some]
    · rw [decide_eq_false_iff_not] at hu
      have a1 := g2 (by omega)
      have a2 := g4 (by omega)
      exact ⟨by omega, by omega, h.by_, h.sb⟩
/-! ### own -/
def ownS (l : List S53) : List S68 := l.map fun x => (⟨x.f0, x.f1⟩ : S68)
theorem own_l0 (l : List S53) (hl : l.length ≤ 1000) : ∀ (d i : Nat), i + d = l.length → ∀ k, d + 1 ≤ k → imprimaturlaw19_own.l0 k l (ownS (l.take i)) (i : Int) = some (ownS l) := by
  intro d
  induction d with
  | zero =>
    intro i h1 k hk
    obtain ⟨k, rfl⟩ : ∃ k', k = k' + 1 := ⟨k - 1, by omega⟩
    rw [imprimaturlaw19_own.l0, if_neg (by omega), List.take_of_length_le (by omega)]
  | succ d ih =>
    intro i h1 k hk
    obtain ⟨k, rfl⟩ : ∃ k', k = k' + 1 := ⟨k - 1, by omega⟩
    have e : ownS (l.take i) ++ [(⟨(rd_T53 l (i : Int)).f0, (rd_T53 l (i : Int)).f1⟩ : S68)] = ownS (l.take (i + 1)) := by
      rw [List.take_succ_eq_append_getElem (show i < l.length by omega), ownS, ownS, List.map_append]
      congr 1
      rw [rd_T53, Int.toNat_natCast, List.getD_eq_getElem?_getD, List.getElem?_eq_getElem (show i < l.length by omega), Option.getD_some]
      rfl
    have hlen : (ownS (l.take i)).length < 4398046511104 := by rw [ownS, List.length_map, List.length_take]; omega
    rw [imprimaturlaw19_own.l0, if_pos (by omega), if_pos (by omega), if_pos hlen, e, w64 (by omega)]
    exact ih (i + 1) (by omega) k (by omega)
theorem own_ev (l : List S53) (hl : l.length ≤ 1000) (k : Nat) (hk : l.length + 1 ≤ k) : imprimaturlaw19_own.f k l = some (ownS l) := own_l0 l hl l.length 0 (by omega) k hk
/-! ### the beginning is well formed -/
def st0 (ws : List (List Int)) (sp : List (List Int)) : Lst := ⟨lett 256, [], ws, spT (letT 256) sp⟩
theorem rd_lett : ∀ (n : Nat) (c : Nat), c < n → rd_T43 (lett n) (c : Int) = ⟨[(c : Int)], 0, false⟩
  | 0, c, h => by omega
  | n + 1, c, h => by
    rw [lett, rd_snoc, lett_len]
    by_cases e : c < n
    · rw [if_pos (by omega)]; exact rd_lett n c e
    · rw [if_neg (by omega), if_pos (by omega)]
      have : c = n := by omega
      rw [this]
theorem letT_some : ∀ (n : Nat) (x : ByteArray), (letT n x).isSome = true ↔ ∃ j : Nat, j < n ∧ strOfNums [(j : Int)] = x
  | 0, x => by simp [letT]
  | n + 1, x => by
    rw [letT]
    by_cases e : x = strOfNums [(n : Int)]
    · rw [e, upd_same]; exact ⟨fun _ => ⟨n, by omega, rfl⟩, fun _ => rfl⟩
    · rw [upd_other _ _ e, letT_some n x]
      constructor
      · rintro ⟨j, h1, h2⟩; exact ⟨j, by omega, h2⟩
      · rintro ⟨j, h1, h2⟩
        by_cases c : j = n
        · rw [c] at h2; exact (e h2.symm).elim
        · exact ⟨j, by omega, h2⟩
theorem spT_some : ∀ (sp : List (List Int)) (T : Ids) (x : ByteArray), (spT T sp x).isSome = true ↔ (T x).isSome = true ∨ ∃ t ∈ sp, strOfNums t = x
  | [], T, x => by simp [spT]
  | s :: t, T, x => by
    rw [spT, spT_some t _ x]
    by_cases e : x = strOfNums s
    · rw [e, upd_same]; simp
    · rw [upd_other _ _ e]
      simp only [List.mem_cons, exists_eq_or_imp]
      constructor
      · rintro (h | h)
        · exact .inl h
        · exact .inr (.inr h)
      · rintro (h | h | h)
        · exact .inl h
        · exact (e h.symm).elim
        · exact .inr h
theorem str_data (l : List Int) : (strOfNums l).data.toList = l.map (fun b => UInt8.ofNat b.toNat) := by simp [strOfNums]
theorem str_len {a b : List Int} (h : strOfNums a = strOfNums b) : a.length = b.length := by
  have h2 : (strOfNums a).size = (strOfNums b).size := by rw [h]
  rwa [str_size, str_size] at h2
theorem str_one {a b : Int} (h0 : 0 ≤ a) (h1 : a < 256) (g0 : 0 ≤ b) (g1 : b < 256) (h : strOfNums [a] = strOfNums [b]) : a = b := by
  have h2 : (strOfNums [a]).data.toList = (strOfNums [b]).data.toList := by rw [h]
  rw [str_data, str_data] at h2
  simp only [List.map_cons, List.map_nil, List.cons.injEq, and_true] at h2
  have h3 := congrArg UInt8.toNat h2
  simp only [UInt8.toNat_ofNat'] at h3
  omega
theorem st0_lw (ws : List (List Int)) {sp : List (List Int)} (hs : ∀ t ∈ sp, t.length ≠ 1) : Lw sp (st0 ws sp) := by
  have hl : (st0 ws sp).ts.length = 256 := lett_len 256
  have hr : ∀ c : Nat, c < 256 → rd_T43 (st0 ws sp).ts (c : Int) = ⟨[(c : Int)], 0, false⟩ := rd_lett 256
  refine ⟨hl, hr, fun j hj => absurd hj (by simp [st0]), fun x => ?_, fun i j hi hj e => ?_, fun j hj t ht e => ?_⟩
  · show (spT (letT 256) sp x).isSome = true ↔ _
    rw [spT_some, letT_some, hl]
    constructor
    · rintro (⟨j, h1, h2⟩ | h)
      · exact .inl ⟨j, h1, by rw [hr j h1]; exact h2⟩
      · exact .inr h
    · rintro (⟨j, h1, h2⟩ | h)
      · exact .inl ⟨j, h1, by rw [hr j h1] at h2; exact h2⟩
      · exact .inr h
  · rw [hl] at hj
    rw [hr i (by omega), hr j hj] at e
    have := str_one (by omega) (by omega) (by omega) (by omega) e
    omega
  · rw [hl] at hj
    rw [hr j hj] at e
    exact hs t ht (str_len e).symm
theorem mem_getD {l : List (List Int)} {i : Nat} {x : Int} (h : x ∈ l.getD i []) : ∃ p ∈ l, x ∈ p := by
  rw [List.getD_eq_getElem?_getD] at h
  cases e : l[i]? with
  | none => rw [e] at h; simp at h
  | some p => rw [e] at h; exact ⟨p, List.mem_of_getElem? e, h⟩
theorem st0_ok {ns : List Int} {ws sp : List (List Int)} (h1 : ws.length = ns.length) (h2 : tot ws ≤ 16384) (h3 : ∀ n ∈ ns, (1 : Int) ≤ n ∧ n ≤ 4294967296) (h4 : ∀ p ∈ ws, ∀ b ∈ p, 0 ≤ b ∧ b < 256) : LOk ns (st0 ws sp) := by
  have hl : (st0 ws sp).ts.length = 256 := lett_len 256
  refine ⟨hl, h1, h2, fun i x hx => ?_, fun i => ?_, h3⟩
  · obtain ⟨p, hp, hx'⟩ := mem_getD hx
    have := h4 p hp x hx'
    rw [hl]; omega
  · by_cases c : i.toNat < 256
    · have e : rd_T43 (st0 ws sp).ts i = rd_T43 (lett 256) (i.toNat : Int) := by rw [rd_T43, rd_T43, Int.toNat_natCast]; rfl
      rw [e, rd_lett 256 _ c]; simp
    · rw [rd_T43, List.getD_eq_getElem?_getD, List.getElem?_eq_none (by rw [hl]; omega)]; exact Nat.zero_le _
/-! ### what is learnt -/
theorem rdL1_mem {l : List (List Int)} {t : List Int} (h : t ∈ l) : ∃ j : Nat, j < l.length ∧ rd_L1 l (j : Int) = t := by
  obtain ⟨j, hj, e⟩ := List.getElem_of_mem h
  exact ⟨j, hj, by rw [rd_L1, Int.toNat_natCast, List.getD_eq_getElem?_getD, List.getElem?_eq_getElem hj, Option.getD_some, e]⟩
theorem tot_mem : ∀ (l : List (List Int)) (i : Int), (rd_L1 l i).length ≤ tot l := fun l i => tot_get l i.toNat
theorem sp_len {sp : List (List Int)} (h : spGo sp sp.length 0 = 0) {t : List Int} (ht : t ∈ sp) : 3 ≤ t.length ∧ t.length ≤ 32 := by
  obtain ⟨j, hj, e⟩ := rdL1_mem ht
  have := (spGo_zero sp.length 0 h j (Nat.zero_le _) (by omega)).1
  rw [e, spB, decide_eq_true_eq] at this
  exact ⟨this.1, this.2.1⟩
theorem okNs_all {ns : List Int} (h : okNs ns = true) : ∀ n ∈ ns, (1 : Int) ≤ n ∧ n ≤ 4294967296 := fun n hn => by
  have := List.all_eq_true.1 h n hn
  simpa [okN] using this
theorem askE_zero {ns : List Int} {m : Int} {sp : List (List Int)} (h : askE ns m sp = 0) : 0 ≤ m ∧ m ≤ 3840 ∧ okNs ns = true ∧ sp.length ≤ 64 ∧ spGo sp sp.length 0 = 0 := by
  unfold askE at h
  by_cases c0 : m < 0
  · rw [if_pos c0] at h; cases h
  · rw [if_neg c0] at h
    by_cases c1 : okNs ns = true
    · rw [if_pos c1] at h
      by_cases c2 : (sp.length : Int) > 64 ∨ m > 3840 - (sp.length : Int)
      · rw [if_pos c2] at h; cases h
      · rw [if_neg c2] at h
        exact ⟨by omega, by omega, c1, by omega, h⟩
    · rw [if_neg c1] at h; cases h
theorem nsOf_own (l : List S53) : nsOf (ownS l) = l.map (fun x => x.f1) := by rw [nsOf, ownS, List.map_map]; rfl
theorem ws_own (l : List S53) : (ownS l).map (fun x => x.f0) = l.map (fun x => x.f0) := by rw [ownS, List.map_map]; rfl
/-- The learner's last state of a corpus. -/
noncomputable def fin (l : List S53) (m : Nat) (sp : List (List Int)) : Lst := lst (l.map (fun x => x.f1)) m (st0 (l.map (fun x => x.f0)) sp)
theorem asked_sm (l : List S53) (m : Int) (sp : List (List Int)) (h : Small l sp) : train_asked.f 4000 (ownS l) m sp = some (askE (l.map (fun x => x.f1)) m sp) := by
  have h1 := h.hl
  have h2 := h.hs
  rw [asked_ev (ownS l) m sp (by rw [ownS, List.length_map]; omega) (by rw [ws_own]; omega) (by omega) (fun i => by have := tot_mem sp i; omega), nsOf_own]
theorem learn_bad (l : List S53) (m : Int) (sp : List (List Int)) (h : Small l sp) (he : askE (l.map (fun x => x.f1)) m sp ≠ 0) : train_Learn.f (ownS l) m sp = some ([], [], askE (l.map (fun x => x.f1)) m sp) := by
  unfold train_Learn.f
  rw [asked_sm l m sp h, Option.bind_some, if_neg he]
theorem learn_good (l : List S53) (m : Int) (sp : List (List Int)) (h : Small l sp) (he : askE (l.map (fun x => x.f1)) m sp = 0) : train_Learn.f (ownS l) m sp = some ((fin l m.toNat sp).ts ++ sp.map (fun s => (⟨s, 0, true⟩ : S43)), (fin l m.toNat sp).ms, 0) := by
  obtain ⟨a1, a2, a3, a4, a5⟩ := askE_zero he
  have h1 := h.hl
  have h2 := h.hs
  have hB : lrnB (ownS l) m sp := by
    refine ⟨a1, a2, a4, fun i => by have := tot_mem sp i; omega, by rw [ownS, List.length_map]; omega, by rw [ws_own]; omega, by rw [nsOf_own]; exact okNs_all a3, fun x hx b hb => ?_⟩
    rw [ownS, List.mem_map] at hx
    obtain ⟨y, hy, rfl⟩ := hx
    exact h.by_ y hy b hb
  have e : lrn (ownS l) m.toNat sp = fin l m.toNat sp := by
    unfold lrn fin
    rw [nsOf_own, ws_own]; rfl
  unfold train_Learn.f
  rw [asked_sm l m sp h, Option.bind_some, he, if_pos rfl, if_pos hB, e]
theorem fin_ok (l : List S53) (m : Int) (n : Nat) (sp : List (List Int)) (h : Small l sp) (he : askE (l.map (fun x => x.f1)) m sp = 0) : LOk (l.map (fun x => x.f1)) (fin l n sp) ∧ Lw sp (fin l n sp) := by
  obtain ⟨a1, a2, a3, a4, a5⟩ := askE_zero he
  refine lst_all n _ (st0_ok (by simp) (by have := h.hl; omega) (okNs_all a3) (fun p hp b hb => ?_)) (st0_lw _ (fun t ht => by have := sp_len a5 ht; omega))
  rw [List.mem_map] at hp
  obtain ⟨y, hy, rfl⟩ := hp
  exact h.by_ y hy b hb
/-! ### the fixed calls -/
def knL : List S53 := [⟨[97, 97, 98], 2⟩]
theorem kn_small : Small knL [] := ⟨by decide, by decide, by decide, by decide⟩
theorem kn_cp (x : Int × Int) : cps [[97, 97, 98]] 0 x = (if (97, 97) = x then 1 else 0) + ((if (97, 98) = x then 1 else 0) + 0) := by
  show cp [97, 97, 98] x = _
  rw [cp_two, cp_two]; rfl
theorem kn_wt (x : Int × Int) : wt [2] (cps [[97, 97, 98]]) x = if x = (97, 97) ∨ x = (97, 98) then some 2 else none := by
  have e : ws [2] 0 (cps [[97, 97, 98]]) x = 2 * cps [[97, 97, 98]] 0 x + 0 := rfl
  rw [wt, e, kn_cp]
  by_cases c : x = (97, 97)
  · subst c; rfl
  · by_cases c2 : x = (97, 98)
    · subst c2; rfl
    · have g1 : ¬ ((97, 97) : Int × Int) = x := fun h => c h.symm
      have g2 : ¬ ((97, 98) : Int × Int) = x := fun h => c2 h.symm
      simp [c, c2, g1, g2]
theorem kn_inv : BInv (wt [2] (cps [[97, 97, 98]])) (lett 256) (spT (letT 256) []) (fun _ => false) (97, 97) 2 true := by
  refine And.intro (fun h => by cases h) (fun _ => And.intro (And.intro (by unfold W64; decide) (by unfold W64; decide)) (And.intro (by rw [kn_wt]; simp) (And.intro rfl (And.intro ?_ (fun x y _ hx _ _ hne => ?_)))))
  · have h1 := rd_lett 256 97 (by omega)
    have h2 : spT (letT 256) [] (strOfNums ([97] ++ [97])) = none := by
      cases e : spT (letT 256) [] (strOfNums ([97] ++ [97])) with
      | none => rfl
      | some v =>
        obtain ⟨j, _, hj⟩ := (letT_some 256 (strOfNums ([97] ++ [97]))).1 (by show (spT (letT 256) [] _).isSome = true; rw [e]; rfl)
        have := str_len hj
        simp at this
    unfold mayb
    rw [show (97 : Int) = ((97 : Nat) : Int) from rfl, h1]
    show (_ && (spT (letT 256) [] (strOfNums ([97] ++ [97]))).isNone) = true
    rw [h2]
    decide
  · rw [kn_wt] at hx
    split at hx
    · rename_i c
      rcases c with c | c
      · exact (hne c).elim
      · cases hx
        rw [c]
        decide
    · cases hx
theorem known_ev : imprimaturlaw19_known.f = some true := by
  have e1 : train_Learn.f knWl 1 [] = _ := learn_good knL 1 [] kn_small (by decide)
  have e2 : train_Learn.f [] 0 [] = _ := learn_good [] 0 [] ⟨by decide, by decide, by simp, by simp⟩ (by decide)
  have h1 : (fin knL 1 []).ms = [⟨97, 97, 256⟩] := by
    have h : nx (wt [2] (cps [[97, 97, 98]])) (lett 256) (spT (letT 256) []) = some (97, 97) := (nx_of kn_inv).trans (if_pos rfl)
    unfold fin
    have : (knL.map (fun x => x.f0)) = [[97, 97, 98]] := rfl
    rw [show (knL.map (fun x => x.f1)) = [2] from rfl, this, lst_some (s := st0 [[97, 97, 98]] []) h 0]
    show ([] : List S38) ++ [⟨97, 97, ((lett 256).length : Int)⟩] = _
    rw [lett_len]; rfl
  have h2 : (fin [] 0 []).ts.length = 256 := lett_len 256
  unfold imprimaturlaw19_known.f
  rw [e1, Option.bind_some, e2, Option.bind_some, if_pos]
  refine ⟨h1, rfl, rfl, ?_⟩
  show ((fin [] 0 []).ts ++ []).length = 256
  rw [List.append_nil]; exact h2
end Go.Proofs.Ytkdegcpfjfgajaa.X
