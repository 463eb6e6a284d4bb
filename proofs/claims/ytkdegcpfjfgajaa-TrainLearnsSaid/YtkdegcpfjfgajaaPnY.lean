/- The document's learning is the program's: plainly. Conditions: a small corpus. -/
import Derived.Test.YtkdegcpfjfgajaaQ6Y
import Derived.Test.YtkdegcpfjfgajaaPpY
import Derived.Test.YtkdegcpfjfgajaaPgY
import Derived.Test.YtkdegcpfjfgajaaQ10Y
section
namespace Go.Proofs.Ytkdegcpfjfgajaa.X
open Go Go.RowKit Go.Proofs.YtkdegcpfjfgajaaW.PrintWords Go.Proofs.Ytkdegcpfjfgajaa.Mg Go.Proofs.Ytkdegcpfjfgajaa.Pt Go.Proofs.Ytkdegcpfjfgajaa.Q
set_option linter.unusedVariables false
set_option linter.unusedSimpArgs false
def ky (x : S87) : Int × Int := (x.f0, x.f1)
/-- The count a list holds of a pair. -/
def lk : List S87 → Int × Int → Int
  | [], _ => 0
  | x :: t, k => if ky x = k then x.f2 else lk t k
theorem ky_iff {x : S87} {a b : Int} : (x.f0 = a ∧ x.f1 = b) ↔ ky x = (a, b) := by
  rw [ky, Prod.mk.injEq]
theorem lk_add : ∀ (out : List S87) (a b n : Int) (k : Int × Int), lk (prAdd out a b n) k = if k = (a, b) then wrap64 (lk out k + n) else lk out k
  | [], a, b, n, k => by
    rw [prAdd, lk, lk]
    by_cases e : k = (a, b)
    · rw [if_pos e, if_pos (show ky ⟨a, b, wrap64 (0 + n)⟩ = k from e.symm)]
    · rw [if_neg e, if_neg (fun h => e h.symm)]; rfl
  | x :: t, a, b, n, k => by
    rw [prAdd]
    by_cases h : x.f0 = a ∧ x.f1 = b
    · rw [if_pos h, lk, lk]
      have hk : ky x = (a, b) := ky_iff.1 h
      have hk2 : ky ⟨x.f0, x.f1, wrap64 (x.f2 + n)⟩ = (a, b) := hk
      rw [hk2, hk]
      by_cases e : k = (a, b)
      · rw [if_pos e, if_pos e.symm, if_pos e.symm]
      · rw [if_neg e, if_neg (fun h => e h.symm), if_neg (fun h => e h.symm)]
    · rw [if_neg h, lk, lk, lk_add t a b n k]
      have hk : ky x ≠ (a, b) := fun e => h (ky_iff.2 e)
      by_cases e : ky x = k
      · rw [if_pos e, if_pos e, if_neg (fun h => hk (e.trans h))]
      · rw [if_neg e, if_neg e]
theorem mem_add : ∀ (out : List S87) (a b n : Int) (z : Int × Int), z ∈ (prAdd out a b n).map ky ↔ z ∈ out.map ky ∨ z = (a, b)
  | [], a, b, n, z => by
    rw [prAdd]
    simp [ky]
  | x :: t, a, b, n, z => by
    rw [prAdd]
    by_cases h : x.f0 = a ∧ x.f1 = b
    · rw [if_pos h]
      have hk : ky x = (a, b) := ky_iff.1 h
      have hk2 : ky ⟨x.f0, x.f1, wrap64 (x.f2 + n)⟩ = (a, b) := hk
      simp only [List.map_cons, List.mem_cons, hk2, hk]
      constructor
      · rintro (e | e)
        · exact .inr e
        · exact .inl (.inr e)
      · rintro ((e | e) | e)
        · exact .inl e
        · exact .inr e
        · exact .inl e
    · rw [if_neg h]
      simp only [List.map_cons, List.mem_cons, mem_add t a b n z, or_assoc]
theorem nodup_add : ∀ (out : List S87) (a b n : Int), (out.map ky).Nodup → ((prAdd out a b n).map ky).Nodup
  | [], a, b, n, _ => by
    rw [prAdd]
    simp
  | x :: t, a, b, n, hn => by
    rw [prAdd]
    rw [List.map_cons, List.nodup_cons] at hn
    by_cases h : x.f0 = a ∧ x.f1 = b
    · rw [if_pos h, List.map_cons, List.nodup_cons]
      exact hn
    · rw [if_neg h, List.map_cons, List.nodup_cons]
      refine ⟨fun hm => ?_, nodup_add t a b n hn.2⟩
      rcases (mem_add t a b n (ky x)).1 hm with h1 | h1
      · exact hn.1 h1
      · exact h (ky_iff.2 h1)
theorem lk_mem : ∀ (out : List S87) (x : S87), (out.map ky).Nodup → x ∈ out → lk out (ky x) = x.f2
  | y :: t, x, hn, hm => by
    rw [List.map_cons, List.nodup_cons] at hn
    rw [lk]
    rcases List.mem_cons.1 hm with e | e
    · rw [if_pos (by rw [e]), e]
    · rw [if_neg (fun h => hn.1 (by rw [h]; exact List.mem_map_of_mem e)), lk_mem t x hn.2 e]
end Go.Proofs.Ytkdegcpfjfgajaa.X

end
namespace Go.Proofs.Ytkdegcpfjfgajaa.X
open Go Go.RowKit Go.Proofs.YtkdegcpfjfgajaaW.PrintWords Go.Proofs.Ytkdegcpfjfgajaa.Mg Go.Proofs.Ytkdegcpfjfgajaa.Pt Go.Proofs.Ytkdegcpfjfgajaa.Q
set_option linter.unusedVariables false
set_option linter.unusedSimpArgs false
/-! ### what is so from some number of rounds on -/
section
variable {α β : Type}
def Ev (g : Nat → Option α) (r : α) : Prop := ∃ K, ∀ k, K ≤ k → g k = some r
theorem Ev.step {f g : Nat → Option α} {r : α} (h : ∀ k, g (k + 1) = f k) (hf : Ev f r) : Ev g r := by
  obtain ⟨K, hK⟩ := hf
  refine ⟨K + 1, fun k hk => ?_⟩
  obtain ⟨k, rfl⟩ : ∃ m, k = m + 1 := ⟨k - 1, by omega⟩
  rw [h]
  exact hK k (by omega)
theorem Ev.bind {f : Nat → Option α} {g : Nat → α → Option β} {a : α} {r : β} (h1 : Ev f a) (h2 : Ev (fun k => g k a) r) : Ev (fun k => (f k).bind (g k)) r := by
  obtain ⟨K, hK⟩ := h1
  obtain ⟨M, hM⟩ := h2
  refine ⟨K + M, fun k hk => ?_⟩
  show (f k).bind (g k) = some r
  rw [hK k (by omega), Option.bind_some]
  exact hM k (by omega)
theorem Ev.of {f : Nat → Option α} {r : α} (h : ∀ k, f (k + 1) = some r) : Ev f r := by
  refine ⟨1, fun k hk => ?_⟩
  obtain ⟨k, rfl⟩ : ∃ m, k = m + 1 := ⟨k - 1, by omega⟩
  exact h k
theorem Ev.const {r : α} : Ev (fun _ => some r) r := ⟨0, fun _ _ => rfl⟩
theorem Ev.le {f : Nat → Option α} {r : α} (n : Nat) (h : ∀ k, n ≤ k → f k = some r) : Ev f r := ⟨n, h⟩
end
/-! ### the tests -/
theorem among_go (b : List Int) (l : List (List Int)) (hl : l.length ≤ 1000000) : ∀ (d i : Nat), i + d = l.length → ∀ k, d + 1 ≤ k → imprimaturref19_among.l0 k b l (i : Int) = some (amB b (l.drop i)) := by
  intro d
  induction d with
  | zero =>
    intro i h1 k hk
    obtain ⟨k, rfl⟩ : ∃ m, k = m + 1 := ⟨k - 1, by omega⟩
    rw [imprimaturref19_among.l0, if_neg (by omega), List.drop_eq_nil_of_le (by omega)]; rfl
  | succ d ih =>
    intro i h1 k hk
    obtain ⟨k, rfl⟩ : ∃ m, k = m + 1 := ⟨k - 1, by omega⟩
    rw [imprimaturref19_among.l0, if_pos (by omega), if_pos (by omega), rdL1_drop l i (by omega), amB, List.any_cons, w64 (by omega), ih (i + 1) (by omega) k (by omega)]
    by_cases c : strOfNums (rd_L1 l (i : Int)) = strOfNums b
    · rw [if_pos (by rw [c]), decide_eq_true c, Bool.true_or]
    · rw [if_neg (fun h => c ((toList_iff _ _).1 h)), decide_eq_false c, Bool.false_or]; rfl
theorem ramong_ev (b : List Int) (l : List (List Int)) (hl : l.length ≤ 1000000) : Ev (fun k => imprimaturref19_among.f k b l) (amB b l) :=
  Ev.le (l.length + 1) fun k hk => by
    have := among_go b l hl l.length 0 (by omega) k hk
    rw [List.drop_zero] at this
    exact this
theorem rspecial_ev (s : List Int) (h : s.length ≤ 1000000000000) : imprimaturref19_special.f s = some (spB s) := by
  have hw : wrap64 ((s.length : Int) - 1) = (s.length : Int) - 1 := by unfold wrap64; omega
  unfold imprimaturref19_special.f spB
  rw [hw]
  by_cases c1 : (s.length : Int) > 2
  · rw [if_pos c1]
    by_cases c2 : (s.length : Int) < 33
    · rw [if_pos c2, if_pos (by omega)]
      by_cases c3 : rd s 0 = 60
      · rw [if_pos c3, if_pos (by omega), if_pos (by omega)]
        congr 1
        rw [Bool.eq_iff_iff]
        simp [c3]
        omega
      · rw [if_neg c3]
        congr 1
        rw [eq_comm, decide_eq_false_iff_not]
        exact fun h => c3 h.2.2.1
    · rw [if_neg c2]
      congr 1
      rw [eq_comm, decide_eq_false_iff_not]
      omega
  · rw [if_neg c1]
    congr 1
    rw [eq_comm, decide_eq_false_iff_not]
    omega
theorem rcorpus_l0 (l : List S53) (hl : l.length ≤ 1000) : ∀ (d i n : Nat), i + d = l.length → n + tot ((l.drop i).map (fun x => x.f0)) ≤ 16384 → Ev (fun k => imprimaturref19_Corpus.l0 k l (n : Int) (i : Int)) (if okNs ((l.drop i).map (fun x => x.f1)) = true then 0 else 1) := by
  intro d
  induction d with
  | zero =>
    intro i n h1 h2
    refine Ev.of fun k => ?_
    rw [imprimaturref19_Corpus.l0, if_neg (by omega), if_neg (by omega), List.drop_eq_nil_of_le (by omega)]; rfl
  | succ d ih =>
    intro i n h1 h2
    rw [rd53_drop l i (by omega), List.map_cons, tot] at h2
    have ih' := ih (i + 1) (n + (rd_T53 l (i : Int)).f0.length) (by omega) (by omega)
    have hw2 : wrap64 ((n : Int) + ((rd_T53 l (i : Int)).f0.length : Int)) = ((n + (rd_T53 l (i : Int)).f0.length : Nat) : Int) := by unfold wrap64; omega
    rw [rd53_drop l i (by omega), List.map_cons, okNs, List.all_cons]
    by_cases c1 : (rd_T53 l (i : Int)).f1 < 1
    · have : okN (rd_T53 l (i : Int)).f1 = false := by simp [okN]; omega
      rw [this, Bool.false_and, if_neg (by simp)]
      refine Ev.step (f := fun k => imprimaturref19_Corpus.j1 k l n i true) (fun k => ?_) (Ev.of fun k => ?_)
      · rw [imprimaturref19_Corpus.l0, if_pos (by omega), if_pos (by omega), if_pos c1]
      · rw [imprimaturref19_Corpus.j1, if_pos rfl]
    · by_cases c2 : (rd_T53 l (i : Int)).f1 > 4294967296
      · have : okN (rd_T53 l (i : Int)).f1 = false := by simp [okN]; omega
        rw [this, Bool.false_and, if_neg (by simp)]
        refine Ev.step (f := fun k => imprimaturref19_Corpus.j1 k l n i true) (fun k => ?_) (Ev.of fun k => ?_)
        · rw [imprimaturref19_Corpus.l0, if_pos (by omega), if_pos (by omega), if_neg c1, decide_eq_true c2]
        · rw [imprimaturref19_Corpus.j1, if_pos rfl]
      · have : okN (rd_T53 l (i : Int)).f1 = true := by simp [okN]; omega
        rw [this, Bool.true_and]
        refine Ev.step (f := fun k => imprimaturref19_Corpus.j1 k l n i false) (fun k => ?_) (Ev.step (fun k => ?_) ih')
        · rw [imprimaturref19_Corpus.l0, if_pos (by omega), if_pos (by omega), if_neg c1, decide_eq_false c2]
        · rw [imprimaturref19_Corpus.j1, if_neg (by simp), if_pos (by omega), if_pos (by omega), if_pos (by omega), hw2, w64 (by omega)]
theorem rcorpus_ev (l : List S53) (hl : l.length ≤ 1000) (ht : tot (l.map (fun x => x.f0)) ≤ 16384) : Ev (fun k => imprimaturref19_Corpus.f k l) (if okNs (l.map (fun x => x.f1)) = true then 0 else 1) := by
  have := rcorpus_l0 l hl l.length 0 0 (by omega) (by rw [List.drop_zero]; omega)
  rw [List.drop_zero] at this
  exact this
/-! ### Find, both, above -/
theorem find_go (ts : List S43) (ms : List S38) (b : List Int) (hl : ts.length ≤ 1000000) : ∀ (d i : Nat), i + d = ts.length → ∃ r : Int, (∀ k, d + 1 ≤ k → imprimaturref11_Find.l0 k b (i : Int) ts ms = some r) ∧ (r ≥ 0 ↔ ∃ j : Nat, i ≤ j ∧ j < ts.length ∧ strOfNums (rd_T43 ts (j : Int)).f0 = strOfNums b) := by
  intro d
  induction d with
  | zero =>
    intro i h1
    refine ⟨-1, fun k hk => ?_, ⟨fun h => by omega, fun ⟨j, h2, h3, _⟩ => by omega⟩⟩
    obtain ⟨k, rfl⟩ : ∃ m, k = m + 1 := ⟨k - 1, by omega⟩
    rw [imprimaturref11_Find.l0, if_neg (by omega)]
  | succ d ih =>
    intro i h1
    by_cases c : strOfNums (rd_T43 ts (i : Int)).f0 = strOfNums b
    · refine ⟨i, fun k hk => ?_, ⟨fun _ => ⟨i, Nat.le_refl _, by omega, c⟩, fun _ => by omega⟩⟩
      obtain ⟨k, rfl⟩ : ∃ m, k = m + 1 := ⟨k - 1, by omega⟩
      rw [imprimaturref11_Find.l0, if_pos (by omega), if_pos (by omega), if_pos (by rw [c])]
    · obtain ⟨r, h2, h3⟩ := ih (i + 1) (by omega)
      refine ⟨r, fun k hk => ?_, h3.trans ⟨fun ⟨j, g1, g2, g3⟩ => ⟨j, by omega, g2, g3⟩, fun ⟨j, g1, g2, g3⟩ => ⟨j, ?_, g2, g3⟩⟩⟩
      · obtain ⟨k, rfl⟩ : ∃ m, k = m + 1 := ⟨k - 1, by omega⟩
        rw [imprimaturref11_Find.l0, if_pos (by omega), if_pos (by omega), if_neg (fun h => c ((toList_iff _ _).1 h)), w64 (by omega)]
        exact h2 k (by omega)
      · by_cases e : j = i
        · rw [e] at g3; exact (c g3).elim
        · omega
theorem find_ev (ts : List S43) (ms : List S38) (b : List Int) (hl : ts.length ≤ 1000000) : ∃ r : Int, Ev (fun k => imprimaturref11_Find.f k ts ms b) r ∧ (r ≥ 0 ↔ ∃ j : Nat, j < ts.length ∧ strOfNums (rd_T43 ts (j : Int)).f0 = strOfNums b) := by
  obtain ⟨r, h1, h2⟩ := find_go ts ms b hl ts.length 0 (by omega)
  exact ⟨r, Ev.le (ts.length + 1) h1, h2.trans ⟨fun ⟨j, _, g2, g3⟩ => ⟨j, g2, g3⟩, fun ⟨j, g2, g3⟩ => ⟨j, Nat.zero_le _, g2, g3⟩⟩⟩
theorem both_ev (ts : List S43) (ms : List S38) (a b w : Int) (ht : ∀ i : Int, (rd_T43 ts i).f0.length ≤ 32) (h0 : 0 ≤ a) (h1 : a < ts.length) (h2 : 0 ≤ b) (h3 : b < ts.length) : imprimaturref19_both.f ts ms a b w = some (tabOf ts (a, b)) := by
  have g1 := ht a
  have g2 := ht b
  unfold imprimaturref19_both.f tabOf
  rw [if_pos h0, if_pos h1, if_pos (by simp; omega), Option.bind_some, if_pos h2, if_pos h3, if_pos (by simp; omega), List.nil_append]
theorem above_ev (a b w c d v : Int) : imprimaturref19_above.f a b w c d v = some (btr a b w c d v) := by
  unfold imprimaturref19_above.f btr
  by_cases h1 : w = v
  · rw [if_pos h1]
    by_cases h2 : a < c
    · rw [if_pos h2, decide_eq_true (by omega)]
    · rw [if_neg h2]
      by_cases h3 : a = c
      · rw [if_pos h3]
        congr 1
        rw [Bool.eq_iff_iff, decide_eq_true_eq, decide_eq_true_eq]
        omega
      · rw [if_neg h3, eq_comm, decide_eq_false (by omega)]
  · rw [if_neg h1]
    congr 1
    rw [Bool.eq_iff_iff, decide_eq_true_eq, decide_eq_true_eq]
    omega
/-! ### the list of pairs -/
theorem wrap_add (a n : Int) : wrap64 (wrap64 a + n) = wrap64 (a + n) := by unfold wrap64; omega
theorem wrap_wrap (a : Int) : wrap64 (wrap64 a) = wrap64 a := by unfold wrap64; omega
theorem rd_nat (p : List Int) (i : Nat) : rd p (i : Int) = p.getD i 0 := by rw [rd, Int.toNat_natCast]
theorem cp_take1 (p : List Int) (k : Int × Int) : cp (p.take 1) k = 0 := by
  match p with
  | [] => rfl
  | [a] => rfl
  | a :: b :: t => rfl
theorem word_lk (p : List Int) (n : Int) (out : List S87) (k : Int × Int) (h : wrap64 (lk out k) = lk out k) : ∀ i : Nat, i = 0 ∨ i < p.length → lk (prWord p n i out) k = wrap64 (lk out k + n * cp (p.take (i + 1)) k)
  | 0, _ => by rw [prWord, cp_take1, Int.mul_zero, Int.add_zero, h]
  | i + 1, hi => by
    have hi' : i + 1 < p.length := by omega
    have ih := word_lk p n out k h i (by omega)
    have e1 : rd p ((i : Int) + 1) = p.getD (i + 1) 0 := rd_nat p (i + 1)
    rw [prWord, lk_add, ih, cp_take p (i + 1) k (by omega) hi', rd_nat, e1, show i + 1 - 1 = i from rfl]
    by_cases c : k = (p.getD i 0, p.getD (i + 1) 0)
    · rw [if_pos c, if_pos c.symm, wrap_add]
      congr 1
      rw [Int.mul_add]
      omega
    · rw [if_neg c, if_neg (fun h => c h.symm), Int.add_zero]
theorem word_mem (p : List Int) (n : Int) (out : List S87) (k : Int × Int) : ∀ i : Nat, i = 0 ∨ i < p.length → (k ∈ (prWord p n i out).map ky ↔ k ∈ out.map ky ∨ cp (p.take (i + 1)) k ≠ 0)
  | 0, _ => by rw [prWord, cp_take1]; simp
  | i + 1, hi => by
    have hi' : i + 1 < p.length := by omega
    have ih := word_mem p n out k i (by omega)
    have e1 : rd p ((i : Int) + 1) = p.getD (i + 1) 0 := rd_nat p (i + 1)
    have hn := cp_nonneg (p.take (i + 1)) k
    rw [prWord, mem_add, ih, cp_take p (i + 1) k (by omega) hi', rd_nat, e1, show i + 1 - 1 = i from rfl]
    by_cases c : k = (p.getD i 0, p.getD (i + 1) 0)
    · rw [if_pos c.symm]
      exact ⟨fun _ => .inr (by omega), fun _ => .inr c⟩
    · rw [if_neg (fun h => c h.symm), Int.add_zero]
      exact ⟨fun h => h.elim id (fun h => (c h).elim), fun h => .inl h⟩
theorem word_nd (p : List Int) (n : Int) (out : List S87) (h : (out.map ky).Nodup) : ∀ i : Nat, ((prWord p n i out).map ky).Nodup
  | 0 => h
  | i + 1 => nodup_add _ _ _ _ (word_nd p n out h i)
theorem word_all (p : List Int) (k : Int × Int) : cp (p.take (p.length - 1 + 1)) k = cp p k := by
  by_cases c : p.length = 0
  · rw [List.length_eq_zero_iff.1 c]; rfl
  · rw [List.take_of_length_le (by omega)]
theorem ws_snoc (c : Cnt) (k : Int × Int) (n : Int) : ∀ (a : List Int) (i : Nat), ws (a ++ [n]) i c k = ws a i c k + n * c (i + a.length) k
  | [], i => by simp [ws]
  | x :: t, i => by
    rw [List.cons_append, ws, ws, ws_snoc c k n t (i + 1), List.length_cons, show i + 1 + t.length = i + (t.length + 1) by omega]
    omega
theorem all_lk (ls : List S53) (ps : List (List Int)) (hl : ps.length ≤ ls.length) (k : Int × Int) : ∀ w : Nat, w ≤ ps.length → lk (prAll ls ps w) k = wrap64 (ws ((ls.map (fun x => x.f1)).take w) 0 (cps ps) k)
  | 0, _ => by rw [prAll, List.take_zero]; show (0 : Int) = wrap64 0; unfold wrap64; omega
  | w + 1, hw => by
    have ih := all_lk ls ps hl k w (by omega)
    have hw2 : w < (ls.map (fun x => x.f1)).length := by rw [List.length_map]; omega
    have e1 : (rd_T53 ls (w : Int)).f1 = (ls.map (fun x => x.f1))[w] := by
      rw [rd_T53, Int.toNat_natCast, List.getD_eq_getElem?_getD, List.getElem?_eq_getElem (by omega), Option.getD_some, List.getElem_map]
    have e2 : rd_L9 ps (w : Int) = ps.getD w [] := by rw [rd_L9, Int.toNat_natCast]
    rw [prAll, word_lk _ _ _ k (by rw [ih, wrap_wrap]) _ (by omega), word_all, ih, wrap_add, List.take_succ_eq_append_getElem hw2, ws_snoc, List.length_take, e1, e2, Nat.min_eq_left (by omega), Nat.zero_add]
    rfl
theorem all_mem (ls : List S53) (ps : List (List Int)) (k : Int × Int) : ∀ w : Nat, (k ∈ (prAll ls ps w).map ky ↔ ∃ i, i < w ∧ cp (ps.getD i []) k ≠ 0)
  | 0 => by simp [prAll]
  | w + 1 => by
    have e2 : rd_L9 ps (w : Int) = ps.getD w [] := by rw [rd_L9, Int.toNat_natCast]
    rw [prAll, word_mem _ _ _ k _ (by omega), all_mem ls ps k w, word_all, e2]
    constructor
    · rintro (⟨i, h1, h2⟩ | h)
      · exact ⟨i, by omega, h2⟩
      · exact ⟨w, by omega, h⟩
    · rintro ⟨i, h1, h2⟩
      by_cases c : i = w
      · rw [c] at h2; exact .inr h2
      · exact .inl ⟨i, by omega, h2⟩
theorem all_nd (ls : List S53) (ps : List (List Int)) : ∀ w : Nat, ((prAll ls ps w).map ky).Nodup
  | 0 => by simp [prAll]
  | w + 1 => word_nd _ _ _ (all_nd ls ps w) _
/-- The list of pairs holds just the weights. -/
theorem all_wt {ns : List Int} {s : Lst} (h : LOk ns s) (l : List S53) (hn : l.map (fun x => x.f1) = ns) (x : Int × Int) (n : Int) : wt ns (cps s.ps) x = some n ↔ ∃ e ∈ prAll l s.ps s.ps.length, ky e = x ∧ e.f2 = n := by
  have hln : l.length = s.ps.length := by rw [h.ps, ← hn, List.length_map]
  have hok : OkC ns (cps s.ps) := okc_of h.ps.symm h.ns h.tot (fun j k => ⟨cp_nonneg _ _, cp_le _ _⟩)
  have hlk : lk (prAll l s.ps s.ps.length) x = ws ns 0 (cps s.ps) x := by
    rw [all_lk l s.ps (by omega) x _ (Nat.le_refl _), hn, List.take_of_length_le (by rw [h.ps]; omega)]
    have h1 := hok.s0 x
    have h2 := hok.w x
    unfold wrap64; omega
  have hz : ws ns 0 (cps s.ps) x = 0 ↔ ¬ ∃ i, i < s.ps.length ∧ cp (s.ps.getD i []) x ≠ 0 := by
    constructor
    · rintro h0 ⟨i, h1, h2⟩
      exact h2 (ws_zero ns 0 (fun n hn => (h.ns n hn).1) (fun j => (hok.c j x).1) h0 i (Nat.zero_le _) (by rw [← h.ps]; omega))
    · intro h0
      exact ws_all ns 0 (fun j => by
        by_cases e : cp (s.ps.getD j []) x = 0
        · exact e
        · by_cases c : j < s.ps.length
          · exact (h0 ⟨j, c, e⟩).elim
          · rw [List.getD_eq_getElem?_getD, List.getElem?_eq_none (by omega)] at e; exact (e rfl).elim)
  constructor
  · intro hw
    have hne : ws ns 0 (cps s.ps) x ≠ 0 := by
      intro h0
      rw [wt, if_pos h0] at hw
      cases hw
    rw [wt, if_neg hne] at hw
    have hm : x ∈ (prAll l s.ps s.ps.length).map ky := (all_mem l s.ps x _).2 (Classical.byContradiction fun hc => hne (hz.2 hc))
    obtain ⟨e, he, hk⟩ := List.mem_map.1 hm
    have := lk_mem _ e (all_nd l s.ps _) he
    rw [hk, hlk] at this
    exact ⟨e, he, hk, by rw [← this]; exact Option.some.inj hw⟩
  · rintro ⟨e, he, hk, hf⟩
    have := lk_mem _ e (all_nd l s.ps _) he
    rw [hk, hlk, hf] at this
    have hne : ws ns 0 (cps s.ps) x ≠ 0 := fun h0 => hz.1 h0 ((all_mem l s.ps x _).1 (by rw [← hk]; exact List.mem_map_of_mem he))
    rw [wt, if_neg hne, this]
/-! ### the next pair -/
def cnd (s : Lst) (x : S87) : Bool := mayb s.ts s.T x.f0 x.f1 x.f2
theorem ky_eq {x y : S87} {all : List S87} (hn : (all.map ky).Nodup) (hx : x ∈ all) (hy : y ∈ all) (h : ky x = ky y) : x = y := by
  have h1 := lk_mem all x hn hx
  have h2 := lk_mem all y hn hy
  rw [h, h2] at h1
  rw [ky, ky, Prod.mk.injEq] at h
  cases x; cases y
  simp only at h h1
  rw [h.1, h.2, h1]
/-- The best of the first i pairs. -/
def SInv (s : Lst) (all : List S87) (i : Nat) (a b w : Int) (fd : Bool) : Prop :=
  (fd = false → (a = 0 ∧ b = 0 ∧ w = 0) ∧ ∀ j : Nat, j < i → cnd s (rd_T87 all (j : Int)) = false) ∧
  (fd = true → (∃ j : Nat, j < i ∧ rd_T87 all (j : Int) = ⟨a, b, w⟩) ∧ mayb s.ts s.T a b w = true ∧ ∀ j : Nat, j < i → cnd s (rd_T87 all (j : Int)) = true → ky (rd_T87 all (j : Int)) ≠ (a, b) → btr a b w (rd_T87 all (j : Int)).f0 (rd_T87 all (j : Int)).f1 (rd_T87 all (j : Int)).f2 = true)
theorem rd87_mem {all : List S87} {j : Nat} (h : j < all.length) : rd_T87 all (j : Int) ∈ all := by
  rw [rd_T87, Int.toNat_natCast, List.getD_eq_getElem?_getD, List.getElem?_eq_getElem h, Option.getD_some]
  exact List.getElem_mem h
theorem mem_rd87 {all : List S87} {x : S87} (h : x ∈ all) : ∃ j : Nat, j < all.length ∧ rd_T87 all (j : Int) = x := by
  obtain ⟨j, hj, e⟩ := List.getElem_of_mem h
  exact ⟨j, hj, by rw [rd_T87, Int.toNat_natCast, List.getD_eq_getElem?_getD, List.getElem?_eq_getElem hj, Option.getD_some, e]⟩
theorem SInv.skip {s : Lst} {all : List S87} {i : Nat} {a b w : Int} {fd : Bool} (h : SInv s all i a b w fd) (hc : cnd s (rd_T87 all (i : Int)) = false) : SInv s all (i + 1) a b w fd := by
  refine ⟨fun hf => ⟨(h.1 hf).1, fun j hj => ?_⟩, fun hf => ?_⟩
  · by_cases e : j = i
    · rw [e]; exact hc
    · exact (h.1 hf).2 j (by omega)
  · obtain ⟨⟨j, h1, h2⟩, h3, h4⟩ := h.2 hf
    refine ⟨⟨j, by omega, h2⟩, h3, fun j hj hj2 hj3 => ?_⟩
    by_cases e : j = i
    · rw [e, hc] at hj2; cases hj2
    · exact h4 j (by omega) hj2 hj3
theorem SInv.first {s : Lst} {all : List S87} {i : Nat} {a b w : Int} (h : SInv s all i a b w false) (hc : cnd s (rd_T87 all (i : Int)) = true) : SInv s all (i + 1) (rd_T87 all (i : Int)).f0 (rd_T87 all (i : Int)).f1 (rd_T87 all (i : Int)).f2 true := by
  refine ⟨fun hf => (by cases hf), fun _ => ⟨⟨i, by omega, rfl⟩, hc, fun j hj hj2 hj3 => ?_⟩⟩
  by_cases e : j = i
  · rw [e] at hj3; exact (hj3 rfl).elim
  · rw [(h.1 rfl).2 j (by omega)] at hj2; cases hj2
theorem SInv.better {s : Lst} {all : List S87} (hn : (all.map ky).Nodup) {i : Nat} (hi : i < all.length) {a b w : Int} (h : SInv s all i a b w true) (hc : cnd s (rd_T87 all (i : Int)) = true) (hb : btr (rd_T87 all (i : Int)).f0 (rd_T87 all (i : Int)).f1 (rd_T87 all (i : Int)).f2 a b w = true) : SInv s all (i + 1) (rd_T87 all (i : Int)).f0 (rd_T87 all (i : Int)).f1 (rd_T87 all (i : Int)).f2 true := by
  obtain ⟨⟨q, q1, q2⟩, h3, h4⟩ := h.2 rfl
  refine ⟨fun hf => (by cases hf), fun _ => ⟨⟨i, by omega, rfl⟩, hc, fun j hj hj2 hj3 => ?_⟩⟩
  by_cases e : j = i
  · rw [e] at hj3; exact (hj3 rfl).elim
  · by_cases c : ky (rd_T87 all (j : Int)) = (a, b)
    · have : rd_T87 all (j : Int) = rd_T87 all (q : Int) := ky_eq hn (rd87_mem (by omega)) (rd87_mem (by omega)) (by rw [c, q2]; rfl)
      rw [this, q2]; exact hb
    · exact btr_trans hb (h4 j (by omega) hj2 c)
theorem SInv.keep {s : Lst} {all : List S87} (hn : (all.map ky).Nodup) {i : Nat} (hi : i < all.length) {a b w : Int} (h : SInv s all i a b w true) (hb : btr (rd_T87 all (i : Int)).f0 (rd_T87 all (i : Int)).f1 (rd_T87 all (i : Int)).f2 a b w = false) : SInv s all (i + 1) a b w true := by
  obtain ⟨⟨q, q1, q2⟩, h3, h4⟩ := h.2 rfl
  refine ⟨fun hf => (by cases hf), fun _ => ⟨⟨q, by omega, q2⟩, h3, fun j hj hj2 hj3 => ?_⟩⟩
  by_cases e : j = i
  · rw [e] at hj3 ⊢
    exact btr_total hb (fun h => hj3 h.symm)
  · exact h4 j (by omega) hj2 hj3
theorem next_go {ns : List Int} {s : Lst} {sp : List (List Int)} (h : LOk ns s) (hw : Lw sp s) (hsp : sp.length ≤ 1000000) (hts : s.ts.length ≤ 1000000) (l : List S53) (hn : l.map (fun x => x.f1) = ns) (all : List S87) (ha : all = prAll l s.ps s.ps.length) (hal : all.length ≤ 1000000000000) : ∀ (d i : Nat) (a b w : Int) (fd : Bool), i + d = all.length → SInv s all i a b w fd →
    ∃ a' b' w' fd', Ev (fun k => imprimaturref19_next.l0 k sp all fd (i : Int) s.ts s.ms a b w) (a', b', w', fd') ∧ SInv s all all.length a' b' w' fd' := by
  have hnd : (all.map ky).Nodup := by rw [ha]; exact all_nd _ _ _
  intro d
  induction d with
  | zero =>
    intro i a b w fd h1 hS
    have e : i = all.length := by omega
    refine ⟨a, b, w, fd, Ev.of fun k => ?_, by rw [← e]; exact hS⟩
    rw [imprimaturref19_next.l0, if_neg (by omega)]
  | succ d ih =>
    intro i a b w fd h1 hS
    have hi : i < all.length := by omega
    have hm := rd87_mem hi
    have hF : wt ns (cps s.ps) (ky (rd_T87 all (i : Int))) = some (rd_T87 all (i : Int)).f2 := (all_wt h l hn _ _).2 ⟨_, by rw [← ha]; exact hm, rfl, rfl⟩
    obtain ⟨k0, k1, k2, k3⟩ := h.key (x := ky (rd_T87 all (i : Int))) (by rw [hF]; rfl)
    have hbo := both_ev s.ts s.ms _ _ (rd_T87 all (i : Int)).f2 h.tok k0 k1 k2 k3
    obtain ⟨r, hr, hr2⟩ := find_ev s.ts s.ms (tabOf s.ts (ky (rd_T87 all (i : Int)))) hts
    have ham := ramong_ev (tabOf s.ts (ky (rd_T87 all (i : Int)))) sp hsp
    have hcn : cnd s (rd_T87 all (i : Int)) = true ↔ ¬ (rd_T87 all (i : Int)).f2 < 2 ∧ ¬ ((tabOf s.ts (ky (rd_T87 all (i : Int)))).length : Int) > 32 ∧ ¬ r ≥ 0 ∧ amB (tabOf s.ts (ky (rd_T87 all (i : Int)))) sp = false := by
      have hT := hw.T (strOfNums (tabOf s.ts (ky (rd_T87 all (i : Int)))))
      have h3 : (∃ t ∈ sp, strOfNums t = strOfNums (tabOf s.ts (ky (rd_T87 all (i : Int))))) ↔ amB (tabOf s.ts (ky (rd_T87 all (i : Int)))) sp = true := by
        rw [amB, List.any_eq_true]
        simp only [decide_eq_true_eq]
      rw [h3, ← hr2] at hT
      have e : cnd s (rd_T87 all (i : Int)) = (!(decide ((rd_T87 all (i : Int)).f2 < 2) || decide (((tabOf s.ts (ky (rd_T87 all (i : Int)))).length : Int) > 32)) && (s.T (strOfNums (tabOf s.ts (ky (rd_T87 all (i : Int)))))).isNone) := by
        rw [cnd, mayb, tabOf, List.length_append]
        push_cast
        rfl
      rw [e]
      cases hq : s.T (strOfNums (tabOf s.ts (ky (rd_T87 all (i : Int))))) with
      | none =>
        rw [hq] at hT
        have hno : ¬ (r ≥ 0 ∨ amB (tabOf s.ts (ky (rd_T87 all (i : Int)))) sp = true) := fun hx => by have := hT.2 hx; cases this
        simp only [not_or, Bool.not_eq_true] at hno
        simp [hno.1, hno.2]
      | some v =>
        rw [hq] at hT
        have hyes := hT.1 rfl
        simp only [Option.isNone_some, Bool.and_false, Bool.false_eq_true, false_iff]
        rintro ⟨-, -, g1, g2⟩
        rcases hyes with h | h
        · exact g1 h
        · rw [g2] at h; cases h
    -- what the rest does once the pair is passed over or looked at
    have hskip : cnd s (rd_T87 all (i : Int)) = false → ∃ a' b' w' fd', Ev (fun k => imprimaturref19_next.j1 k sp all fd (i : Int) true s.ts s.ms a b w) (a', b', w', fd') ∧ SInv s all all.length a' b' w' fd' := fun hc => by
      obtain ⟨a', b', w', fd', g1, g2⟩ := ih (i + 1) a b w fd (by omega) (hS.skip hc)
      refine ⟨a', b', w', fd', Ev.step (fun k => ?_) g1, g2⟩
      rw [imprimaturref19_next.j1, if_pos rfl, w64 (by omega)]
    have hlook : cnd s (rd_T87 all (i : Int)) = true → ∃ a' b' w' fd', Ev (fun k => imprimaturref19_next.j1 k sp all fd (i : Int) false s.ts s.ms a b w) (a', b', w', fd') ∧ SInv s all all.length a' b' w' fd' := fun hc => by
      cases fd with
      | false =>
        obtain ⟨a', b', w', fd', g1, g2⟩ := ih (i + 1) _ _ _ true (by omega) (hS.first hc)
        refine ⟨a', b', w', fd', Ev.step (fun k => ?_) g1, g2⟩
        rw [imprimaturref19_next.j1, if_neg (by simp), if_neg (by simp), if_pos (by omega), if_pos (by omega), w64 (by omega)]
      | true =>
        cases hb : btr (rd_T87 all (i : Int)).f0 (rd_T87 all (i : Int)).f1 (rd_T87 all (i : Int)).f2 a b w with
        | true =>
          obtain ⟨a', b', w', fd', g1, g2⟩ := ih (i + 1) _ _ _ true (by omega) (hS.better hnd hi hc hb)
          refine ⟨a', b', w', fd', Ev.step (fun k => ?_) g1, g2⟩
          rw [imprimaturref19_next.j1, if_neg (by simp), if_pos rfl, if_pos (by omega), if_pos (by omega), above_ev, hb, Option.bind_some, if_pos rfl, w64 (by omega)]
        | false =>
          obtain ⟨a', b', w', fd', g1, g2⟩ := ih (i + 1) _ _ _ true (by omega) (hS.keep hnd hi hb)
          refine ⟨a', b', w', fd', Ev.step (fun k => ?_) g1, g2⟩
          rw [imprimaturref19_next.j1, if_neg (by simp), if_pos rfl, if_pos (by omega), if_pos (by omega), above_ev, hb, Option.bind_some, if_neg (by simp), w64 (by omega)]
    have hstep : ∀ k, imprimaturref19_next.l0 (k + 1) sp all fd (i : Int) s.ts s.ms a b w = (if (rd_T87 all (i : Int)).f2 < 2 then (imprimaturref19_next.j1 k sp all fd (i : Int) true s.ts s.ms a b w) else (if ((tabOf s.ts (ky (rd_T87 all (i : Int)))).length : Int) > 32 then (imprimaturref19_next.j1 k sp all fd (i : Int) true s.ts s.ms a b w) else ((imprimaturref11_Find.f k s.ts s.ms (tabOf s.ts (ky (rd_T87 all (i : Int))))).bind fun t214 => (if t214 ≥ 0 then (imprimaturref19_next.j1 k sp all fd (i : Int) true s.ts s.ms a b w) else ((imprimaturref19_among.f k (tabOf s.ts (ky (rd_T87 all (i : Int)))) sp).bind fun t215 => (imprimaturref19_next.j1 k sp all fd (i : Int) t215 s.ts s.ms a b w)))))) := fun k => by
      rw [imprimaturref19_next.l0, if_pos (by omega), if_pos (by omega)]
      have hbo' : imprimaturref19_both.f s.ts s.ms (rd_T87 all (i : Int)).f0 (rd_T87 all (i : Int)).f1 (rd_T87 all (i : Int)).f2 = some (tabOf s.ts (ky (rd_T87 all (i : Int)))) := hbo
      rw [hbo', Option.bind_some]
    by_cases c1 : (rd_T87 all (i : Int)).f2 < 2
    · obtain ⟨a', b', w', fd', g1, g2⟩ := hskip (by rw [Bool.eq_false_iff]; intro hc; exact (hcn.1 hc).1 c1)
      exact ⟨a', b', w', fd', Ev.step (fun k => by rw [hstep, if_pos c1]) g1, g2⟩
    by_cases c2 : ((tabOf s.ts (ky (rd_T87 all (i : Int)))).length : Int) > 32
    · obtain ⟨a', b', w', fd', g1, g2⟩ := hskip (by rw [Bool.eq_false_iff]; intro hc; exact (hcn.1 hc).2.1 c2)
      exact ⟨a', b', w', fd', Ev.step (fun k => by rw [hstep, if_neg c1, if_pos c2]) g1, g2⟩
    by_cases c3 : r ≥ 0
    · obtain ⟨a', b', w', fd', g1, g2⟩ := hskip (by rw [Bool.eq_false_iff]; intro hc; exact (hcn.1 hc).2.2.1 c3)
      refine ⟨a', b', w', fd', Ev.step (fun k => by rw [hstep, if_neg c1, if_neg c2]) (Ev.bind hr ?_), g2⟩
      simp only [if_pos c3]
      exact g1
    cases c4 : amB (tabOf s.ts (ky (rd_T87 all (i : Int)))) sp with
    | true =>
      obtain ⟨a', b', w', fd', g1, g2⟩ := hskip (by rw [Bool.eq_false_iff]; intro hc; have := (hcn.1 hc).2.2.2; rw [c4] at this; cases this)
      refine ⟨a', b', w', fd', Ev.step (fun k => by rw [hstep, if_neg c1, if_neg c2]) (Ev.bind hr ?_), g2⟩
      simp only [if_neg c3]
      exact Ev.bind (c4 ▸ ham) g1
    | false =>
      obtain ⟨a', b', w', fd', g1, g2⟩ := hlook (hcn.2 ⟨c1, c2, c3, c4⟩)
      refine ⟨a', b', w', fd', Ev.step (fun k => by rw [hstep, if_neg c1, if_neg c2]) (Ev.bind hr ?_), g2⟩
      simp only [if_neg c3]
      exact Ev.bind (c4 ▸ ham) g1
theorem next_ev {ns : List Int} {s : Lst} {sp : List (List Int)} (h : LOk ns s) (hw : Lw sp s) (hsp : sp.length ≤ 1000000) (hts : s.ts.length ≤ 1000000) (l : List S53) (hn : l.map (fun x => x.f1) = ns) (hl : l.length ≤ 1000) :
    ∃ a b w fd, Ev (fun k => imprimaturref19_next.f k s.ts s.ms l s.ps sp) (a, b, w, fd) ∧ nx (wt ns (cps s.ps)) s.ts s.T = if fd = true then some (a, b) else none := by
  have hln : l.length = s.ps.length := by rw [h.ps, ← hn, List.length_map]
  have hlen : ∀ w : Nat, (rd_L9 s.ps (w : Int)).length ≤ 1000000 := fun w => by
    have := tot_get s.ps w
    have := h.tot
    rw [rd_L9, Int.toNat_natCast]; omega
  have hok : prOk l s.ps = true := by
    rw [prOk, Bool.and_eq_true, decide_eq_true_eq, List.all_eq_true]
    refine ⟨by omega, fun p hp => ?_⟩
    obtain ⟨j, hj, e⟩ := List.getElem_of_mem hp
    have := hlen j
    rw [rd_L9, Int.toNat_natCast, List.getD_eq_getElem?_getD, List.getElem?_eq_getElem hj, Option.getD_some, e] at this
    simpa using this
  have hal : (prAll l s.ps s.ps.length).length ≤ 1000000000000 := by
    have := prAll_len l s.ps hlen s.ps.length
    omega
  obtain ⟨a, b, w, fd, g1, g2⟩ := next_go h hw hsp hts l hn _ rfl hal (prAll l s.ps s.ps.length).length 0 0 0 0 false (by omega) ⟨fun _ => ⟨⟨rfl, rfl, rfl⟩, fun j hj => by omega⟩, fun hf => by cases hf⟩
  refine ⟨a, b, w, fd, ?_, ?_⟩
  · unfold imprimaturref19_next.f imprimaturref19_Pairs.f
    rw [if_pos hok]
    exact g1
  · have hB : BInv (wt ns (cps s.ps)) s.ts s.T (fun _ => false) (a, b) w fd := by
      refine ⟨fun hf => ?_, fun hf => ?_⟩
      · obtain ⟨⟨rfl, rfl, rfl⟩, g3⟩ := g2.1 hf
        refine ⟨rfl, rfl, fun x y _ hx _ => ?_⟩
        obtain ⟨e, he, hk, hf2⟩ := (all_wt h l hn x y).1 hx
        obtain ⟨j, hj, hje⟩ := mem_rd87 he
        have := g3 j hj
        rw [hje, cnd, hf2] at this
        rw [← hk]; exact this
      · obtain ⟨⟨j, hj, hje⟩, g4, g5⟩ := g2.2 hf
        have hF : wt ns (cps s.ps) (a, b) = some w := (all_wt h l hn _ _).2 ⟨_, rd87_mem hj, by rw [hje]; rfl, by rw [hje]⟩
        obtain ⟨k0, k1, k2, k3⟩ := h.key (x := (a, b)) (by rw [hF]; rfl)
        simp only at k0 k1 k2 k3
        refine And.intro (And.intro ⟨by omega, by omega⟩ ⟨by omega, by omega⟩) ⟨hF, rfl, g4, fun x y _ hx _ hm hne => ?_⟩
        obtain ⟨e, he, hk, hf2⟩ := (all_wt h l hn x y).1 hx
        obtain ⟨q, hq, hqe⟩ := mem_rd87 he
        have := g5 q hq (by rw [hqe, cnd, hf2]; rw [← hk] at hm; exact hm) (by rw [hqe, hk]; exact hne)
        rw [hqe, hf2] at this
        rw [← hk]; exact this
    exact nx_of hB
end Go.Proofs.Ytkdegcpfjfgajaa.X
