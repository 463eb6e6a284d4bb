/- Parts in which a pair becomes a token; counts of all parts: plain. No condition. -/
import Derived.Test.YtkdegcpfjfgajaaPtW
import Derived.Test.YtkdegcpfjfgajaaQ3W
namespace Go.Proofs.Ytkdegcpfjfgajaa.Pt
open Go.RowKit Go.Proofs.Ytkdegcpfjfgajaa.Mg Go.Proofs.Ytkdegcpfjfgajaa.Q Go.Proofs.YtkdegcpfjfgajaaW.PrintWords
set_option linter.unusedVariables false
set_option linter.unusedSimpArgs false
def mgd : List Int → Int → Int → Int → List Int
  | [], _, _, _ => []
  | [x], _, _, _ => [x]
  | x :: y :: t, a, b, c => if x = a ∧ y = b then c :: mgd t a b c else x :: mgd (y :: t) a b c
theorem mgd_hit (t : List Int) (a b c : Int) : mgd (a :: b :: t) a b c = c :: mgd t a b c := by rw [mgd, if_pos ⟨rfl, rfl⟩]
theorem mgd_miss {x y : Int} (t : List Int) {a b : Int} (c : Int) (h : ¬ (x = a ∧ y = b)) : mgd (x :: y :: t) a b c = x :: mgd (y :: t) a b c := by rw [mgd, if_neg h]
theorem mgd_len (a b c : Int) : ∀ p : List Int, (mgd p a b c).length ≤ p.length
  | [] => Nat.le_refl _
  | [x] => Nat.le_refl _
  | x :: y :: t => by
    by_cases h : x = a ∧ y = b
    · obtain ⟨rfl, rfl⟩ := h
      have := mgd_len x y c t
      rw [mgd_hit]
      simp only [List.length_cons]
      omega
    · have := mgd_len a b c (y :: t)
      rw [mgd_miss t c h]
      simp only [List.length_cons] at this ⊢
      omega
/-- Where a pair does not stand nothing turns. -/
theorem mgd_none {a b : Int} (c : Int) : ∀ p : List Int, cp p (a, b) = 0 → mgd p a b c = p
  | [], _ => rfl
  | [x], _ => rfl
  | x :: y :: t, h => by
    rw [cp_two] at h
    have h1 := cp_nonneg (y :: t) (a, b)
    by_cases e : (x, y) = (a, b)
    · rw [if_pos e] at h; omega
    · rw [if_neg e] at h
      rw [mgd_miss t c (fun h' => e (by rw [h'.1, h'.2])), mgd_none c (y :: t) (by omega)]
theorem mgd_mem {a b c : Int} : ∀ p : List Int, ∀ x ∈ mgd p a b c, x ∈ p ∨ x = c
  | [], x, h => by simp [mgd] at h
  | [y], x, h => .inl h
  | y :: z :: t, x, h => by
    by_cases e : y = a ∧ z = b
    · obtain ⟨rfl, rfl⟩ := e
      rw [mgd_hit] at h
      rcases List.mem_cons.1 h with h | h
      · exact .inr h
      · rcases mgd_mem t x h with h | h
        · exact .inl (by simp [h])
        · exact .inr h
    · rw [mgd_miss t c e] at h
      rcases List.mem_cons.1 h with h | h
      · exact .inl (by simp [h])
      · rcases mgd_mem (z :: t) x h with h | h
        · exact .inl (List.mem_cons_of_mem _ h)
        · exact .inr h
theorem wrap_j {i : Nat} (h : i < 1000000000000) : wrap64 ((i : Int) + 1) = ((i + 1 : Nat) : Int) := by unfold wrap64; omega
theorem rd_drop (p : List Int) (i : Nat) (h : i < p.length) : p.drop i = rd p (i : Int) :: p.drop (i + 1) := by
  rw [List.drop_eq_getElem_cons h, rd, Int.toNat_natCast, List.getD_eq_getElem?_getD, List.getElem?_eq_getElem h, Option.getD_some]
theorem joined_go (p : List Int) (a b c : Int) (hl : p.length < 1000000000) : ∀ (d i : Nat) (acc : List Int), i + d = p.length → acc.length ≤ i → ∀ k, d < k → train_joined.l0 k p c acc (i : Int) a b = some (acc ++ mgd (p.drop i) a b c) := by
  intro d
  induction d using Nat.strongRecOn with
  | ind d ih =>
    intro i acc hd ha k hk
    obtain ⟨k, rfl⟩ : ∃ m, k = m + 1 := ⟨k - 1, by omega⟩
    rw [train_joined.l0]
    by_cases hi : i < p.length
    · rw [if_pos (by omega), wrap_j (by omega)]
      have e0 := rd_drop p i hi
      have hac : acc.length < 17592186044416 := by omega
      by_cases hi1 : i + 1 < p.length
      · have e1 := rd_drop p (i + 1) hi1
        have step : train_joined.l0 k p c (acc ++ [rd p (i : Int)]) ((i + 1 : Nat) : Int) a b = some ((acc ++ [rd p (i : Int)]) ++ mgd (p.drop (i + 1)) a b c) := ih (d - 1) (by omega) (i + 1) _ (by omega) (by rw [List.length_append, List.length_singleton]; omega) k (by omega)
        rw [if_pos (by omega), if_pos (by omega)]
        by_cases h1 : rd p (i : Int) = a
        · rw [if_pos h1, if_pos (by omega)]
          by_cases h2 : rd p ((i + 1 : Nat) : Int) = b
          · rw [if_pos h2, if_pos hac, wrap_j (by omega)]
            rw [ih (d - 2) (by omega) (i + 1 + 1) (acc ++ [c]) (by omega) (by rw [List.length_append, List.length_singleton]; omega) k (by omega)]
            rw [e0, e1, h1, h2, mgd_hit, List.append_assoc]
            rfl
          · rw [if_neg h2, if_pos hac, step, e0, e1, mgd_miss _ c (fun h => h2 h.2), List.append_assoc]
            rfl
        · rw [if_neg h1, if_pos hac, step, e0, e1, mgd_miss _ c (fun h => h1 h.1), List.append_assoc]
          rfl
      · rw [if_neg (by omega), if_pos (by omega), if_pos hac]
        rw [ih (d - 1) (by omega) (i + 1) (acc ++ [rd p (i : Int)]) (by omega) (by rw [List.length_append, List.length_singleton]; omega) k (by omega)]
        rw [e0, List.drop_eq_nil_of_le (show p.length ≤ i + 1 by omega)]
        simp [mgd]
    · rw [if_neg (by omega), List.drop_eq_nil_of_le (by omega), mgd, List.append_nil]
theorem joined_ev (p : List Int) (a b c : Int) (hl : p.length < 1000000000) : ∃ k, train_joined.f k p a b c = some (mgd p a b c) := by
  refine ⟨p.length + 1, ?_⟩
  rw [train_joined.f]
  have := joined_go p a b c hl p.length 0 [] (by omega) (Nat.le_refl _) (p.length + 1) (by omega)
  rw [List.drop_zero, List.nil_append] at this
  exact this
/-! ### counts of all parts -/
def cps (parts : List (List Int)) : Cnt := fun i k => cp (parts.getD i []) k
def tot : List (List Int) → Nat
  | [] => 0
  | p :: t => p.length + tot t
theorem tot_get : ∀ (parts : List (List Int)) (i : Nat), (parts.getD i []).length ≤ tot parts
  | [], i => by simp [tot]
  | p :: t, 0 => by simp [tot]
  | p :: t, i + 1 => by
    have := tot_get t i
    rw [List.getD_cons_succ, tot]
    omega
theorem tot_set : ∀ (parts : List (List Int)) (i : Nat) (q : List Int), q.length ≤ (parts.getD i []).length → tot (parts.set i q) ≤ tot parts
  | [], i, q, _ => by simp [tot]
  | p :: t, 0, q, h => by simp [tot] at h ⊢; omega
  | p :: t, i + 1, q, h => by
    rw [List.getD_cons_succ] at h
    have := tot_set t i q h
    rw [List.set_cons_succ, tot, tot]
    omega
theorem ws_le {c : Cnt} {k : Int × Int} : ∀ (ns : List Int) (parts : List (List Int)) (i : Nat), ns.length = parts.length → (∀ n ∈ ns, (1 : Int) ≤ n ∧ n ≤ 4294967296) → (∀ j, j < parts.length → 0 ≤ c (i + j) k ∧ c (i + j) k ≤ (parts.getD j []).length) → ws ns i c k ≤ 4294967296 * (tot parts : Int)
  | [], parts, i, hl, _, _ => by
    rw [ws]
    have : (0 : Int) ≤ (tot parts : Int) := by omega
    omega
  | n :: t, [], i, hl, _, _ => by simp at hl
  | n :: t, p :: ps, i, hl, hn, hc => by
    have ih := ws_le t ps (i + 1) (by simpa using hl) (fun m hm => hn m (List.mem_cons_of_mem _ hm)) (fun j hj => by
      have := hc (j + 1) (by simp only [List.length_cons]; omega)
      rw [show i + (j + 1) = i + 1 + j from by omega, List.getD_cons_succ] at this
      exact this)
    have h0 := hc 0 (by simp)
    rw [Nat.add_zero, List.getD_cons_zero] at h0
    have hn0 := hn n (by simp)
    have h1 : n * c i k ≤ 4294967296 * (p.length : Int) := by
      have a1 : n * c i k ≤ 4294967296 * c i k := Int.mul_le_mul_of_nonneg_right hn0.2 h0.1
      have a2 : 4294967296 * c i k ≤ 4294967296 * (p.length : Int) := Int.mul_le_mul_of_nonneg_left h0.2 (by omega)
      omega
    rw [ws, tot]
    push_cast
    rw [Int.mul_add]
    omega
theorem okc_of {ns : List Int} {parts : List (List Int)} {c : Cnt} (hl : ns.length = parts.length) (hn : ∀ n ∈ ns, (1 : Int) ≤ n ∧ n ≤ 4294967296) (ht : tot parts ≤ 16384) (hc : ∀ j k, 0 ≤ c j k ∧ c j k ≤ (parts.getD j []).length) : OkC ns c := by
  refine ⟨hn, fun k => ?_, fun j k => ?_⟩
  · have := ws_le (c := c) (k := k) ns parts 0 hl hn (fun j _ => by rw [Nat.zero_add]; exact hc j k)
    have h2 : (tot parts : Int) ≤ 16384 := by omega
    omega
  · have := hc j k
    have h3 := tot_get parts j
    omega
theorem cp_take_le (k : Int × Int) : ∀ (p : List Int) (j : Nat), cp (p.take j) k ≤ cp p k
  | [], j => by simp
  | x :: t, 0 => by simpa [cp] using cp_nonneg (x :: t) k
  | [x], j + 1 => by simp
  | x :: y :: t, 1 => by simpa [cp] using cp_nonneg (x :: y :: t) k
  | x :: y :: t, j + 2 => by
    have := cp_take_le k (y :: t) (j + 1)
    simp only [List.take_succ_cons] at this ⊢
    rw [cp_two, cp_two]
    omega
/-- No number twice, all below n: at most n. -/
theorem nodup_len : ∀ (n : Nat) (l : List Int), l.Nodup → (∀ x ∈ l, 0 ≤ x ∧ x < (n : Int)) → l.length ≤ n
  | 0, l, _, h => by
    cases l with
    | nil => simp
    | cons x t => have := h x (by simp); omega
  | n + 1, l, hd, h => by
    have h1 := nodup_len n (l.erase (n : Int)) (hd.erase _) (fun x hx => by
      have h2 := (List.Nodup.mem_erase_iff hd).1 hx
      have := h x h2.2
      have h3 := h2.1
      omega)
    have := List.length_erase_le (a := (n : Int)) (l := l)
    have h4 : l.length ≤ (l.erase (n : Int)).length + 1 := by rw [List.length_erase]; split <;> omega
    omega
/-- Words' counts, before and after their parts turn. -/
theorem getD_set (parts : List (List Int)) (w : Nat) (q : List Int) (i : Nat) (hw : w < parts.length) : (parts.set w q).getD i [] = if i = w then q else parts.getD i [] := by
  rw [List.getD_eq_getElem?_getD, List.getD_eq_getElem?_getD, List.getElem?_set]
  by_cases e : w = i
  · subst e; rw [if_pos rfl, if_pos hw, if_pos rfl]; rfl
  · rw [if_neg e, if_neg (fun h => e h.symm)]
end Go.Proofs.Ytkdegcpfjfgajaa.Pt
