/- The document's learning is the program's: plainly. Conditions: a small corpus. -/
import Derived.Test.YtkdegcpfjfgajaaQ6X
import Derived.Test.YtkdegcpfjfgajaaPpX
import Derived.Test.YtkdegcpfjfgajaaPgX
import Derived.Test.YtkdegcpfjfgajaaQ10X
section
namespace Go.Proofs.Ytkdegcpfjfgajaa.X
open Go Go.RowKit Go.Proofs.YtkdegcpfjfgajaaW.PrintWords Go.Proofs.Ytkdegcpfjfgajaa.Mg Go.Proofs.Ytkdegcpfjfgajaa.Pt Go.Proofs.Ytkdegcpfjfgajaa.Q
set_option linter.unusedVariables false
set_option linter.unusedSimpArgs false
def ky (x : S87) : Int × Int := (x.f0, x.f1)
/-- The count a list holds of a pair. -/
def lk : List S87 → Int × Int → Int
  | [], _ => 0
  | x :: t, k => if ky x = k then x.f2 else lk t k
theorem ky_iff {x : S87} {a b : Int} : (x.f0 = a ∧ x.f1 = b) ↔ ky x = (a, b) := by
  rw [ky, Prod.mk.injEq]
theorem mem_add : ∀ (out : List S87) (a b n : Int) (z : Int × Int), z ∈ (prAdd out a b n).map ky ↔ z ∈ out.map ky ∨ z = (a, b)
  | [], a, b, n, z => by
    rw [prAdd]
    simp [ky]
  | x :: t, a, b, n, z => by
    rw [prAdd]
    by_cases h : x.f0 = a ∧ x.f1 = b
    · rw [if_pos h]
      have hk : ky x = (a, b) := ky_iff.1 h
      have hk2 : ky ⟨x.f0, x.f1, wrap64 (x.f2 + n)⟩ = (a, b) := hk
      simp only [List.map_cons, List.mem_cons, hk2, hk]
      constructor
      · rintro (e | e)
        · exact .inr e
        · exact .inl (.inr e)
      · rintro ((e | e) | e)
        · exact .inl e
        · exact .inr e
        · exact .inl e
    · rw [if_neg h]
      simp only [List.map_cons, List.mem_cons, mem_add t a b n z, or_assoc]
theorem lk_mem : ∀ (out : List S87) (x : S87), (out.map ky).Nodup → x ∈ out → lk out (ky x) = x.f2
  | y :: t, x, hn, hm => by
    rw [List.map_cons, List.nodup_cons] at hn
    rw [lk]
    rcases List.mem_cons.1 hm with e | e
    · rw [if_pos (by rw [e]), e]
    · rw [if_neg (fun h => hn.1 (by rw [h]; exact List.mem_map_of_mem e)), lk_mem t x hn.2 e]
end Go.Proofs.Ytkdegcpfjfgajaa.X

end
namespace Go.Proofs.Ytkdegcpfjfgajaa.X
open Go Go.RowKit Go.Proofs.YtkdegcpfjfgajaaW.PrintWords Go.Proofs.Ytkdegcpfjfgajaa.Mg Go.Proofs.Ytkdegcpfjfgajaa.Pt Go.Proofs.Ytkdegcpfjfgajaa.Q
set_option linter.unusedVariables false
set_option linter.unusedSimpArgs false
/-! ### what is so from some number of rounds on -/
section
variable {α β : Type}
def Ev (g : Nat → Option α) (r : α) : Prop := ∃ K, ∀ k, K ≤ k → g k = some r
theorem Ev.step {f g : Nat → Option α} {r : α} (h : ∀ k, g (k + 1) = f k) (hf : Ev f r) : Ev g r := by
  obtain ⟨K, hK⟩ := hf
  refine ⟨K + 1, fun k hk => ?_⟩
  obtain ⟨k, rfl⟩ : ∃ m, k = m + 1 := ⟨k - 1, by omega⟩
  rw [h]
  exact hK k (by omega)
theorem Ev.bind {f : Nat → Option α} {g : Nat → α → Option β} {a : α} {r : β} (h1 : Ev f a) (h2 : Ev (fun k => g k a) r) : Ev (fun k => (f k).bind (g k)) r := by
  obtain ⟨K, hK⟩ := h1
  obtain ⟨M, hM⟩ := h2
  refine ⟨K + M, fun k hk => ?_⟩
  show (f k).bind (g k) = some r
  rw [hK k (by omega), Option.bind_some]
  exact hM k (by omega)
theorem Ev.of {f : Nat → Option α} {r : α} (h : ∀ k, f (k + 1) = some r) : Ev f r := by
  refine ⟨1, fun k hk => ?_⟩
  obtain ⟨k, rfl⟩ : ∃ m, k = m + 1 := ⟨k - 1, by omega⟩
  exact h k
theorem Ev.const {r : α} : Ev (fun _ => some r) r := ⟨0, fun _ _ => rfl⟩
theorem Ev.le {f : Nat → Option α} {r : α} (n : Nat) (h : ∀ k, n ≤ k → f k = some r) : Ev f r := ⟨n, h⟩
end
/-! ### the tests -/
/-! ### Find, both, above -/
/-! ### the list of pairs -/
theorem rd_nat (p : List Int) (i : Nat) : rd p (i : Int) = p.getD i 0 := by rw [rd, Int.toNat_natCast]
theorem cp_take1 (p : List Int) (k : Int × Int) : cp (p.take 1) k = 0 := by
  match p with
  | [] => rfl
  | [a] => rfl
  | a :: b :: t => rfl
theorem word_mem (p : List Int) (n : Int) (out : List S87) (k : Int × Int) : ∀ i : Nat, i = 0 ∨ i < p.length → (k ∈ (prWord p n i out).map ky ↔ k ∈ out.map ky ∨ cp (p.take (i + 1)) k ≠ 0)
  | 0, _ => by rw [prWord, cp_take1]; simp
  | i + 1, hi => by
    have hi' : i + 1 < p.length := by omega
    have ih := word_mem p n out k i (by omega)
    have e1 : rd p ((i : Int) + 1) = p.getD (i + 1) 0 := rd_nat p (i + 1)
    have hn := cp_nonneg (p.take (i + 1)) k
    rw [prWord, mem_add, ih, cp_take p (i + 1) k (by omega) hi', rd_nat, e1, show i + 1 - 1 = i from rfl]
    by_cases c : k = (p.getD i 0, p.getD (i + 1) 0)
    · rw [if_pos c.symm]
      exact ⟨fun _ => .inr (by omega), fun _ => .inr c⟩
    · rw [if_neg (fun h => c h.symm), Int.add_zero]
      exact ⟨fun h => h.elim id (fun h => (c h).elim), fun h => .inl h⟩
theorem word_all (p : List Int) (k : Int × Int) : cp (p.take (p.length - 1 + 1)) k = cp p k := by
  by_cases c : p.length = 0
  · rw [List.length_eq_zero_iff.1 c]; rfl
  · rw [List.take_of_length_le (by omega)]
theorem all_mem (ls : List S53) (ps : List (List Int)) (k : Int × Int) : ∀ w : Nat, (k ∈ (prAll ls ps w).map ky ↔ ∃ i, i < w ∧ cp (ps.getD i []) k ≠ 0)
  | 0 => by simp [prAll]
  | w + 1 => by
    have e2 : rd_L9 ps (w : Int) = ps.getD w [] := by rw [rd_L9, Int.toNat_natCast]
    rw [prAll, word_mem _ _ _ k _ (by omega), all_mem ls ps k w, word_all, e2]
    constructor
    · rintro (⟨i, h1, h2⟩ | h)
      · exact ⟨i, by omega, h2⟩
      · exact ⟨w, by omega, h⟩
    · rintro ⟨i, h1, h2⟩
      by_cases c : i = w
      · rw [c] at h2; exact .inr h2
      · exact .inl ⟨i, by omega, h2⟩
/-! ### the next pair -/
def cnd (s : Lst) (x : S87) : Bool := mayb s.ts s.T x.f0 x.f1 x.f2
theorem ky_eq {x y : S87} {all : List S87} (hn : (all.map ky).Nodup) (hx : x ∈ all) (hy : y ∈ all) (h : ky x = ky y) : x = y := by
  have h1 := lk_mem all x hn hx
  have h2 := lk_mem all y hn hy
  rw [h, h2] at h1
  rw [ky, ky, Prod.mk.injEq] at h
  cases x; cases y
  simp only at h h1
  rw [h.1, h.2, h1]
/-- The best of the first i pairs. -/
def SInv (s : Lst) (all : List S87) (i : Nat) (a b w : Int) (fd : Bool) : Prop :=
  (fd = false → (a = 0 ∧ b = 0 ∧ w = 0) ∧ ∀ j : Nat, j < i → cnd s (rd_T87 all (j : Int)) = false) ∧
  (fd = true → (∃ j : Nat, j < i ∧ rd_T87 all (j : Int) = ⟨a, b, w⟩) ∧ mayb s.ts s.T a b w = true ∧ ∀ j : Nat, j < i → cnd s (rd_T87 all (j : Int)) = true → ky (rd_T87 all (j : Int)) ≠ (a, b) → btr a b w (rd_T87 all (j : Int)).f0 (rd_T87 all (j : Int)).f1 (rd_T87 all (j : Int)).f2 = true)
theorem rd87_mem {all : List S87} {j : Nat} (h : j < all.length) : rd_T87 all (j : Int) ∈ all := by
  rw [rd_T87, Int.toNat_natCast, List.getD_eq_getElem?_getD, List.getElem?_eq_getElem h, Option.getD_some]
  exact List.getElem_mem h
theorem SInv.skip {s : Lst} {all : List S87} {i : Nat} {a b w : Int} {fd : Bool} (h : SInv s all i a b w fd) (hc : cnd s (rd_T87 all (i : Int)) = false) : SInv s all (i + 1) a b w fd := by
  refine ⟨fun hf => ⟨(h.1 hf).1, fun j hj => ?_⟩, fun hf => ?_⟩
  · by_cases e : j = i
    · rw [e]; exact hc
    · exact (h.1 hf).2 j (by omega)
  · obtain ⟨⟨j, h1, h2⟩, h3, h4⟩ := h.2 hf
    refine ⟨⟨j, by omega, h2⟩, h3, fun j hj hj2 hj3 => ?_⟩
    by_cases e : j = i
    · rw [e, hc] at hj2; cases hj2
    · exact h4 j (by omega) hj2 hj3
theorem SInv.first {s : Lst} {all : List S87} {i : Nat} {a b w : Int} (h : SInv s all i a b w false) (hc : cnd s (rd_T87 all (i : Int)) = true) : SInv s all (i + 1) (rd_T87 all (i : Int)).f0 (rd_T87 all (i : Int)).f1 (rd_T87 all (i : Int)).f2 true := by
  refine ⟨fun hf => (by cases hf), fun _ => ⟨⟨i, by omega, rfl⟩, hc, fun j hj hj2 hj3 => ?_⟩⟩
  by_cases e : j = i
  · rw [e] at hj3; exact (hj3 rfl).elim
  · rw [(h.1 rfl).2 j (by omega)] at hj2; cases hj2
theorem SInv.better {s : Lst} {all : List S87} (hn : (all.map ky).Nodup) {i : Nat} (hi : i < all.length) {a b w : Int} (h : SInv s all i a b w true) (hc : cnd s (rd_T87 all (i : Int)) = true) (hb : btr (rd_T87 all (i : Int)).f0 (rd_T87 all (i : Int)).f1 (rd_T87 all (i : Int)).f2 a b w = true) : SInv s all (i + 1) (rd_T87 all (i : Int)).f0 (rd_T87 all (i : Int)).f1 (rd_T87 all (i : Int)).f2 true := by
  obtain ⟨⟨q, q1, q2⟩, h3, h4⟩ := h.2 rfl
  refine ⟨fun hf => (by cases hf), fun _ => ⟨⟨i, by omega, rfl⟩, hc, fun j hj hj2 hj3 => ?_⟩⟩
  by_cases e : j = i
  · rw [e] at hj3; exact (hj3 rfl).elim
  · by_cases c : ky (rd_T87 all (j : Int)) = (a, b)
    · have : rd_T87 all (j : Int) = rd_T87 all (q : Int) := ky_eq hn (rd87_mem (by omega)) (rd87_mem (by omega)) (by rw [c, q2]; rfl)
      rw [this, q2]; exact hb
    · exact btr_trans hb (h4 j (by omega) hj2 c)
theorem SInv.keep {s : Lst} {all : List S87} (hn : (all.map ky).Nodup) {i : Nat} (hi : i < all.length) {a b w : Int} (h : SInv s all i a b w true) (hb : btr (rd_T87 all (i : Int)).f0 (rd_T87 all (i : Int)).f1 (rd_T87 all (i : Int)).f2 a b w = false) : SInv s all (i + 1) a b w true := by
  obtain ⟨⟨q, q1, q2⟩, h3, h4⟩ := h.2 rfl
  refine ⟨fun hf => (by cases hf), fun _ => ⟨⟨q, by omega, q2⟩, h3, fun j hj hj2 hj3 => ?_⟩⟩
  by_cases e : j = i
  · rw [e] at hj3 ⊢
    exact btr_total hb (fun h => hj3 h.symm)
  · exact h4 j (by omega) hj2 hj3
end Go.Proofs.Ytkdegcpfjfgajaa.X
