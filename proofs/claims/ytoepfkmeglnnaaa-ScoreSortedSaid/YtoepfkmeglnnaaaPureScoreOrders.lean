/- The plain statement of ScoreOrders. No condition. -/
import Derived.Test.YtoepfkmeglnnaaaU1
import Derived.Test.YtoepfkmeglnnaaaM
set_option linter.unusedSimpArgs false
set_option linter.unusedVariables false
namespace Go.Proofs.Ytoepfkmeglnnaaa.Pure
open Go.RowKit Go.Proofs.YtoepfkmeglnnaaaW.PrintWords Go.Proofs.Ytoepfkmeglnnaaa.Q Go.Proofs.Ytoepfkmeglnnaaa.U Go.Proofs.Ytoepfkmeglnnaaa.M
open Stb (insK isort)
def ints (l : List Nat) : List Int := l.map fun i : Nat => (i : Int)
theorem ints_len (l : List Nat) : (ints l).length = l.length := by simp [ints]
theorem rd_ints (l : List Nat) (j : Nat) : rd (ints l) (j : Int) = (l.getD j 0 : Nat) := by
  simp only [rd, ints, Int.toNat_natCast, List.getD_eq_getElem?_getD, List.getElem?_map]
  cases l[j]? <;> rfl
theorem rdn (l : List Nat) (j : Nat) : rdOf (0 : Nat) l (j : Int) = l.getD j 0 := by simp [rdOf]
theorem get_lt {l : List Nat} (hl : ∀ x ∈ l, x < 18446744073709551616) (j : Nat) : l.getD j 0 < 18446744073709551616 := by
  rw [List.getD_eq_getElem?_getD]
  rcases Nat.lt_or_ge j l.length with h | h
  · rw [List.getElem?_eq_getElem h]; exact hl _ (List.getElem_mem h)
  · rw [List.getElem?_eq_none h]; decide
theorem codeI_cd {b : Nat} (hb : b < 18446744073709551616) : codeI b = (cd b : Int) := by unfold codeI; rw [code_p b hb]; rfl
theorem wrap_nat (j : Nat) (h : j < 1000000) : wrap64 ((j : Int) + 1) = ((j + 1 : Nat) : Int) := by unfold wrap64; omega
theorem insK_skip {α : Type} {lt : α → α → Bool} (x : α) : ∀ (p q : List α), (∀ y ∈ p, lt x y = false) → insK lt x (p ++ q) = p ++ insK lt x q
  | [], q, _ => rfl
  | y :: p, q, h => by
    rw [List.cons_append, insK, if_neg (by rw [h y (by simp)]; simp), insK_skip x p q (fun z hz => h z (by simp [hz]))]
    rfl
theorem insK_here {α : Type} {lt : α → α → Bool} (x : α) (q : List α) (h : ∀ y r, q = y :: r → lt x y = true) : insK lt x q = x :: q := by
  cases q with
  | nil => rfl
  | cons y r => rw [insK, if_pos (h y r rfl)]
theorem code_r' (b : Nat) (hb : b < 18446744073709551616) (k : Nat) (hk : 1 ≤ k) : imprimaturref01_Code.f k b = some (cd b : Int) := by
  obtain ⟨k, rfl⟩ : ∃ m, k = m + 1 := ⟨k - 1, by omega⟩
  exact code_r b hb k

theorem ref_in (l : List Nat) (hl : ∀ x ∈ l, x < 18446744073709551616) (hlen : l.length ≤ 100) (out : List Nat) (ho : ∀ y ∈ out, y < l.length) (ho2 : out.length ≤ 100) (i : Nat) (hi : i < l.length) (r : List Int)
    (hr : Ev (fun k => imprimaturref01_Order.l0 k l (ints (insK (ordLt l) i out)) ((i + 1 : Nat) : Int)) r) (d : Nat) :
    ∀ j, j + d = out.length → (∀ y ∈ out.take j, ordLt l i y = false) → Ev (fun k => imprimaturref01_Order.l1 k l (ints out) (i : Int) (j : Int)) r := by
  have fin : ∀ j, j ≤ out.length → (∀ y ∈ out.take j, ordLt l i y = false) → (∀ y t, out.drop j = y :: t → ordLt l i y = true) → ints (insK (ordLt l) i out) = (([] : List Int) ++ (ints out).take j ++ [(i : Int)]) ++ (ints out).drop j := by
    intro j hj h1 h2
    have e := insK_skip (lt := ordLt l) i (out.take j) (out.drop j) h1
    rw [List.take_append_drop, insK_here i _ h2] at e
    rw [e]
    simp [ints]
  induction d with
  | zero =>
    intro j hj hs
    obtain ⟨K, hK⟩ := hr
    dsimp only at hK
    refine ⟨K + 1, fun k hk => ?_⟩
    obtain ⟨k, rfl⟩ : ∃ m, k = m + 1 := ⟨k - 1, by omega⟩
    have e := fin j (by omega) hs (fun y t h => by rw [List.drop_eq_nil_of_le (by omega)] at h; cases h)
    have hk' := hK k (by omega)
    simp only [imprimaturref01_Order.l1]
    rw [ints_len, if_neg (by omega), if_pos (by omega), if_pos (by omega)]
    simp only [Option.bind_some, Int.toNat_natCast]
    have l1 : ((ints out).take j).length ≤ 100 := by rw [List.length_take, ints_len]; omega
    have l2 : ((ints out).drop j).length ≤ 100 := by rw [List.length_drop, ints_len]; omega
    rw [if_pos (by simp only [List.length_nil]; omega), if_pos (by simp only [List.nil_append]; omega), if_pos (by simp only [List.nil_append, List.length_append, List.length_singleton]; omega), wrap_nat i (by omega), ← e]
    exact hk'
  | succ d ih =>
    intro j hj hs
    have hjl : j < out.length := by omega
    have hoj : out.getD j 0 = out[j] := by simp [List.getD_eq_getElem?_getD, hjl]
    have hb : out[j] < l.length := ho _ (List.getElem_mem hjl)
    by_cases c : ordLt l i out[j] = true
    · obtain ⟨K, hK⟩ := hr
      dsimp only at hK
      refine ⟨K + 2, fun k hk => ?_⟩
      obtain ⟨k, rfl⟩ : ∃ m, k = m + 1 := ⟨k - 1, by omega⟩
      have e := fin j (by omega) hs (fun y t h => by rw [List.drop_eq_getElem_cons hjl] at h; injection h with h _; rw [← h]; exact c)
      have hk' := hK k (by omega)
      have c2 : cd (l.getD out[j] 0) < cd (l.getD i 0) := by
        have := of_decide_eq_true c
        rw [codeI_cd (get_lt hl _), codeI_cd (get_lt hl _)] at this
        omega
      have l1 : ((ints out).take j).length ≤ 100 := by rw [List.length_take, ints_len]; omega
      have l2 : ((ints out).drop j).length ≤ 100 := by rw [List.length_drop, ints_len]; omega
      simp only [imprimaturref01_Order.l1]
      rw [ints_len, if_pos (by omega), if_pos (by omega), rd_ints, hoj, if_pos (by omega), if_pos (by omega), rdn, code_r' _ (get_lt hl _) k (by omega)]
      simp only [Option.bind_some]
      rw [if_pos (by omega), if_pos (by omega), rdn, code_r' _ (get_lt hl _) k (by omega)]
      simp only [Option.bind_some]
      rw [if_neg (by omega), if_pos (by omega)]
      simp only [Option.bind_some, Int.toNat_natCast]
      rw [if_pos (by simp only [List.length_nil]; omega), if_pos (by simp only [List.nil_append]; omega), if_pos (by simp only [List.nil_append, List.length_append, List.length_singleton]; omega), wrap_nat i (by omega), ← e]
      exact hk'
    · obtain ⟨K, hK⟩ := ih (j + 1) (by omega) (fun y hy => by
        rw [List.take_succ_eq_append_getElem hjl] at hy
        rcases List.mem_append.mp hy with hy | hy
        · exact hs y hy
        · rw [List.mem_singleton.mp hy]; exact Bool.eq_false_iff.mpr c)
      dsimp only at hK
      refine ⟨K + 2, fun k hk => ?_⟩
      obtain ⟨k, rfl⟩ : ∃ m, k = m + 1 := ⟨k - 1, by omega⟩
      have hk' := hK k (by omega)
      have c2 : ¬ cd (l.getD out[j] 0) < cd (l.getD i 0) := by
        intro h
        apply c
        refine decide_eq_true ?_
        rw [codeI_cd (get_lt hl _), codeI_cd (get_lt hl _)]
        omega
      simp only [imprimaturref01_Order.l1]
      rw [ints_len, if_pos (by omega), if_pos (by omega), rd_ints, hoj, if_pos (by omega), if_pos (by omega), rdn, code_r' _ (get_lt hl _) k (by omega)]
      simp only [Option.bind_some]
      rw [if_pos (by omega), if_pos (by omega), rdn, code_r' _ (get_lt hl _) k (by omega)]
      simp only [Option.bind_some]
      rw [if_pos (by omega), wrap_nat j (by omega)]
      exact hk'

theorem ref_order (l : List Nat) (hl : ∀ x ∈ l, x < 18446744073709551616) (hlen : l.length ≤ 100) : Ev (fun k => imprimaturref01_Order.f k l) (ints (ordOf l)) := by
  have key : ∀ d i, i + d = l.length → Ev (fun k => imprimaturref01_Order.l0 k l (ints (isort (ordLt l) (List.range i))) (i : Int)) (ints (ordOf l)) := by
    intro d
    induction d with
    | zero =>
      intro i hi
      refine ⟨1, fun k hk => ?_⟩
      obtain ⟨k, rfl⟩ : ∃ m, k = m + 1 := ⟨k - 1, by omega⟩
      simp only [imprimaturref01_Order.l0]
      rw [if_neg (by omega)]
      unfold ordOf
      rw [show i = l.length by omega]
    | succ d ih =>
      intro i hi
      have h := ih (i + 1) (by omega)
      have e : isort (ordLt l) (List.range (i + 1)) = insK (ordLt l) i (isort (ordLt l) (List.range i)) := by
        unfold isort
        rw [List.range_succ, List.foldl_append]
        rfl
      rw [e] at h
      have hlen' : (isort (ordLt l) (List.range i)).length = i := by rw [Stb.length_isort, List.length_range]
      have h1 := ref_in l hl hlen (isort (ordLt l) (List.range i)) (fun y hy => by have := (Stb.mem_isort _ _).mp hy; rw [List.mem_range] at this; omega) (by omega) i (by omega) _ h i 0 (by omega) (fun y hy => by simp at hy)
      obtain ⟨K, hK⟩ := h1
      dsimp only at hK
      refine ⟨K + 1, fun k hk => ?_⟩
      obtain ⟨k, rfl⟩ : ∃ m, k = m + 1 := ⟨k - 1, by omega⟩
      simp only [imprimaturref01_Order.l0]
      rw [if_pos (by omega)]
      exact hK k (by omega)
  exact key l.length 0 (by omega)

theorem same_ints (l : List Int) (hlen : l.length ≤ 100) : Ev (fun k => imprimaturref01_SameInts.f k l l) true := by
  have key : ∀ d i : Nat, i + d = l.length → Ev (fun k => imprimaturref01_SameInts.l0 k l l (i : Int)) true := by
    intro d
    induction d with
    | zero =>
      intro i hi
      refine ⟨1, fun k hk => ?_⟩
      obtain ⟨k, rfl⟩ : ∃ m, k = m + 1 := ⟨k - 1, by omega⟩
      simp only [imprimaturref01_SameInts.l0]
      rw [if_neg (by omega)]
    | succ d ih =>
      intro i hi
      obtain ⟨K, hK⟩ := ih (i + 1) (by omega)
      dsimp only at hK
      refine ⟨K + 1, fun k hk => ?_⟩
      obtain ⟨k, rfl⟩ : ∃ m, k = m + 1 := ⟨k - 1, by omega⟩
      simp only [imprimaturref01_SameInts.l0]
      rw [if_pos (by omega), if_pos (by omega), if_pos (by omega), if_pos trivial, wrap_nat i (by omega)]
      exact hK k (by omega)
  obtain ⟨K, hK⟩ := key l.length 0 (by omega)
  dsimp only at hK
  refine ⟨K, fun k hk => ?_⟩
  unfold imprimaturref01_SameInts.f
  dsimp only
  rw [if_pos rfl]
  exact hK k hk

/-- No later code is above the one ahead of it. -/
def falls : List Nat → Bool
  | a :: b :: l => if cd b > cd a then false else falls (b :: l)
  | _ => true
theorem falls_one {l : List Nat} (h : l.length ≤ 1) : falls l = true := by
  match l, h with
  | [], _ => rfl
  | [_], _ => rfl
theorem falls_drop (l : List Nat) (i : Nat) (h : i + 1 < l.length) : falls (l.drop i) = if cd (l.getD (i + 1) 0) > cd (l.getD i 0) then false else falls (l.drop (i + 1)) := by
  rw [List.drop_eq_getElem_cons (by omega : i < l.length), List.drop_eq_getElem_cons h]
  simp only [falls, List.getD_eq_getElem?_getD, List.getElem?_eq_getElem h, List.getElem?_eq_getElem (by omega : i < l.length), Option.getD_some]
theorem falls_p (l : List Nat) (hl : ∀ x ∈ l, x < 18446744073709551616) (hlen : l.length ≤ 100) : Ev (fun k => score_Falls.f k l) (falls l) := by
  have key : ∀ d i : Nat, i + d = l.length → Ev (fun k => score_Falls.l0 k l ((i + 1 : Nat) : Int)) (falls (l.drop i)) := by
    intro d
    induction d with
    | zero =>
      intro i hi
      refine ⟨1, fun k hk => ?_⟩
      obtain ⟨k, rfl⟩ : ∃ m, k = m + 1 := ⟨k - 1, by omega⟩
      simp only [score_Falls.l0]
      rw [if_neg (by omega), falls_one (by rw [List.length_drop]; omega)]
    | succ d ih =>
      intro i hi
      obtain ⟨K, hK⟩ := ih (i + 1) (by omega)
      dsimp only at hK
      refine ⟨K + 1, fun k hk => ?_⟩
      obtain ⟨k, rfl⟩ : ∃ m, k = m + 1 := ⟨k - 1, by omega⟩
      simp only [score_Falls.l0]
      by_cases h : i + 1 < l.length
      · have e : wrap64 (((i + 1 : Nat) : Int) - 1) = (i : Int) := by unfold wrap64; omega
        rw [if_pos (by omega), if_pos (by omega), e, if_pos (by omega), if_pos (by omega), rdn, rdn, cmp_p _ _ (get_lt hl _) (get_lt hl _), falls_drop l i h]
        simp only [Option.bind_some]
        by_cases c : cd (l.getD (i + 1) 0) > cd (l.getD i 0)
        · rw [if_pos c, if_pos c, if_pos (by omega)]
        · rw [if_neg c, if_neg c, wrap_nat (i + 1) (by omega)]
          have : ¬ ((if cd (l.getD (i + 1) 0) < cd (l.getD i 0) then (-1 : Int) else 0) > 0) := by split <;> omega
          rw [if_neg this]
          exact hK k (by omega)
      · rw [if_neg (by omega), falls_one (by rw [List.length_drop]; omega)]
  exact key l.length 0 (by omega)
theorem falls_r (l : List Nat) (hl : ∀ x ∈ l, x < 18446744073709551616) (hlen : l.length ≤ 100) : Ev (fun k => imprimaturref01_Falls.f k l) (falls l) := by
  have key : ∀ d i : Nat, i + d = l.length → Ev (fun k => imprimaturref01_Falls.l0 k l (i : Int)) (falls (l.drop i)) := by
    intro d
    induction d with
    | zero =>
      intro i hi
      refine ⟨1, fun k hk => ?_⟩
      obtain ⟨k, rfl⟩ : ∃ m, k = m + 1 := ⟨k - 1, by omega⟩
      simp only [imprimaturref01_Falls.l0]
      rw [wrap_nat i (by omega), if_neg (by omega), falls_one (by rw [List.length_drop]; omega)]
    | succ d ih =>
      intro i hi
      obtain ⟨K, hK⟩ := ih (i + 1) (by omega)
      dsimp only at hK
      refine ⟨K + 2, fun k hk => ?_⟩
      obtain ⟨k, rfl⟩ : ∃ m, k = m + 1 := ⟨k - 1, by omega⟩
      simp only [imprimaturref01_Falls.l0]
      rw [wrap_nat i (by omega)]
      by_cases h : i + 1 < l.length
      · rw [if_pos (by omega), if_pos (by omega), rdn, code_r' _ (get_lt hl _) k (by omega), falls_drop l i h]
        simp only [Option.bind_some]
        rw [if_pos (by omega), if_pos (by omega), rdn, code_r' _ (get_lt hl _) k (by omega)]
        simp only [Option.bind_some]
        by_cases c : cd (l.getD (i + 1) 0) > cd (l.getD i 0)
        · rw [if_pos c, if_pos (by omega)]
        · rw [if_neg c, if_neg (by omega)]
          exact hK k (by omega)
      · rw [if_neg (by omega), falls_one (by rw [List.length_drop]; omega)]
  exact key l.length 0 (by omega)

theorem ScoreOrders : ∀ (l0 : (List Nat)), (fun l => ∀ x ∈ l, (fun b => b < 18446744073709551616) x) l0 → ∃ k, imprimaturlaw01_ScoreOrders.f k l0 = some true := by
  intro l hl
  by_cases h : (l.length : Int) > 100
  · exact ⟨0, by unfold imprimaturlaw01_ScoreOrders.f; rw [if_pos h, known]; rfl⟩
  · have hl' : ∀ x ∈ l, x < 18446744073709551616 := hl
    obtain ⟨K1, h1⟩ := ref_order l hl' (by omega)
    obtain ⟨K2, h2⟩ := same_ints (ints (ordOf l)) (by rw [ints_len]; unfold ordOf; rw [Stb.length_isort, List.length_range]; omega)
    obtain ⟨K3, h3⟩ := falls_p l hl' (by omega)
    obtain ⟨K4, h4⟩ := falls_r l hl' (by omega)
    dsimp only at h1 h2 h3 h4
    refine ⟨K1 + K2 + K3 + K4, ?_⟩
    unfold imprimaturlaw01_ScoreOrders.f score_Order.f
    rw [if_neg h, if_pos (by omega)]
    simp only [Option.bind_some]
    rw [h1 _ (by omega)]
    simp only [Option.bind_some]
    rw [show (List.map (fun i : Nat => (i : Int)) (ordOf l)) = ints (ordOf l) from rfl, h2 _ (by omega)]
    simp only [Option.bind_some, if_true]
    rw [h3 _ (by omega), h4 _ (by omega)]
    simp [known]
end Go.Proofs.Ytoepfkmeglnnaaa.Pure
