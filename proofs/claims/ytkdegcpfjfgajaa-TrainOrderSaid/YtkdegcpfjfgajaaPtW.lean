/- How often pairs stand in words, and their weights: plain. No condition. -/
import Derived.Test.YtkdegcpfjfgajaaMgW
namespace Go.Proofs.Ytkdegcpfjfgajaa.Pt
open Go.Proofs.Ytkdegcpfjfgajaa.Mg
set_option linter.unusedVariables false
set_option linter.unusedSimpArgs false
abbrev Cnt := Nat → Int × Int → Int
/-- How often a pair stands in a word's parts. -/
def cp : List Int → Int × Int → Int
  | a :: b :: t, k => (if (a, b) = k then 1 else 0) + cp (b :: t) k
  | _, _ => 0
theorem cp_nil (k : Int × Int) : cp [] k = 0 := rfl
theorem cp_one (a : Int) (k : Int × Int) : cp [a] k = 0 := rfl
theorem cp_two (a b : Int) (t : List Int) (k : Int × Int) : cp (a :: b :: t) k = (if (a, b) = k then 1 else 0) + cp (b :: t) k := rfl
theorem cp_nonneg : ∀ (p : List Int) (k : Int × Int), 0 ≤ cp p k
  | [], _ => Int.le_refl _
  | [_], _ => Int.le_refl _
  | a :: b :: t, k => by
    have := cp_nonneg (b :: t) k
    rw [cp_two]
    split <;> omega
theorem cp_le : ∀ (p : List Int) (k : Int × Int), cp p k ≤ p.length
  | [], _ => by simp [cp]
  | [_], _ => by simp [cp]
  | a :: b :: t, k => by
    have := cp_le (b :: t) k
    rw [cp_two]
    simp only [List.length_cons] at this ⊢
    split <;> omega
/-- One pair more. -/
theorem cp_take : ∀ (p : List Int) (j : Nat) (k : Int × Int), 1 ≤ j → j < p.length → cp (p.take (j + 1)) k = cp (p.take j) k + (if (p.getD (j - 1) 0, p.getD j 0) = k then 1 else 0)
  | [], j, _, _, h => by simp at h
  | [_], j, _, h1, h2 => by simp at h2; omega
  | a :: b :: t, 1, k, _, _ => by
    simp only [List.take_succ_cons, List.take_zero, cp_two, cp_one, Nat.sub_self, List.getD_cons_zero, List.getD_cons_succ]
    omega
  | a :: b :: t, j + 2, k, _, h => by
    have ih := cp_take (b :: t) (j + 1) k (by omega) (by simp only [List.length_cons] at h ⊢; omega)
    simp only [List.take_succ_cons] at ih
    simp only [List.take_succ_cons, cp_two]
    rw [ih]
    have e : (a :: b :: t).getD (j + 2 - 1) 0 = (b :: t).getD (j + 1 - 1) 0 := rfl
    have e2 : (a :: b :: t).getD (j + 2) 0 = (b :: t).getD (j + 1) 0 := rfl
    rw [e, e2]
    omega
/-- A pair's weight, words from i on. -/
def ws : List Int → Nat → Cnt → Int × Int → Int
  | [], _, _, _ => 0
  | n :: t, i, c, k => n * c i k + ws t (i + 1) c k
def wt (ns : List Int) (c : Cnt) (k : Int × Int) : Option Int := if ws ns 0 c k = 0 then none else some (ws ns 0 c k)
def inn (ns : List Int) (c : Cnt) (k : Int × Int) : Int → Option Int := fun w => if 0 ≤ w ∧ w < (ns.length : Int) ∧ c w.toNat k ≠ 0 then some (c w.toNat k) else none
def addc (c : Cnt) (w : Nat) (k0 : Int × Int) (t : Int) : Cnt := fun i k => if i = w ∧ k = k0 then c i k + t else c i k
theorem addc_same (c : Cnt) (w : Nat) (k0 : Int × Int) (t : Int) : addc c w k0 t w k0 = c w k0 + t := if_pos ⟨rfl, rfl⟩
theorem addc_other (c : Cnt) (w : Nat) {k0 k : Int × Int} (t : Int) (i : Nat) (h : k ≠ k0) : addc c w k0 t i k = c i k := if_neg (fun e => h e.2)
theorem addc_row (c : Cnt) {w i : Nat} (k0 k : Int × Int) (t : Int) (h : i ≠ w) : addc c w k0 t i k = c i k := if_neg (fun e => h e.1)
theorem ws_congr {c c' : Cnt} {k : Int × Int} : ∀ (ns : List Int) (i : Nat), (∀ j, i ≤ j → j < i + ns.length → c j k = c' j k) → ws ns i c k = ws ns i c' k
  | [], _, _ => rfl
  | n :: t, i, h => by
    rw [ws, ws, h i (Nat.le_refl _) (by simp), ws_congr t (i + 1) (fun j h1 h2 => h j (by omega) (by simp only [List.length_cons]; omega))]
theorem ws_add (c : Cnt) (w : Nat) (k0 : Int × Int) (t : Int) : ∀ (ns : List Int) (i : Nat), i ≤ w → w < i + ns.length → ws ns i (addc c w k0 t) k0 = ws ns i c k0 + t * ns.getD (w - i) 0
  | [], i, h1, h2 => by simp at h2; omega
  | n :: l, i, h1, h2 => by
    by_cases e : i = w
    · subst e
      rw [ws, ws, addc_same, ws_congr (c := addc c i k0 t) (c' := c) l (i + 1) (fun j h3 _ => addc_row c k0 k0 t (by omega))]
      simp only [Nat.sub_self, List.getD_cons_zero]
      rw [Int.mul_add, Int.mul_comm n t]
      omega
    · have ih := ws_add c w k0 t l (i + 1) (by omega) (by simp only [List.length_cons] at h2; omega)
      rw [ws, ws, ih, addc_row c k0 k0 t e]
      have e2 : w - i = (w - (i + 1)) + 1 := by omega
      rw [e2, List.getD_cons_succ]
      omega
theorem ws_other (c : Cnt) (w : Nat) {k0 k : Int × Int} (t : Int) (h : k ≠ k0) (ns : List Int) (i : Nat) : ws ns i (addc c w k0 t) k = ws ns i c k := ws_congr ns i (fun j _ _ => addc_other c w t j h)
theorem ws_nonneg {c : Cnt} {k : Int × Int} : ∀ (ns : List Int) (i : Nat), (∀ n ∈ ns, (1 : Int) ≤ n) → (∀ j, 0 ≤ c j k) → 0 ≤ ws ns i c k
  | [], _, _, _ => Int.le_refl _
  | n :: t, i, hn, hc => by
    have h1 := ws_nonneg t (i + 1) (fun m hm => hn m (List.mem_cons_of_mem _ hm)) hc
    have h2 := Int.mul_nonneg (show (0 : Int) ≤ n by have := hn n (by simp); omega) (hc i)
    rw [ws]
    omega
theorem ws_zero {c : Cnt} {k : Int × Int} : ∀ (ns : List Int) (i : Nat), (∀ n ∈ ns, (1 : Int) ≤ n) → (∀ j, 0 ≤ c j k) → ws ns i c k = 0 → ∀ j, i ≤ j → j < i + ns.length → c j k = 0
  | [], i, _, _, _, j, h1, h2 => by simp at h2; omega
  | n :: t, i, hn, hc, h, j, h1, h2 => by
    have a1 := ws_nonneg t (i + 1) (fun m hm => hn m (List.mem_cons_of_mem _ hm)) hc
    have hn1 : (1 : Int) ≤ n := hn n (by simp)
    have a2 := Int.mul_nonneg (show (0 : Int) ≤ n by omega) (hc i)
    rw [ws] at h
    have a3 : n * c i k = 0 := by omega
    have a4 : c i k = 0 := by
      rcases Int.mul_eq_zero.1 a3 with h | h
      · omega
      · exact h
    by_cases e : j = i
    · rw [e]; exact a4
    · exact ws_zero t (i + 1) (fun m hm => hn m (List.mem_cons_of_mem _ hm)) hc (by omega) j (by omega) (by simp only [List.length_cons] at h2; omega)
/-- Counts that fit. -/
structure OkC (ns : List Int) (c : Cnt) : Prop where
  n : ∀ n ∈ ns, (1 : Int) ≤ n ∧ n ≤ 4294967296
  w : ∀ k, ws ns 0 c k ≤ 1152921504606846976
  c : ∀ j k, 0 ≤ c j k ∧ c j k ≤ 1152921504606846976
theorem OkC.s0 {ns : List Int} {c : Cnt} (h : OkC ns c) (k : Int × Int) : 0 ≤ ws ns 0 c k := ws_nonneg ns 0 (fun n hn => (h.n n hn).1) (fun j => (h.c j k).1)
theorem wt_getD (ns : List Int) (c : Cnt) (k : Int × Int) : (wt ns c k).getD 0 = ws ns 0 c k := by
  unfold wt
  split
  · rename_i h; rw [h]; rfl
  · rfl
theorem wt_add {ns : List Int} {c : Cnt} {w : Nat} (hw : w < ns.length) (k0 : Int × Int) (t : Int) :
    wt ns (addc c w k0 t) = upd (wt ns c) k0 (if ws ns 0 c k0 + t * ns.getD w 0 = 0 then none else some (ws ns 0 c k0 + t * ns.getD w 0)) := by
  funext k
  by_cases e : k = k0
  · subst e
    rw [upd_same, wt, ws_add c w k t ns 0 (Nat.zero_le _) (by omega), Nat.sub_zero]
  · rw [upd_other _ _ e, wt, wt, ws_other c w t e]
theorem inn_same {ns : List Int} {c : Cnt} {w : Nat} (hw : w < ns.length) (k0 : Int × Int) (t : Int) :
    inn ns (addc c w k0 t) k0 = upd (inn ns c k0) (w : Int) (if c w k0 + t = 0 then none else some (c w k0 + t)) := by
  funext x
  by_cases e : x = (w : Int)
  · subst e
    rw [upd_same, inn, Int.toNat_natCast, addc_same]
    by_cases h : c w k0 + t = 0
    · rw [if_pos h, if_neg (fun a => a.2.2 h)]
    · rw [if_neg h, if_pos ⟨by omega, by omega, h⟩]
  · rw [upd_other _ _ e, inn, inn]
    by_cases h : 0 ≤ x
    · rw [addc_row c k0 k0 t (by omega)]
    · rw [if_neg (fun a => h a.1), if_neg (fun a => h a.1)]
theorem inn_other {ns : List Int} {c : Cnt} (w : Nat) {k0 k : Int × Int} (t : Int) (h : k ≠ k0) : inn ns (addc c w k0 t) k = inn ns c k := by
  funext x
  rw [inn, inn, addc_other c w t _ h]
theorem inn_none {ns : List Int} {c : Cnt} (h : OkC ns c) {k : Int × Int} (hw : wt ns c k = none) : inn ns c k = fun _ => none := by
  have h0 : ws ns 0 c k = 0 := by
    unfold wt at hw
    split at hw
    · assumption
    · cases hw
  funext x
  rw [inn, if_neg]
  rintro ⟨h1, h2, h3⟩
  exact h3 (ws_zero ns 0 (fun n hn => (h.n n hn).1) (fun j => (h.c j k).1) h0 x.toNat (Nat.zero_le _) (by omega))
theorem inn_getD {ns : List Int} {c : Cnt} {w : Nat} (hw : w < ns.length) (k : Int × Int) : (inn ns c k (w : Int)).getD 0 = c w k := by
  rw [inn, Int.toNat_natCast]
  by_cases h : c w k = 0
  · rw [if_neg (fun a => a.2.2 h), h]; rfl
  · rw [if_pos ⟨by omega, by omega, h⟩]; rfl
end Go.Proofs.Ytkdegcpfjfgajaa.Pt
