/- Values, plain: their bytes, what is right, how deep, how many. -/
import Derived.Test.YtgijcafgnonjjaaPr
namespace Go.Proofs.Ytgijcafgnonjjaa.Pc
open Go.RowKit Go.Proofs.YtgijcafgnonjjaaW.PrintWords Go.Proofs.Ytgijcafgnonjjaa.Q Go.Proofs.Ytgijcafgnonjjaa.X
set_option linter.unusedVariables false
mutual
def bytesOf : S26 → List Int
  | ⟨k, n, b, l⟩ => k :: (if k = 1 then enc n else if k = 2 then enc (b.length : Int) ++ b else enc (l.length : Int) ++ bytesL l)
def bytesL : List S26 → List Int
  | [] => []
  | x :: xs => bytesOf x ++ bytesL xs
end
mutual
def right : S26 → Bool
  | ⟨k, n, b, l⟩ => (decide (k = 1) && (b.isEmpty && l.isEmpty)) || (decide (k = 2) && (decide (n = 0) && l.isEmpty)) || (decide (k = 3) && (decide (n = 0) && b.isEmpty) && rightL l)
def rightL : List S26 → Bool
  | [] => true
  | x :: xs => right x && rightL xs
end
mutual
def depth : S26 → Int
  | ⟨_, _, _, l⟩ => depthL l + 1
def depthL : List S26 → Int
  | [] => 0
  | x :: xs => max (depth x) (depthL xs)
end
mutual
def count : S26 → Int
  | ⟨_, _, _, l⟩ => countL l + 1
def countL : List S26 → Int
  | [] => 0
  | x :: xs => count x + countL xs
end
mutual
def each : S26 → Int
  | ⟨_, _, b, l⟩ => max (b.length : Int) (eachL l)
def eachL : List S26 → Int
  | [] => 0
  | x :: xs => max (each x) (eachL xs)
end
theorem bytesL_append : ∀ (xs ys : List S26), bytesL (xs ++ ys) = bytesL xs ++ bytesL ys
  | [], ys => by simp [bytesL]
  | x :: xs, ys => by simp [bytesL, bytesL_append xs ys]
theorem rightL_append : ∀ (xs ys : List S26), rightL (xs ++ ys) = (rightL xs && rightL ys)
  | [], ys => by simp [rightL]
  | x :: xs, ys => by simp [rightL, rightL_append xs ys, Bool.and_assoc]
theorem countL_append : ∀ (xs ys : List S26), countL (xs ++ ys) = countL xs + countL ys
  | [], ys => by simp [countL]
  | x :: xs, ys => by simp [countL, countL_append xs ys]; omega
theorem depthL_append : ∀ (xs ys : List S26), depthL (xs ++ ys) = max (depthL xs) (depthL ys)
  | [], ys => by
    have : ∀ ys : List S26, 0 ≤ depthL ys := by
      intro ys
      induction ys with
      | nil => simp [depthL]
      | cons x xs ih => simp only [depthL]; omega
    simp only [List.nil_append, depthL]
    have := this ys
    omega
  | x :: xs, ys => by simp only [List.cons_append, depthL, depthL_append xs ys]; omega
theorem eachL_append : ∀ (xs ys : List S26), eachL (xs ++ ys) = max (eachL xs) (eachL ys)
  | [], ys => by
    have : ∀ ys : List S26, 0 ≤ eachL ys := by
      intro ys
      induction ys with
      | nil => simp [eachL]
      | cons x xs ih => simp only [eachL]; omega
    simp only [List.nil_append, eachL]
    have := this ys
    omega
  | x :: xs, ys => by simp only [List.cons_append, eachL, eachL_append xs ys]; omega
def vle : List Int → Int
  | [] => 0
  | x :: xs => vle xs * 256 + x
theorem vle_le : ∀ (d : Nat) (ls : List Int), ls.length ≤ d → (∀ x ∈ ls, 0 ≤ x ∧ x ≤ 255) → (∀ h : ls ≠ [], ls.getLast h ≠ 0) → le d (vle ls) = ls ∧ (ls ≠ [] → 0 < vle ls) ∧ 0 ≤ vle ls
  | d, [], _, _, _ => ⟨by simp [vle, le_zero], fun h => absurd rfl h, by simp [vle]⟩
  | 0, x :: xs, h, _, _ => by simp at h
  | d + 1, x :: xs, hl, hb, ht => by
    have hx := hb x (by simp)
    obtain ⟨h1, h2, h3⟩ := vle_le d xs (by simp only [List.length_cons] at hl; omega) (fun y hy => hb y (by simp [hy])) (fun h => by have := ht (by simp); rwa [List.getLast_cons h] at this)
    have hp : 0 < vle xs * 256 + x := by
      by_cases c : xs = []
      · subst c
        have := ht (by simp)
        simp only [List.getLast_singleton] at this
        simp only [vle]
        omega
      · have := h2 c
        omega
    refine ⟨?_, fun _ => hp, by simp only [vle]; omega⟩
    rw [show vle (x :: xs) = vle xs * 256 + x from rfl]
    simp only [le]
    rw [if_pos (show vle xs * 256 + x > 0 from hp), show (vle xs * 256 + x) % 256 = x by omega, show (vle xs * 256 + x) / 256 = vle xs by omega, h1]
theorem fold_vle : ∀ (ls : List Int), ls.reverse.foldl (fun m x => m * 256 + x) 0 = vle ls
  | [] => rfl
  | x :: xs => by simp only [List.reverse_cons, List.foldl_append, fold_vle xs, List.foldl_cons, List.foldl_nil, vle]
theorem drop_cons (l : List Int) (a : Int) (h0 : 0 ≤ a) (h1 : a < l.length) : l.drop a.toNat = rd l a :: l.drop (a + 1).toNat := by
  rw [List.drop_eq_getElem_cons (show a.toNat < l.length by omega)]
  unfold rd
  rw [List.getD_eq_getElem?_getD, List.getElem?_eq_getElem (show a.toNat < l.length by omega), show (a + 1).toNat = a.toNat + 1 by omega]
  rfl
theorem be_take : ∀ (d : Nat) (l : List Int) (a n : Int), 0 ≤ a → a + d ≤ l.length → be l d a n = ((l.drop a.toNat).take d).foldl (fun m x => m * 256 + x) n
  | 0, l, a, n, _, _ => by simp [be]
  | d + 1, l, a, n, h0, h1 => by
    rw [drop_cons l a h0 (by omega)]
    simp only [be, List.take_succ_cons, List.foldl_cons]
    exact be_take d l (a + 1) _ (by omega) (by omega)
theorem byte_mem (l : List Int) (hby : ∀ i, 0 ≤ rd l i ∧ rd l i ≤ 255) (x : Int) (hx : x ∈ l) : 0 ≤ x ∧ x ≤ 255 := by
  obtain ⟨j, hj, rfl⟩ := List.getElem_of_mem hx
  have := hby (j : Int)
  unfold rd at this
  rwa [List.getD_eq_getElem?_getD, Int.toNat_natCast, List.getElem?_eq_getElem hj] at this
/-- A count that is read stands there as it is written. -/
theorem cnt_sound (l : List Int) (hby : ∀ i, 0 ≤ rd l i ∧ rd l i ≤ 255) (a : Int) (h0 : 0 ≤ a) (h1 : a ≤ l.length) (n a' : Int) (h : cnt l a = .inl (n, a')) : l.drop a.toNat = enc n ++ l.drop a'.toNat := by
  have hok := cnt_ok l hby a h1 n a' h
  rw [cnt_eq l hby a h0 h1] at h
  have hb := hby a
  by_cases c1 : a = l.length
  · rw [if_pos c1] at h; cases h
  rw [if_neg c1] at h
  by_cases c2 : rd l a < 192
  · rw [if_pos c2] at h
    injection h with h
    injection h with e1 e2
    subst e1 e2
    rw [drop_cons l a h0 (by omega)]
    unfold enc
    rw [if_pos c2]
    rfl
  rw [if_neg c2] at h
  by_cases c3 : 199 < rd l a
  · rw [if_pos c3] at h; cases h
  rw [if_neg c3] at h
  by_cases c4 : a + 1 = l.length
  · rw [if_pos c4] at h; cases h
  rw [if_neg c4] at h
  by_cases c5 : rd l (a + 1) = 0
  · rw [if_pos c5] at h; cases h
  rw [if_neg c5] at h
  by_cases c6 : rd l a = 192 ∧ rd l (a + 1) < 192
  · rw [if_pos c6] at h; cases h
  rw [if_neg c6] at h
  by_cases c7 : a + 1 + (rd l a - 191) ≤ l.length
  rotate_left 1
  · rw [if_neg c7] at h; cases h
  rw [if_pos c7] at h
  injection h with h
  injection h with e1 e2
  obtain ⟨d, hd⟩ : ∃ d : Nat, rd l a - 191 = (d : Int) := ⟨(rd l a - 191).toNat, by omega⟩
  rw [hd] at e1 e2 c7
  rw [Int.toNat_natCast, be_take d l (a + 1) 0 (by omega) c7] at e1
  have hdl : ((l.drop (a + 1).toNat).take d).length = d := by rw [List.length_take, List.length_drop]; omega
  have hcons := drop_cons l (a + 1) (by omega) (by omega)
  obtain ⟨d', rfl⟩ : ∃ d', d = d' + 1 := ⟨d - 1, by omega⟩
  have hds : (l.drop (a + 1).toNat).take (d' + 1) = rd l (a + 1) :: (l.drop (a + 1 + 1).toNat).take d' := by rw [hcons, List.take_succ_cons]
  have hbs : ∀ x ∈ (l.drop (a + 1).toNat).take (d' + 1), 0 ≤ x ∧ x ≤ 255 := fun x hx => byte_mem l hby x (List.mem_of_mem_drop (List.mem_of_mem_take hx))
  generalize hg : (l.drop (a + 1).toNat).take (d' + 1) = ds at *
  have hv := vle_le 8 ds.reverse (by rw [List.length_reverse, hdl]; omega) (fun x hx => hbs x (List.mem_reverse.1 hx)) (fun hne => by
    rw [List.getLast_reverse]
    simp only [hds, List.head_cons]
    exact c5)
  have hf := fold_vle ds.reverse
  rw [List.reverse_reverse, e1] at hf
  rw [← hf] at hv
  have hb1 := hby (a + 1)
  have hn192 : ¬ n < 192 := by
    by_cases c8 : d' = 0
    · subst c8
      rw [hds] at e1
      simp only [List.take_zero, List.foldl_cons, List.foldl_nil] at e1
      omega
    · have hlen : (le 8 n).length = d' + 1 := by rw [hv.1, List.length_reverse, hdl]
      intro hlt
      have : (le 8 n).length ≤ 1 := by
        simp only [le]
        by_cases c : n > 0
        · rw [if_pos c, show n / 256 = 0 by omega]
          simp
        · rw [if_neg c]; simp
      omega
  unfold enc
  rw [if_neg hn192, hv.1, List.reverse_reverse, List.length_reverse, hdl, drop_cons l a h0 (by omega), List.cons_append, ← e2]
  have hsplit : l.drop (a + 1).toNat = ds ++ l.drop (a + 1 + ((d' + 1 : Nat) : Int)).toNat := by
    have := (List.take_append_drop (d' + 1) (l.drop (a + 1).toNat)).symm
    rw [hg, List.drop_drop] at this
    rw [this, show (a + 1).toNat + (d' + 1) = (a + 1 + ((d' + 1 : Nat) : Int)).toNat by omega]
  rw [← hsplit, show rd l a = 191 + ((d' + 1 : Nat) : Int) by omega]
theorem mx_val (E : Int) : mx 0 E = if 0 < E then E else 0 := rfl
theorem byts_sound (l : List Int) (hby : ∀ i, 0 ≤ rd l i ∧ rd l i ≤ 255) (a E : Int) (h0 : 0 ≤ a) (h1 : a ≤ l.length) (hE : E ≤ 9223372036854775807) (bs : List Int) (a' : Int) (h : byts l a E = .inl (bs, a')) : l.drop a.toNat = enc (bs.length : Int) ++ bs ++ l.drop a'.toNat ∧ (bs.length : Int) ≤ mx 0 E := by
  unfold byts at h
  rcases hc : cnt l a with ⟨n, a2⟩ | e
  · rw [hc] at h
    have hok := cnt_ok l hby a h1 n a2 hc
    have hs := cnt_sound l hby a h0 h1 n a2 hc
    have hm : 0 ≤ mx 0 E ∧ mx 0 E ≤ 9223372036854775807 := by rw [mx_val]; by_cases c : 0 < E <;> simp only [c, if_true, if_false] <;> omega
    replace h : (if n > IntKind.u64.wrap (mx 0 E) then .inr (a, 2) else if n > (l.length : Int) - a2 then .inr (a2, 20) else .inl ((l.take (a2 + n).toNat).drop a2.toNat, a2 + n) : (List Int × Int) ⊕ (Int × Int)) = .inl (bs, a') := h
    rw [wu64 hm.1 (by omega)] at h
    by_cases c1 : n > mx 0 E
    · rw [if_pos c1] at h; cases h
    rw [if_neg c1] at h
    by_cases c2 : n > (l.length : Int) - a2
    · rw [if_pos c2] at h; cases h
    rw [if_neg c2] at h
    injection h with h
    injection h with e1 e2
    have hlen : (bs.length : Int) = n := by rw [← e1, List.length_drop, List.length_take]; omega
    rw [hlen]
    refine ⟨?_, by omega⟩
    rw [hs, List.append_assoc, ← e1, ← e2]
    congr 1
    have := (List.take_append_drop n.toNat (l.drop a2.toNat)).symm
    rw [List.drop_drop] at this
    rw [this, List.drop_take, show (a2 + n).toNat - a2.toNat = n.toNat by omega, show a2.toNat + n.toNat = (a2 + n).toNat by omega]
  · rw [hc] at h; cases h
theorem depthL_nonneg : ∀ xs : List S26, 0 ≤ depthL xs
  | [] => by simp [depthL]
  | x :: xs => by have := depthL_nonneg xs; simp only [depthL]; omega
theorem val_sound (l : List Int) (hby : ∀ i, 0 ≤ rd l i ∧ rd l i ≤ 255) (hl : l.length ≤ 1000000000000) (D M E : Int) (hE : E ≤ 9223372036854775807) : ∀ k : Nat,
    (∀ (a m deep : Int) (x : S26) (a' m' : Int), 0 ≤ a → a ≤ l.length → 1 ≤ deep → deep ≤ a + 1 → val k l D M E deep a m = some (.inl (x, a', m')) →
      right x = true ∧ l.drop a.toNat = bytesOf x ++ l.drop a'.toNat ∧ m' = m + count x ∧ deep + depth x ≤ D + 1 ∧ m' ≤ M ∧ each x ≤ mx 0 E ∧ a + 2 ≤ a' ∧ a' ≤ l.length) ∧
    (∀ (n a m deep : Int) (acc : List S26) (x : S26) (a' m' : Int), 0 ≤ a → a ≤ l.length → 1 ≤ deep → deep ≤ a → deep ≤ D → m ≤ M → 0 ≤ n → vals k l D M E deep n a m acc = some (.inl (x, a', m')) →
      ∃ xs, x = ⟨3, 0, [], acc ++ xs⟩ ∧ (xs.length : Int) = n ∧ rightL xs = true ∧ l.drop a.toNat = bytesL xs ++ l.drop a'.toNat ∧ m' = m + countL xs ∧ deep + depthL xs ≤ D ∧ m' ≤ M ∧ eachL xs ≤ mx 0 E ∧ a ≤ a' ∧ a' ≤ l.length) := by
  have hmx : 0 ≤ mx 0 E := by rw [mx_val]; by_cases c : 0 < E <;> simp only [c, if_true, if_false] <;> omega
  intro k
  induction k with
  | zero => exact ⟨fun _ _ _ _ _ _ _ _ _ _ h => by simp [val] at h, fun _ _ _ _ _ _ _ _ _ _ _ _ _ _ _ h => by simp [vals] at h⟩
  | succ k ih =>
  obtain ⟨ih0, ih1⟩ := ih
  refine ⟨?_, ?_⟩
  · intro a m deep x a' m' h0 h1 d0 d1 h
    simp only [val] at h
    by_cases c1 : a = l.length
    · rw [if_pos c1] at h; cases h
    rw [if_neg c1] at h
    by_cases c2 : deep > D
    · rw [if_pos c2] at h; cases h
    rw [if_neg c2] at h
    by_cases c3 : m ≥ M
    · rw [if_pos c3] at h; cases h
    rw [if_neg c3] at h
    have hdc := drop_cons l a h0 (by omega)
    by_cases e1 : rd l a = 1
    · rw [if_pos e1] at h
      rcases hc : cnt l (a + 1) with ⟨n, a2⟩ | e
      · rw [hc] at h
        have hok := cnt_ok l hby (a + 1) (by omega) n a2 hc
        have hs := cnt_sound l hby (a + 1) (by omega) (by omega) n a2 hc
        simp only [Option.some.injEq, Sum.inl.injEq, Prod.mk.injEq] at h
        obtain ⟨rfl, rfl, rfl⟩ := h
        refine ⟨by simp [right], ?_, by simp [count, countL], by simp only [depth, depthL]; omega, by omega, by simp only [each, eachL, List.length_nil]; omega, by omega, by omega⟩
        rw [hdc, hs, e1]
        simp [bytesOf]
      · rw [hc] at h; cases h
    rw [if_neg e1] at h
    by_cases e2 : rd l a = 2
    · rw [if_pos e2] at h
      rcases hc : byts l (a + 1) E with ⟨bs, a2⟩ | e
      · rw [hc] at h
        have hok := byts_ok l hby (a + 1) E (by omega) bs a2 hc
        have hs := byts_sound l hby (a + 1) E (by omega) (by omega) hE bs a2 hc
        simp only [Option.some.injEq, Sum.inl.injEq, Prod.mk.injEq] at h
        obtain ⟨rfl, rfl, rfl⟩ := h
        refine ⟨by simp [right], ?_, by simp [count, countL], by simp only [depth, depthL]; omega, by omega, by simp only [each, eachL]; omega, by omega, by omega⟩
        rw [hdc, hs.1, e2]
        simp [bytesOf]
      · rw [hc] at h; cases h
    rw [if_neg e2] at h
    by_cases e3 : rd l a = 3
    · rw [if_pos e3] at h
      rcases hc : cnt l (a + 1) with ⟨n, a2⟩ | e
      · rw [hc] at h
        have hok := cnt_ok l hby (a + 1) (by omega) n a2 hc
        have hs := cnt_sound l hby (a + 1) (by omega) (by omega) n a2 hc
        obtain ⟨xs, rfl, hn, hr, hb, hm, hd, hM, he, q1, q2⟩ := ih1 n a2 (m + 1) deep [] x a' m' (by omega) (by omega) d0 (by omega) (by omega) (by omega) (by omega) h
        refine ⟨by simpa [right] using hr, ?_, by simp only [List.nil_append, count]; omega, by simp only [List.nil_append, depth]; omega, hM, by simp only [List.nil_append, each, List.length_nil]; omega, by omega, q2⟩
        rw [hdc, hs, hb, e3, ← hn]
        simp [bytesOf]
      · rw [hc] at h; cases h
    · rw [if_neg e3] at h; cases h
  · intro n a m deep acc x a' m' h0 h1 d0 d1 dD hmM hn0 h
    simp only [vals] at h
    by_cases c1 : n > 0
    · rw [if_pos c1] at h
      obtain ⟨r, hv, h⟩ := Option.bind_eq_some_iff.mp h
      rcases r with ⟨y, a2, m2⟩ | e
      · replace h : (if acc.length < 2199023255552 then vals k l D M E deep (n - 1) a2 m2 (acc ++ [y]) else none) = some (.inl (x, a', m')) := h
        by_cases c2 : acc.length < 2199023255552
        rotate_left 1
        · rw [if_neg c2] at h; cases h
        rw [if_pos c2] at h
        rw [w64 (x := deep + 1) (by omega) (by omega)] at hv
        obtain ⟨r1, r2, r3, r4, r5, r6, r7, r8⟩ := ih0 a m (deep + 1) y a2 m2 h0 h1 (by omega) (by omega) hv
        obtain ⟨xs, rfl, hn, hr, hb, hm, hd, hM, he, q1, q2⟩ := ih1 (n - 1) a2 m2 deep (acc ++ [y]) x a' m' (by omega) r8 d0 (by omega) dD r5 (by omega) h
        refine ⟨y :: xs, by rw [List.append_assoc, List.singleton_append], by simp only [List.length_cons]; omega, by simp [rightL, r1, hr], ?_, by simp only [countL]; omega, by simp only [depthL]; omega, hM, by simp only [eachL]; omega, by omega, q2⟩
        rw [r2, hb]
        simp [bytesL]
      · cases h
    · rw [if_neg c1] at h
      simp only [Option.some.injEq, Sum.inl.injEq, Prod.mk.injEq] at h
      obtain ⟨rfl, rfl, rfl⟩ := h
      exact ⟨[], by simp, by simp only [List.length_nil]; omega, by simp [rightL], by simp [bytesL], by simp [countL], by simp only [depthL]; omega, hmM, by simp only [eachL]; omega, by omega, h1⟩
theorem enc_len (n : Int) : 1 ≤ (enc n).length := by
  unfold enc
  by_cases c : n < 192
  · rw [if_pos c]; simp
  · rw [if_neg c]; simp
mutual
theorem bytes_count : ∀ x : S26, right x = true → 2 * count x ≤ (bytesOf x).length
  | ⟨k, n, b, l⟩, h => by
    simp only [bytesOf, count, List.length_cons]
    simp only [right, Bool.or_eq_true, Bool.and_eq_true, decide_eq_true_eq, List.isEmpty_iff] at h
    rcases h with (⟨rfl, _, rfl⟩ | ⟨rfl, _, rfl⟩) | ⟨⟨rfl, _⟩, hl⟩
    · have := enc_len n
      simp only [if_true, countL]
      omega
    · have := enc_len (b.length : Int)
      rw [if_neg (by omega), if_pos rfl]
      simp only [countL, List.length_append]
      omega
    · have h1 := enc_len (l.length : Int)
      have h2 := bytes_countL l hl
      rw [if_neg (by omega), if_neg (by omega)]
      simp only [List.length_append]
      omega
theorem bytes_countL : ∀ l : List S26, rightL l = true → 2 * countL l ≤ (bytesL l).length
  | [], _ => by simp [countL, bytesL]
  | x :: xs, h => by
    simp only [rightL, Bool.and_eq_true] at h
    have h1 := bytes_count x h.1
    have h2 := bytes_countL xs h.2
    simp only [countL, bytesL, List.length_append]
    omega
end
theorem cGo_err (l : List Int) (frm size : Int) : ∀ (d : Nat) (i a n p e : Int), cGo l frm size d i a n = .inr (p, e) → e ≠ 0
  | 0, i, a, n, p, e, h => by simp [cGo] at h
  | d + 1, i, a, n, p, e, h => by
    simp only [cGo] at h
    by_cases c1 : a = l.length
    · rw [if_pos c1] at h; injection h with h; injection h with _ h; omega
    rw [if_neg c1] at h
    by_cases c2 : i = 0 ∧ rd l a = 0
    · rw [if_pos c2] at h; injection h with h; injection h with _ h; omega
    rw [if_neg c2] at h
    by_cases c3 : size = 1 ∧ rd l a < 192
    · rw [if_pos c3] at h; injection h with h; injection h with _ h; omega
    rw [if_neg c3] at h
    exact cGo_err l frm size d _ _ _ p e h
theorem cnt_err (l : List Int) (a p e : Int) (h : cnt l a = .inr (p, e)) : e ≠ 0 := by
  unfold cnt at h
  by_cases c1 : a = l.length
  · rw [if_pos c1] at h; injection h with h; injection h with _ h; omega
  rw [if_neg c1] at h
  by_cases c2 : rd l a < 192
  · rw [if_pos c2] at h; cases h
  rw [if_neg c2] at h
  by_cases c3 : 199 < rd l a
  · rw [if_pos c3] at h; injection h with h; injection h with _ h; omega
  rw [if_neg c3] at h
  exact cGo_err l _ _ _ _ _ _ p e h
theorem byts_err (l : List Int) (a E p e : Int) (h : byts l a E = .inr (p, e)) : e ≠ 0 := by
  unfold byts at h
  rcases hc : cnt l a with ⟨n, a2⟩ | ⟨p2, e2⟩
  · rw [hc] at h
    replace h : (if n > IntKind.u64.wrap (mx 0 E) then .inr (a, 2) else if n > (l.length : Int) - a2 then .inr (a2, 20) else .inl ((l.take (a2 + n).toNat).drop a2.toNat, a2 + n) : (List Int × Int) ⊕ (Int × Int)) = .inr (p, e) := h
    by_cases c1 : n > IntKind.u64.wrap (mx 0 E)
    · rw [if_pos c1] at h; injection h with h; injection h with _ h; omega
    rw [if_neg c1] at h
    by_cases c2 : n > (l.length : Int) - a2
    · rw [if_pos c2] at h; injection h with h; injection h with _ h; omega
    rw [if_neg c2] at h
    cases h
  · rw [hc] at h
    replace h : (.inr (p2, e2) : (List Int × Int) ⊕ (Int × Int)) = .inr (p, e) := h
    injection h with h
    injection h with _ h
    subst h
    exact cnt_err l a p2 e2 hc
theorem val_err (l : List Int) (D M E : Int) : ∀ k : Nat, (∀ (a m deep p e : Int), val k l D M E deep a m = some (.inr (p, e)) → e ≠ 0) ∧ (∀ (n a m deep : Int) (acc : List S26) (p e : Int), vals k l D M E deep n a m acc = some (.inr (p, e)) → e ≠ 0)
  | 0 => ⟨fun _ _ _ _ _ h => by simp [val] at h, fun _ _ _ _ _ _ _ h => by simp [vals] at h⟩
  | k + 1 => by
    obtain ⟨i0, i1⟩ := val_err l D M E k
    refine ⟨?_, ?_⟩
    · intro a m deep p e h
      simp only [val] at h
      by_cases c1 : a = l.length
      · rw [if_pos c1] at h; injection h with h; injection h with h; injection h with _ h; omega
      rw [if_neg c1] at h
      by_cases c2 : deep > D
      · rw [if_pos c2] at h; injection h with h; injection h with h; injection h with _ h; omega
      rw [if_neg c2] at h
      by_cases c3 : m ≥ M
      · rw [if_pos c3] at h; injection h with h; injection h with h; injection h with _ h; omega
      rw [if_neg c3] at h
      by_cases e1 : rd l a = 1
      · rw [if_pos e1] at h
        rcases hc : cnt l (a + 1) with ⟨n, a2⟩ | ⟨p2, e2⟩
        · rw [hc] at h; cases h
        · rw [hc] at h
          simp only [Option.some.injEq, Sum.inr.injEq, Prod.mk.injEq] at h
          rw [← h.2]
          exact cnt_err l _ _ _ hc
      rw [if_neg e1] at h
      by_cases e2 : rd l a = 2
      · rw [if_pos e2] at h
        rcases hc : byts l (a + 1) E with ⟨n, a2⟩ | ⟨p2, e2⟩
        · rw [hc] at h; cases h
        · rw [hc] at h
          simp only [Option.some.injEq, Sum.inr.injEq, Prod.mk.injEq] at h
          rw [← h.2]
          exact byts_err l _ _ _ _ hc
      rw [if_neg e2] at h
      by_cases e3 : rd l a = 3
      · rw [if_pos e3] at h
        rcases hc : cnt l (a + 1) with ⟨n, a2⟩ | ⟨p2, e2⟩
        · rw [hc] at h
          exact i1 _ _ _ _ _ _ _ h
        · rw [hc] at h
          simp only [Option.some.injEq, Sum.inr.injEq, Prod.mk.injEq] at h
          rw [← h.2]
          exact cnt_err l _ _ _ hc
      · rw [if_neg e3] at h; injection h with h; injection h with h; injection h with _ h; omega
    · intro n a m deep acc p e h
      simp only [vals] at h
      by_cases c1 : n > 0
      · rw [if_pos c1] at h
        obtain ⟨r, hv, h⟩ := Option.bind_eq_some_iff.mp h
        rcases r with ⟨y, a2, m2⟩ | ⟨p2, e2⟩
        · replace h : (if acc.length < 2199023255552 then vals k l D M E deep (n - 1) a2 m2 (acc ++ [y]) else none) = some (.inr (p, e)) := h
          by_cases c2 : acc.length < 2199023255552
          · rw [if_pos c2] at h
            exact i1 _ _ _ _ _ _ _ h
          · rw [if_neg c2] at h; cases h
        · simp only [Option.some.injEq, Sum.inr.injEq, Prod.mk.injEq] at h
          rw [← h.2]
          exact i0 _ _ _ _ _ hv
      · rw [if_neg c1] at h; cases h
end Go.Proofs.Ytgijcafgnonjjaa.Pc
