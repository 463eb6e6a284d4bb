/- Writing, plain: a value that is built right is written as its bytes, or the first thing that is wrong is told; its bytes are read as it, and cut off they are not. -/
import Derived.Test.YtgijcafgnonjjaaPv
import Derived.Test.YtgijcafgnonjjaaXWrite
namespace Go.Proofs.Ytgijcafgnonjjaa.Pw
open Go.RowKit Go.Proofs.YtgijcafgnonjjaaW.PrintWords Go.Proofs.Ytgijcafgnonjjaa.Q Go.Proofs.Ytgijcafgnonjjaa.X Go.Proofs.Ytgijcafgnonjjaa.Pc
set_option linter.unusedVariables false
set_option linter.unusedSimpArgs false
theorem mx0 (E : Int) : 0 ≤ mx 0 E := by rw [mx_val]; by_cases c : 0 < E <;> simp only [c, if_true, if_false] <;> omega
mutual
theorem pos : ∀ x : S26, 1 ≤ count x ∧ 1 ≤ depth x ∧ depth x ≤ count x ∧ 0 ≤ each x
  | ⟨_, _, _, l⟩ => by
    have := posL l
    simp only [count, depth, each]
    omega
theorem posL : ∀ l : List S26, 0 ≤ countL l ∧ 0 ≤ depthL l ∧ depthL l ≤ countL l ∧ 0 ≤ eachL l ∧ (l.length : Int) ≤ countL l
  | [] => by simp [countL, depthL, eachL]
  | x :: xs => by
    have := pos x
    have := posL xs
    simp only [countL, depthL, eachL, List.length_cons]
    omega
end
mutual
/-- Numbers and bytes are of their kinds. -/
def fit : S26 → Prop
  | ⟨_, n, b, l⟩ => (0 ≤ n ∧ n ≤ 18446744073709551615) ∧ (∀ y ∈ b, 0 ≤ y ∧ y ≤ 255) ∧ fitL l
def fitL : List S26 → Prop
  | [] => True
  | x :: xs => fit x ∧ fitL xs
end
mutual
/-- How many bytes there are. -/
def bulk : S26 → Int
  | ⟨_, _, b, l⟩ => (b.length : Int) + 1 + bulkL l
def bulkL : List S26 → Int
  | [] => 0
  | x :: xs => bulk x + bulkL xs
end
mutual
theorem bulk_pos : ∀ x : S26, count x ≤ bulk x ∧ (x.f2.length : Int) < bulk x ∧ each x < bulk x
  | ⟨_, _, b, l⟩ => by
    have := bulk_posL l
    simp only [count, bulk, each]
    have := posL l
    omega
theorem bulk_posL : ∀ l : List S26, countL l ≤ bulkL l ∧ eachL l ≤ bulkL l
  | [] => by simp [countL, bulkL, eachL]
  | x :: xs => by
    have := bulk_pos x
    have := bulk_posL xs
    have := pos x
    have := posL xs
    simp only [countL, bulkL, eachL]
    omega
end
mutual
/-- The first thing that keeps a value from being written, in the order in which values begin. -/
def err (D M E : Int) : S26 → Int → Int → Option Int
  | ⟨_, _, b, l⟩, deep, m => if deep > D then some 23 else if m ≥ M then some 24 else if mx 0 E < (b.length : Int) then some 2 else errL D M E l (deep + 1) (m + 1)
def errL (D M E : Int) : List S26 → Int → Int → Option Int
  | [], _, _ => none
  | x :: xs, deep, m => match err D M E x deep m with
    | some e => some e
    | none => errL D M E xs deep (m + count x)
end
mutual
theorem err_none (D M E : Int) : ∀ (x : S26) (deep m : Int), err D M E x deep m = none ↔ (deep + depth x ≤ D + 1 ∧ m + count x ≤ M ∧ each x ≤ mx 0 E)
  | ⟨k, n, b, l⟩, deep, m => by
    have h := errL_none D M E l (deep + 1) (m + 1)
    have hp := posL l
    simp only [err, depth, count, each]
    by_cases c1 : deep > D
    · rw [if_pos c1]; simp only [reduceCtorEq, false_iff]; omega
    rw [if_neg c1]
    by_cases c2 : m ≥ M
    · rw [if_pos c2]; simp only [reduceCtorEq, false_iff]; omega
    rw [if_neg c2]
    by_cases c3 : mx 0 E < (b.length : Int)
    · rw [if_pos c3]; simp only [reduceCtorEq, false_iff]; omega
    rw [if_neg c3, h (by omega) (by omega)]
    omega
theorem errL_none (D M E : Int) : ∀ (l : List S26) (deep m : Int), deep ≤ D + 1 → m ≤ M → (errL D M E l deep m = none ↔ (deep + depthL l ≤ D + 1 ∧ m + countL l ≤ M ∧ eachL l ≤ mx 0 E))
  | [], deep, m, h1, h2 => by
    have := mx0 E
    simp only [errL, depthL, countL, eachL, true_iff]
    omega
  | x :: xs, deep, m, h1, h2 => by
    have h := err_none D M E x deep m
    have hp := pos x
    have hq := posL xs
    simp only [errL, depthL, countL, eachL]
    rcases e : err D M E x deep m with _ | e1
    · have h3 := h.1 e
      rw [errL_none D M E xs deep (m + count x) h1 (by omega)]
      omega
    · simp only [reduceCtorEq, false_iff]
      intro hc
      rw [h.2 (by omega)] at e
      cases e
end
theorem err_val (D M E : Int) : (∀ (x : S26) (deep m e : Int), err D M E x deep m = some e → e = 23 ∨ e = 24 ∨ e = 2) := by
  suffices H : ∀ s : Nat, (∀ (x : S26) (deep m e : Int), count x ≤ s → err D M E x deep m = some e → e = 23 ∨ e = 24 ∨ e = 2) ∧ (∀ (l : List S26) (deep m e : Int), countL l ≤ s → errL D M E l deep m = some e → e = 23 ∨ e = 24 ∨ e = 2) by
    intro x deep m e h
    have := pos x
    exact (H (count x).toNat).1 x deep m e (by omega) h
  intro s
  induction s with
  | zero =>
    refine ⟨fun x deep m e hx h => ?_, fun l deep m e hl h => ?_⟩
    · have := pos x; omega
    · cases l with
      | nil => simp [errL] at h
      | cons x xs => have := pos x; have := posL xs; simp only [countL] at hl; omega
  | succ s ih =>
    have H1 : ∀ (x : S26) (deep m e : Int), count x ≤ ((s + 1 : Nat) : Int) → err D M E x deep m = some e → e = 23 ∨ e = 24 ∨ e = 2 := by
      rintro ⟨k, n, b, l⟩ deep m e hx h
      simp only [err] at h
      simp only [count] at hx
      by_cases c1 : deep > D
      · rw [if_pos c1] at h; simp only [Option.some.injEq] at h; omega
      rw [if_neg c1] at h
      by_cases c2 : m ≥ M
      · rw [if_pos c2] at h; simp only [Option.some.injEq] at h; omega
      rw [if_neg c2] at h
      by_cases c3 : mx 0 E < (b.length : Int)
      · rw [if_pos c3] at h; simp only [Option.some.injEq] at h; omega
      rw [if_neg c3] at h
      exact ih.2 l _ _ e (by omega) h
    refine ⟨H1, fun l => ?_⟩
    induction l with
    | nil => intro deep m e hl h; simp [errL] at h
    | cons x xs ihl =>
      intro deep m e hl h
      have := pos x
      have := posL xs
      simp only [countL] at hl
      simp only [errL] at h
      rcases e1 : err D M E x deep m with _ | e2
      · rw [e1] at h
        exact ihl deep _ e (by omega) h
      · rw [e1] at h
        simp only [Option.some.injEq] at h
        exact H1 x deep m e (by omega) (by rw [e1, h])
theorem enc_le (n : Int) : ((enc n).length : Int) ≤ 9 := by
  unfold enc
  have := le_len 8 n
  by_cases c : n < 192
  · rw [if_pos c]; simp
  · rw [if_neg c]; simp only [List.length_cons, List.length_reverse]; omega
mutual
theorem bytes_le : ∀ x : S26, ((Pc.bytesOf x).length : Int) ≤ 10 * bulk x
  | ⟨k, n, b, l⟩ => by
    have h1 := enc_le n
    have h2 := enc_le (b.length : Int)
    have h3 := enc_le (l.length : Int)
    have h4 := bytes_leL l
    have h5 := bulk_posL l
    have h6 := posL l
    simp only [Pc.bytesOf, bulk, List.length_cons]
    by_cases c1 : k = 1
    · rw [if_pos c1]; omega
    rw [if_neg c1]
    by_cases c2 : k = 2
    · rw [if_pos c2]; simp only [List.length_append]; omega
    · rw [if_neg c2]; simp only [List.length_append]; omega
theorem bytes_leL : ∀ l : List S26, ((bytesL l).length : Int) ≤ 10 * bulkL l
  | [] => by simp [bytesL, bulkL]
  | x :: xs => by
    have := bytes_le x
    have := bytes_leL xs
    simp only [bytesL, bulkL, List.length_append]
    omega
end
/-- What writing comes to. -/
def wres (D M E : Int) (x : S26) (deep : Int) (out : List Int) (m : Int) : WRes := match err D M E x deep m with
  | some e => .inr e
  | none => .inl (out ++ Pc.bytesOf x, m + count x)
def wresL (D M E : Int) (l : List S26) (deep : Int) (out : List Int) (m : Int) : WRes := match errL D M E l deep m with
  | some e => .inr e
  | none => .inl (out ++ bytesL l, m + countL l)
theorem wc_ev (n : Int) (h0 : 0 ≤ n) (h1 : n ≤ 18446744073709551615) (k : Nat) (hk : 30 ≤ k) : wire_Count.f k n = some (enc n) :=
  at_rounds (fun k => wire_Count.mono n k) hk (wc n h0 h1)
mutual
theorem wval_eq (D M E : Int) : ∀ (x : S26) (deep : Int) (out : List Int) (m : Int), right x = true → fit x → 0 ≤ deep → deep + bulk x ≤ 1000000000 → 0 ≤ m → m + bulk x ≤ 1000000000 → (out.length : Int) + 10 * bulk x ≤ 1000000000 →
    ∃ K, ∀ k, K ≤ k → wval k D M E x deep out m = some (wres D M E x deep out m)
  | ⟨f0, f1, f2, f3⟩, deep, out, m, hr, hf, d0, d1, m0, m1, ho => by
    simp only [right, Bool.or_eq_true, Bool.and_eq_true, decide_eq_true_eq, List.isEmpty_iff] at hr
    simp only [fit] at hf
    simp only [bulk] at d1 m1 ho
    have hbp := bulk_posL f3
    have hpl := posL f3
    have hout : out.length < 1000000000000 := by omega
    have hlen9 := enc_le f1
    rcases hr with (⟨rfl, rfl, rfl⟩ | ⟨rfl, rfl, rfl⟩) | ⟨⟨rfl, rfl, rfl⟩, hl⟩
    · refine ⟨31, fun k hk => ?_⟩
      obtain ⟨k, rfl⟩ : ∃ k', k = k' + 1 := ⟨k - 1, by omega⟩
      simp only [wval, wres, err, List.length_nil, errL, Pc.bytesOf, if_true]
      by_cases c1 : deep > D
      · rw [if_pos c1, if_pos c1]
      rw [if_neg c1, if_neg c1]
      by_cases c2 : m ≥ M
      · rw [if_pos c2, if_pos c2]
      have := mx0 E
      rw [if_neg c2, if_neg c2, if_pos hout, if_neg (by omega), wc_ev f1 hf.1.1 hf.1.2 k (by omega), Option.bind_some, if_pos (by omega), w64 (by omega) (by omega)]
      simp only [count, countL]
      simp [List.append_assoc]
    · refine ⟨31, fun k hk => ?_⟩
      obtain ⟨k, rfl⟩ : ∃ k', k = k' + 1 := ⟨k - 1, by omega⟩
      simp only [wval, wres, err, errL, Pc.bytesOf, if_true]
      by_cases c1 : deep > D
      · rw [if_pos c1, if_pos c1]
      rw [if_neg c1, if_neg c1]
      by_cases c2 : m ≥ M
      · rw [if_pos c2, if_pos c2]
      rw [if_neg c2, if_neg c2, if_pos hout, if_neg (by omega)]
      by_cases c3 : mx 0 E < (f2.length : Int)
      · rw [if_pos c3, if_pos c3]
      have hlen9b := enc_le (f2.length : Int)
      simp only [bulkL] at ho
      rw [if_neg c3, if_neg c3, wu64 (by omega) (by omega), wc_ev (f2.length : Int) (by omega) (by omega) k (by omega), Option.bind_some, if_pos (by omega), if_pos (by omega), w64 (by omega) (by omega), if_neg (by omega)]
      simp only [count, countL]
      simp [List.append_assoc]
    · obtain ⟨K, HK⟩ := wvals_eq D M E f3 f3 0 deep (out ++ [3] ++ enc (f3.length : Int)) (m + 1) (by simp) hl hf.2.2 d0 (by simp only [List.length_nil] at d1; omega) (by omega) (by simp only [List.length_nil] at m1; omega) (by
        have := enc_le (f3.length : Int)
        simp only [List.length_append, List.length_cons, List.length_nil] at ho ⊢
        omega)
      refine ⟨max 31 (K + 1), fun k hk => ?_⟩
      obtain ⟨k, rfl⟩ : ∃ k', k = k' + 1 := ⟨k - 1, by omega⟩
      simp only [wval, wres, err, List.length_nil, Pc.bytesOf]
      by_cases c1 : deep > D
      · rw [if_pos c1, if_pos c1]
      rw [if_neg c1, if_neg c1]
      by_cases c2 : m ≥ M
      · rw [if_pos c2, if_pos c2]
      have := mx0 E
      have hlen9c := enc_le (f3.length : Int)
      rw [if_neg c2, if_neg c2, if_pos hout, if_neg (by omega), if_neg (by omega), if_pos trivial, if_neg (by omega), wu64 (by omega) (by omega), wc_ev (f3.length : Int) (by omega) (by omega) k (by omega), Option.bind_some, if_pos (by omega), if_pos (by omega), w64 (by omega) (by omega), if_neg (by omega), if_neg (by omega)]
      have hH := HK k (by omega)
      rw [show ((0 : Nat) : Int) = 0 from rfl] at hH
      rw [show (3 : Int) % 256 = 3 from rfl, hH]
      simp only [wresL, count]
      rcases errL D M E f3 (deep + 1) (m + 1) with _ | e
      · simp only [List.append_assoc, Option.some.injEq, Sum.inl.injEq, Prod.mk.injEq]
        exact ⟨by simp [List.append_assoc], by omega⟩
      · rfl
theorem wvals_eq (D M E : Int) : ∀ (ys xs : List S26) (i : Nat) (deep : Int) (out : List Int) (m : Int), xs.drop i = ys → rightL ys = true → fitL ys → 0 ≤ deep → deep + 1 + bulkL ys ≤ 1000000000 → 0 ≤ m → m + bulkL ys ≤ 1000000000 → (out.length : Int) + 10 * bulkL ys ≤ 1000000000 →
    ∃ K, ∀ k, K ≤ k → wvals k D M E xs i deep out m = some (wresL D M E ys (deep + 1) out m)
  | [], xs, i, deep, out, m, hd, hr, hf, d0, d1, m0, m1, ho => ⟨1, fun k hk => by
    obtain ⟨k, rfl⟩ : ∃ k', k = k' + 1 := ⟨k - 1, by omega⟩
    have hle : xs.length ≤ i := List.drop_eq_nil_iff.1 hd
    simp only [wvals, wresL, errL, bytesL, countL]
    rw [if_neg (by omega)]
    simp⟩
  | y :: ys, xs, i, deep, out, m, hd, hr, hf, d0, d1, m0, m1, ho => by
    simp only [rightL, Bool.and_eq_true] at hr
    simp only [fitL] at hf
    simp only [bulkL] at d1 m1 ho
    have hb1 := bulk_pos y
    have hb2 := bulk_posL ys
    have hp1 := pos y
    have hp2 := posL ys
    have hlt : i < xs.length := by
      rcases Nat.lt_or_ge i xs.length with h | h
      · exact h
      · rw [List.drop_eq_nil_of_le h] at hd; cases hd
    rw [List.drop_eq_getElem_cons hlt] at hd
    obtain ⟨hy, hys⟩ := List.cons.inj hd
    have hrd : rd_T26 xs (i : Int) = y := by
      unfold rd_T26
      rw [List.getD_eq_getElem?_getD, Int.toNat_natCast, List.getElem?_eq_getElem hlt]
      exact hy
    obtain ⟨K1, H1⟩ := wval_eq D M E y (deep + 1) out m hr.1 hf.1 (by omega) (by omega) m0 (by omega) (by omega)
    have hbl := bytes_le y
    obtain ⟨K2, H2⟩ := wvals_eq D M E ys xs (i + 1) deep (out ++ Pc.bytesOf y) (m + count y) hys hr.2 hf.2 d0 (by omega) (by omega) (by omega) (by simp only [List.length_append]; omega)
    refine ⟨max K1 K2 + 1, fun k hk => ?_⟩
    obtain ⟨k, rfl⟩ : ∃ k', k = k' + 1 := ⟨k - 1, by omega⟩
    simp only [wvals]
    rw [if_pos (by omega), hrd, w64 (x := deep + 1) (by omega) (by omega), H1 k (by omega), Option.bind_some]
    simp only [wres, wresL, errL]
    rcases err D M E y (deep + 1) m with _ | e
    · have hH := H2 k (by omega)
      simp only
      rw [show ((i : Int) + 1) = ((i + 1 : Nat) : Int) by omega, hH]
      simp only [wresL, bytesL, countL]
      rcases errL D M E ys (deep + 1) (m + count y) with _ | e
      · simp only [List.append_assoc, Option.some.injEq, Sum.inl.injEq, Prod.mk.injEq]
        exact ⟨trivial, by omega⟩
      · rfl
    · rfl
end
end Go.Proofs.Ytgijcafgnonjjaa.Pw
