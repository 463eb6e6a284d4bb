/- Whether a value is right, and the document's writing, plain. -/
import Derived.Test.YtgijcafgnonjjaaPo
import Derived.Test.YtgijcafgnonjjaaLW2
import Derived.Test.YtgijcafgnonjjaaLW3
namespace Go.Proofs.Ytgijcafgnonjjaa.Pw
open Go.RowKit Go.Proofs.YtgijcafgnonjjaaW.PrintWords Go.Proofs.Ytgijcafgnonjjaa.Q Go.Proofs.Ytgijcafgnonjjaa.X Go.Proofs.Ytgijcafgnonjjaa.Pc
set_option linter.unusedVariables false
set_option linter.unusedSimpArgs false
theorem rr_loop (a0 a1 : Int) (a2 : List Int) (xs : List S26) (hx : xs.length ≤ 10000000000000) (IH : ∀ y ∈ xs, ∃ K, ∀ k, K ≤ k → LW.imprimaturref03_Right.f k y.f0 y.f1 y.f2 y.f3 = some (right y)) :
    ∀ (d i : Nat), xs.length = i + d → ∃ K, ∀ k, K ≤ k → LW.imprimaturref03_Right.l0 k i a0 a1 a2 xs = some (rightL (xs.drop i))
  | 0, i, h => ⟨1, fun k hk => by
    obtain ⟨k, rfl⟩ : ∃ k', k = k' + 1 := ⟨k - 1, by omega⟩
    simp only [LW.imprimaturref03_Right.l0]
    rw [if_neg (by omega), List.drop_eq_nil_of_le (by omega)]
    rfl⟩
  | d + 1, i, h => by
    have hlt : i < xs.length := by omega
    obtain ⟨K1, H1⟩ := IH xs[i] (List.getElem_mem hlt)
    obtain ⟨K2, H2⟩ := rr_loop a0 a1 a2 xs hx IH d (i + 1) (by omega)
    refine ⟨max K1 K2 + 1, fun k hk => ?_⟩
    obtain ⟨k, rfl⟩ : ∃ k', k = k' + 1 := ⟨k - 1, by omega⟩
    simp only [LW.imprimaturref03_Right.l0]
    rw [if_pos (by omega), if_pos (by omega), rd26 xs i hlt, H1 k (by omega), Option.bind_some, List.drop_eq_getElem_cons hlt]
    simp only [rightL]
    cases right xs[i]
    · simp
    · rw [if_pos rfl, w64 (by omega) (by omega), show ((i : Int) + 1) = ((i + 1 : Nat) : Int) by omega, H2 k (by omega)]
      simp
theorem rr_ev : ∀ (s : Nat) (x : S26), count x ≤ s → s ≤ 1000000 → ∃ K, ∀ k, K ≤ k → LW.imprimaturref03_Right.f k x.f0 x.f1 x.f2 x.f3 = some (right x) := by
  intro s
  induction s with
  | zero => intro x h _; have := pos x; omega
  | succ s ih =>
    rintro ⟨f0, f1, f2, f3⟩ hx hs
    simp only [count] at hx
    have hp := posL f3
    obtain ⟨K, HK⟩ := rr_loop f0 f1 f2 f3 (by omega) (fun y hy => ih y (by have := count_in y f3 hy; omega) (by omega)) f3.length 0 (by omega)
    refine ⟨K + 2, fun k hk => ?_⟩
    obtain ⟨k, rfl⟩ : ∃ k', k = k' + 2 := ⟨k - 2, by omega⟩
    have hK := HK k (by omega)
    rw [List.drop_zero, show ((0 : Nat) : Int) = 0 from rfl] at hK
    have hj : ∀ t, LW.imprimaturref03_Right.j0 (k + 1) t f0 f1 f2 f3 = some (!t && rightL f3) := by
      intro t
      simp only [LW.imprimaturref03_Right.j0]
      rw [hK]
      cases t <;> simp
    simp only [LW.imprimaturref03_Right.f, hj, right, isEmpty_len]
    by_cases c1 : f0 = 1
    · subst c1
      by_cases e2 : f2 = []
      · subst e2
        cases f3 <;> simp [rightL]
        omega
      · have : 0 < f2.length := by cases f2 with | nil => exact absurd rfl e2 | cons => simp
        have e3 : ¬ (f2.length : Int) = 0 := by omega
        simp [e2, this]
    by_cases c2 : f0 = 2
    · subst c2
      by_cases e : f1 = 0
      · cases f3 <;> simp [e, rightL]
        omega
      · simp [e]
    by_cases c3 : f0 = 3
    · subst c3
      by_cases e : f1 = 0
      · by_cases e2 : f2 = []
        · simp [e, e2]
        · have : 0 < f2.length := by cases f2 with | nil => exact absurd rfl e2 | cons => simp
          have e3 : ¬ (f2.length : Int) = 0 := by omega
          simp [e, e2, this]
      · simp [e]
    · have : f0 < 1 ∨ f0 > 3 := by omega
      rcases this with h | h
      · simp [h, c1, c2, c3]
      · have : ¬ f0 < 1 := by omega
        simp [h, this, c1, c2, c3]
mutual
def nodes : S26 → List S26
  | ⟨a, b, c, l⟩ => ⟨a, b, c, l⟩ :: nodesL l
def nodesL : List S26 → List S26
  | [] => []
  | x :: xs => nodes x ++ nodesL xs
end
mutual
def deeps : S26 → Int → List Int
  | ⟨_, _, _, l⟩, d => d :: deepsL l (d + 1)
def deepsL : List S26 → Int → List Int
  | [], _ => []
  | x :: xs, d => deeps x d ++ deepsL xs d
end
mutual
theorem nodes_len : ∀ x : S26, ((nodes x).length : Int) = count x ∧ ∀ d, ((deeps x d).length : Int) = count x
  | ⟨a, b, c, l⟩ => by
    have h := nodesL_len l
    refine ⟨by simp only [nodes, count, List.length_cons]; omega, fun d => ?_⟩
    have := h.2 (d + 1)
    simp only [deeps, count, List.length_cons]
    omega
theorem nodesL_len : ∀ l : List S26, ((nodesL l).length : Int) = countL l ∧ ∀ d, ((deepsL l d).length : Int) = countL l
  | [] => by simp [nodesL, deepsL, countL]
  | x :: xs => by
    have h := nodes_len x
    have g := nodesL_len xs
    refine ⟨by simp only [nodesL, countL, List.length_append]; omega, fun d => ?_⟩
    have := h.2 d
    have := g.2 d
    simp only [deepsL, countL, List.length_append]
    omega
end
def zr (n : Int) : Int := if n < 0 then 0 else n
theorem zero_f (n : Int) : LW.imprimaturref03_zero.f n = some (zr n) := by
  unfold LW.imprimaturref03_zero.f zr
  by_cases c : n < 0
  · rw [if_pos c, if_pos c]
  · rw [if_neg c, if_neg c]
def scan (D M E : Int) : List S26 → List Int → Int → Option Int
  | x :: xs, d :: ds, i => if d > zr D then some 23 else if i ≥ zr M then some 24 else if (x.f2.length : Int) > zr E then some 2 else scan D M E xs ds (i + 1)
  | _, _, _ => none
mutual
theorem scan_err (D M E : Int) : ∀ (x : S26) (deep m : Int) (ns : List S26) (ds : List Int), 1 ≤ deep → 0 ≤ m → scan D M E (nodes x ++ ns) (deeps x deep ++ ds) m = match err D M E x deep m with
    | some e => some e
    | none => scan D M E ns ds (m + count x)
  | ⟨a, b, c, l⟩, deep, m, ns, ds, h1, h2 => by
    simp only [nodes, deeps, List.cons_append, scan, err, count]
    have e1 : (deep > zr D) = (deep > D) := by unfold zr; by_cases q : D < 0 <;> simp only [q, if_true, if_false, eq_iff_iff] <;> omega
    have e2 : (m ≥ zr M) = (m ≥ M) := by unfold zr; by_cases q : M < 0 <;> simp only [q, if_true, if_false, eq_iff_iff] <;> omega
    have e3 : ((c.length : Int) > zr E) = (mx 0 E < (c.length : Int)) := by rw [mx_val]; unfold zr; by_cases q : E < 0 <;> by_cases q2 : 0 < E <;> simp only [q, q2, if_true, if_false, eq_iff_iff] <;> omega
    simp only [e1, e2, e3]
    by_cases c1 : deep > D
    · rw [if_pos c1, if_pos c1]
    rw [if_neg c1, if_neg c1]
    by_cases c2 : m ≥ M
    · rw [if_pos c2, if_pos c2]
    rw [if_neg c2, if_neg c2]
    by_cases c3 : mx 0 E < (c.length : Int)
    · rw [if_pos c3, if_pos c3]
    rw [if_neg c3, if_neg c3, scan_errL D M E l (deep + 1) (m + 1) ns ds (by omega) (by omega), show m + (countL l + 1) = m + 1 + countL l by omega]
theorem scan_errL (D M E : Int) : ∀ (l : List S26) (deep m : Int) (ns : List S26) (ds : List Int), 1 ≤ deep → 0 ≤ m → scan D M E (nodesL l ++ ns) (deepsL l deep ++ ds) m = match errL D M E l deep m with
    | some e => some e
    | none => scan D M E ns ds (m + countL l)
  | [], deep, m, ns, ds, h1, h2 => by simp [nodesL, deepsL, errL, countL]
  | x :: xs, deep, m, ns, ds, h1, h2 => by
    have := pos x
    simp only [nodesL, deepsL, errL, countL, List.append_assoc]
    rw [scan_err D M E x deep m _ _ h1 h2]
    rcases err D M E x deep m with _ | e
    · simp only
      rw [scan_errL D M E xs deep (m + count x) ns ds h1 (by omega), show m + (count x + countL xs) = m + count x + countL xs by omega]
    · rfl
end
theorem all_loop (deep : Int) (d0 : 0 ≤ deep) (d1 : deep ≤ 1000000) (a0 a1 : Int) (a2 : List Int) (xs : List S26) (hc : countL xs ≤ 1000000) (IH : ∀ y ∈ xs, ∃ K, ∀ k, K ≤ k → LW.imprimaturref03_all.f k y.f0 y.f1 y.f2 y.f3 (deep + 1) = some (nodes y, deeps y (deep + 1))) :
    ∀ (d i : Nat) (x6 : List S26) (x7 : List Int), xs.length = i + d → (x6.length : Int) + countL (xs.drop i) ≤ 10000000 → (x7.length : Int) + countL (xs.drop i) ≤ 10000000 → ∃ K, ∀ k, K ≤ k → LW.imprimaturref03_all.l0 k deep x6 x7 i a0 a1 a2 xs = some (x6 ++ nodesL (xs.drop i), x7 ++ deepsL (xs.drop i) (deep + 1))
  | 0, i, x6, x7, h, h6, h7 => ⟨1, fun k hk => by
    obtain ⟨k, rfl⟩ : ∃ k', k = k' + 1 := ⟨k - 1, by omega⟩
    simp only [LW.imprimaturref03_all.l0]
    rw [if_neg (by omega), List.drop_eq_nil_of_le (by omega)]
    simp [nodesL, deepsL]⟩
  | d + 1, i, x6, x7, h, h6, h7 => by
    have hlt : i < xs.length := by omega
    have hpx := posL xs
    rw [List.drop_eq_getElem_cons hlt] at h6 h7 ⊢
    simp only [countL] at h6 h7
    have hn := nodes_len xs[i]
    have hq := posL (xs.drop (i + 1))
    obtain ⟨K1, H1⟩ := IH xs[i] (List.getElem_mem hlt)
    obtain ⟨K2, H2⟩ := all_loop deep d0 d1 a0 a1 a2 xs hc IH d (i + 1) (x6 ++ nodes xs[i]) (x7 ++ deeps xs[i] (deep + 1)) (by omega) (by rw [List.length_append]; omega) (by have := hn.2 (deep + 1); rw [List.length_append]; omega)
    refine ⟨max K1 K2 + 1, fun k hk => ?_⟩
    obtain ⟨k, rfl⟩ : ∃ k', k = k' + 1 := ⟨k - 1, by omega⟩
    simp only [LW.imprimaturref03_all.l0]
    have hn2 := hn.2 (deep + 1)
    rw [if_pos (by omega), if_pos (by omega), rd26 xs i hlt, w64 (x := deep + 1) (by omega) (by omega), H1 k (by omega), Option.bind_some]
    simp only
    rw [if_pos (by omega), if_pos (by omega), w64 (x := (i : Int) + 1) (by omega) (by omega), show ((i : Int) + 1) = ((i + 1 : Nat) : Int) by omega, H2 k (by omega)]
    simp [nodesL, deepsL, List.append_assoc]
theorem all_ev : ∀ (s : Nat) (x : S26) (deep : Int), count x ≤ s → 0 ≤ deep → deep + s ≤ 1000000 → s ≤ 1000000 → ∃ K, ∀ k, K ≤ k → LW.imprimaturref03_all.f k x.f0 x.f1 x.f2 x.f3 deep = some (nodes x, deeps x deep) := by
  intro s
  induction s with
  | zero => intro x _ h _ _ _; have := pos x; omega
  | succ s ih =>
    rintro ⟨f0, f1, f2, f3⟩ deep hx d0 d1 hs
    simp only [count] at hx
    have hp := posL f3
    obtain ⟨K, HK⟩ := all_loop deep d0 (by omega) f0 f1 f2 f3 (by omega) (fun y hy => ih y (deep + 1) (by have := count_in y f3 hy; omega) (by omega) (by omega) (by omega)) f3.length 0 [⟨f0, f1, f2, f3⟩] [deep] (by omega) (by rw [List.drop_zero, List.length_singleton]; omega) (by rw [List.drop_zero, List.length_singleton]; omega)
    refine ⟨K + 1, fun k hk => ?_⟩
    obtain ⟨k, rfl⟩ : ∃ k', k = k' + 1 := ⟨k - 1, by omega⟩
    have hK := HK k (by omega)
    rw [List.drop_zero, show ((0 : Nat) : Int) = 0 from rfl] at hK
    simp only [LW.imprimaturref03_all.f]
    rw [hK]
    simp [nodes, deeps]
theorem rc_ev (n : Int) (h0 : 0 ≤ n) (h1 : n ≤ 18446744073709551615) (k : Nat) (hk : 30 ≤ k) : LC.imprimaturref03_Count.f k n = some (enc n) :=
  at_rounds (LC.imprimaturref03_Count.mono n) hk (rc n h0 h1)
theorem bytes_loop (a0 a1 : Int) (a2 : List Int) (xs : List S26) (hc : bulkL xs ≤ 1000000) (IH : ∀ y ∈ xs, ∃ K, ∀ k, K ≤ k → LW.imprimaturref03_bytes.f k y.f0 y.f1 y.f2 y.f3 = some (Pc.bytesOf y)) :
    ∀ (d i : Nat) (x3 : List Int), xs.length = i + d → (x3.length : Int) + 10 * bulkL (xs.drop i) ≤ 100000000 → ∃ K, ∀ k, K ≤ k → LW.imprimaturref03_bytes.l0 k x3 i a0 a1 a2 xs = some (x3 ++ bytesL (xs.drop i))
  | 0, i, x3, h, h3 => ⟨1, fun k hk => by
    obtain ⟨k, rfl⟩ : ∃ k', k = k' + 1 := ⟨k - 1, by omega⟩
    simp only [LW.imprimaturref03_bytes.l0]
    rw [if_neg (by omega), List.drop_eq_nil_of_le (by omega)]
    simp [bytesL]⟩
  | d + 1, i, x3, h, h3 => by
    have hlt : i < xs.length := by omega
    have hpx := posL xs
    have hbx := bulk_posL xs
    rw [List.drop_eq_getElem_cons hlt] at h3 ⊢
    simp only [bulkL] at h3
    have hn := bytes_le xs[i]
    have hq := bulk_posL (xs.drop (i + 1))
    have hq2 := posL (xs.drop (i + 1))
    obtain ⟨K1, H1⟩ := IH xs[i] (List.getElem_mem hlt)
    obtain ⟨K2, H2⟩ := bytes_loop a0 a1 a2 xs hc IH d (i + 1) (x3 ++ Pc.bytesOf xs[i]) (by omega) (by rw [List.length_append]; omega)
    refine ⟨max K1 K2 + 1, fun k hk => ?_⟩
    obtain ⟨k, rfl⟩ : ∃ k', k = k' + 1 := ⟨k - 1, by omega⟩
    simp only [LW.imprimaturref03_bytes.l0]
    rw [if_pos (by omega), if_pos (by omega), rd26 xs i hlt, H1 k (by omega), Option.bind_some]
    rw [if_pos (by omega), w64 (x := (i : Int) + 1) (by omega) (by omega), show ((i : Int) + 1) = ((i + 1 : Nat) : Int) by omega, H2 k (by omega)]
    simp [bytesL, List.append_assoc]
theorem right_in (y : S26) (l : List S26) (hr : rightL l = true) (h : y ∈ l) : right y = true := by
  rw [right_mem, List.all_eq_true] at hr
  exact hr y h
theorem fit_in (y : S26) : ∀ l : List S26, fitL l → y ∈ l → fit y
  | [], _, h => by cases h
  | x :: xs, hf, h => by
    simp only [fitL] at hf
    rcases List.mem_cons.1 h with rfl | h
    · exact hf.1
    · exact fit_in y xs hf.2 h
theorem bulk_in (y : S26) : ∀ l : List S26, y ∈ l → bulk y ≤ bulkL l
  | [], h => by cases h
  | z :: zs, h => by
    have h1 := bulk_pos z
    have h2 := bulk_posL zs
    have h3 := pos z
    have h4 := posL zs
    simp only [bulkL]
    rcases List.mem_cons.1 h with rfl | h
    · omega
    · have := bulk_in y zs h; omega
theorem bytes_ev : ∀ (s : Nat) (x : S26), right x = true → fit x → bulk x ≤ s → s ≤ 1000000 → ∃ K, ∀ k, K ≤ k → LW.imprimaturref03_bytes.f k x.f0 x.f1 x.f2 x.f3 = some (Pc.bytesOf x) := by
  intro s
  induction s with
  | zero => intro x _ _ h _; have := pos x; have := bulk_pos x; omega
  | succ s ih =>
    rintro ⟨f0, f1, f2, f3⟩ hr hf hx hs
    simp only [bulk] at hx
    simp only [fit] at hf
    have hp := posL f3
    have hb := bulk_posL f3
    simp only [right, Bool.or_eq_true, Bool.and_eq_true, decide_eq_true_eq, List.isEmpty_iff] at hr
    rcases hr with (⟨rfl, rfl, rfl⟩ | ⟨rfl, rfl, rfl⟩) | ⟨⟨rfl, rfl, rfl⟩, hl3⟩
    · refine ⟨31, fun k hk => ?_⟩
      obtain ⟨k, rfl⟩ : ∃ k', k = k' + 1 := ⟨k - 1, by omega⟩
      have := enc_le f1
      simp only [LW.imprimaturref03_bytes.f, Option.bind_some, if_true]
      rw [rc_ev f1 hf.1.1 hf.1.2 k (by omega), Option.bind_some, if_pos (by simp only [List.length_cons, List.length_nil]; omega)]
      simp [Pc.bytesOf]
    · refine ⟨31, fun k hk => ?_⟩
      obtain ⟨k, rfl⟩ : ∃ k', k = k' + 1 := ⟨k - 1, by omega⟩
      have := enc_le (f2.length : Int)
      simp only [LW.imprimaturref03_bytes.f, Option.bind_some]
      rw [if_neg (by omega), if_pos trivial, wu64 (by omega) (by omega), rc_ev (f2.length : Int) (by omega) (by omega) k (by omega), Option.bind_some, if_pos (by simp only [List.length_cons, List.length_nil]; omega), if_pos (by simp only [List.length_cons, List.length_nil, List.length_append]; omega)]
      simp [Pc.bytesOf]
    · have := enc_le (f3.length : Int)
      obtain ⟨K, HK⟩ := bytes_loop 3 0 [] f3 (by omega) (fun y hy => ih y (right_in y f3 hl3 hy) (fit_in y f3 hf.2.2 hy) (by have := bulk_in y f3 hy; simp only [List.length_nil] at hx; omega) (by omega)) f3.length 0 ([3] ++ enc (f3.length : Int)) (by omega) (by rw [List.drop_zero, List.length_append, List.length_singleton]; simp only [List.length_nil] at hx; omega)
      refine ⟨max 31 K + 1, fun k hk => ?_⟩
      obtain ⟨k, rfl⟩ : ∃ k', k = k' + 1 := ⟨k - 1, by omega⟩
      have hK := HK k (by omega)
      rw [List.drop_zero, show ((0 : Nat) : Int) = 0 from rfl] at hK
      simp only [LW.imprimaturref03_bytes.f, Option.bind_some]
      rw [if_neg (by omega), if_neg (by omega), wu64 (by omega) (by omega), rc_ev (f3.length : Int) (by omega) (by omega) k (by omega), Option.bind_some, if_pos (by simp only [List.length_cons, List.length_nil]; omega), show (3 : Int) % 256 = 3 from rfl, hK]
      simp [Pc.bytesOf]
theorem write_loop (D M E B : Int) (a0 a1 : Int) (a2 : List Int) (a3 : List S26) (R : List Int × Int) (KB : Nat) (HB : ∀ k, KB ≤ k → LW.imprimaturref03_Write.l0 k [] [] 0 a0 a1 a2 a3 B D M E = some R) (nsAll : List S26) (dsAll : List Int) (hl : nsAll.length = dsAll.length) (hlen : nsAll.length ≤ 1000000)
    (HB2 : ∀ k, KB ≤ k → ∀ i : Int, (nsAll.length : Int) ≤ i → LW.imprimaturref03_Write.l0 k nsAll dsAll i a0 a1 a2 a3 B D M E = some R) :
    ∀ (d i : Nat), nsAll.length = i + d → ∃ K, ∀ k, K ≤ k → LW.imprimaturref03_Write.l0 k nsAll dsAll i a0 a1 a2 a3 B D M E = some (match scan D M E (nsAll.drop i) (dsAll.drop i) i with
      | some e => ([], e)
      | none => R)
  | 0, i, h => ⟨KB, fun k hk => by
    rw [HB2 k hk i (by omega), List.drop_eq_nil_of_le (by omega)]
    rfl⟩
  | d + 1, i, h => by
    have hlt : i < nsAll.length := by omega
    have hlt2 : i < dsAll.length := by omega
    obtain ⟨K2, H2⟩ := write_loop D M E B a0 a1 a2 a3 R KB HB nsAll dsAll hl hlen HB2 d (i + 1) (by omega)
    refine ⟨K2 + 1, fun k hk => ?_⟩
    obtain ⟨k, rfl⟩ : ∃ k', k = k' + 1 := ⟨k - 1, by omega⟩
    rw [List.drop_eq_getElem_cons hlt, List.drop_eq_getElem_cons hlt2]
    simp only [LW.imprimaturref03_Write.l0, zero_f, Option.bind_some, scan]
    have hrd : rd dsAll (i : Int) = dsAll[i] := by
      unfold rd
      rw [List.getD_eq_getElem?_getD, Int.toNat_natCast, List.getElem?_eq_getElem hlt2]
      rfl
    rw [if_pos (by omega), if_pos (by omega), if_pos (by omega), hrd, rd26 nsAll i hlt]
    by_cases c1 : dsAll[i] > zr D
    · rw [if_pos c1, if_pos c1]
    rw [if_neg c1, if_neg c1]
    by_cases c2 : (i : Int) ≥ zr M
    · rw [if_pos c2, if_pos c2]
    rw [if_neg c2, if_neg c2]
    by_cases c3 : (nsAll[i].f2.length : Int) > zr E
    · rw [if_pos c3, if_pos c3]
    rw [if_neg c3, if_neg c3, w64 (x := (i : Int) + 1) (by omega) (by omega)]
    exact H2 k (by omega)
theorem refwrite (B D M E : Int) (x : S26) (hf : fit x) (hb : bulk x ≤ 2000) : ∃ K, ∀ k, K ≤ k → LW.imprimaturref03_Write.f k x.f0 x.f1 x.f2 x.f3 B D M E = some (wans B D M E x) := by
  have hbp := bulk_pos x
  have hp := pos x
  obtain ⟨K1, H1⟩ := rr_ev 2000 x (by omega) (by omega)
  by_cases hr : right x = true
  rotate_left 1
  · refine ⟨K1, fun k hk => ?_⟩
    unfold LW.imprimaturref03_Write.f wans
    rw [H1 k hk, Option.bind_some, if_neg hr, if_neg hr]
  obtain ⟨K2, H2⟩ := all_ev 2000 x 1 (by omega) (by omega) (by omega) (by omega)
  obtain ⟨K3, H3⟩ := bytes_ev 2000 x hr hf (by omega) (by omega)
  have hn := nodes_len x
  have hn1 := hn.2 1
  have HB2 : ∀ k, K3 + 1 ≤ k → ∀ (ns : List S26) (ds : List Int) (i : Int), (ns.length : Int) ≤ i → LW.imprimaturref03_Write.l0 k ns ds i x.f0 x.f1 x.f2 x.f3 B D M E = some (if mx 0 B < ((Pc.bytesOf x).length : Int) then ([], 2) else (Pc.bytesOf x, 0)) := by
    intro k hk ns ds i hi
    obtain ⟨k, rfl⟩ : ∃ k', k = k' + 1 := ⟨k - 1, by omega⟩
    simp only [LW.imprimaturref03_Write.l0, zero_f, Option.bind_some]
    rw [if_neg (by omega), H3 k (by omega), Option.bind_some]
    have e3 : (((Pc.bytesOf x).length : Int) > zr B) = (mx 0 B < ((Pc.bytesOf x).length : Int)) := by rw [mx_val]; unfold zr; by_cases q : B < 0 <;> by_cases q2 : 0 < B <;> simp only [q, q2, if_true, if_false, eq_iff_iff] <;> omega
    simp only [e3]
    by_cases c : mx 0 B < ((Pc.bytesOf x).length : Int)
    · rw [if_pos c, if_pos c]
    · rw [if_neg c, if_neg c]
  obtain ⟨K4, H4⟩ := write_loop D M E B x.f0 x.f1 x.f2 x.f3 _ (K3 + 1) (fun k hk => HB2 k hk [] [] 0 (by simp)) (nodes x) (deeps x 1) (by omega) (by omega) (fun k hk i hi => HB2 k hk _ _ i hi) (nodes x).length 0 (by omega)
  refine ⟨max (max K1 K2) K4, fun k hk => ?_⟩
  unfold LW.imprimaturref03_Write.f wans
  rw [H1 k (by omega), Option.bind_some, if_pos hr, if_pos hr, H2 k (by omega), Option.bind_some]
  have h4 := H4 k (by omega)
  rw [List.drop_zero, List.drop_zero, show ((0 : Nat) : Int) = 0 from rfl] at h4
  simp only
  rw [h4]
  have hs := scan_err D M E x 1 0 [] [] (by omega) (by omega)
  rw [List.append_nil, List.append_nil] at hs
  rw [hs]
  rcases err D M E x 1 0 with _ | e
  · rfl
  · rfl
end Go.Proofs.Ytgijcafgnonjjaa.Pw
