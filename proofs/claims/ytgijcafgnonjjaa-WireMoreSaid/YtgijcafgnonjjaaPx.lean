/- Reading, plain: a value's bytes are read as it, whatever stands ahead of them and behind; cut off they are not read. -/
import Derived.Test.YtgijcafgnonjjaaPw
namespace Go.Proofs.Ytgijcafgnonjjaa.Pw
open Go.RowKit Go.Proofs.YtgijcafgnonjjaaW.PrintWords Go.Proofs.Ytgijcafgnonjjaa.Q Go.Proofs.Ytgijcafgnonjjaa.X Go.Proofs.Ytgijcafgnonjjaa.Pc
set_option linter.unusedVariables false
set_option linter.unusedSimpArgs false
theorem rd_mid (p l r : List Int) (i : Int) (h0 : 0 ≤ i) (h1 : i < l.length) : rd (p ++ l ++ r) (p.length + i) = rd l i := by
  unfold rd
  rw [List.getD_eq_getElem?_getD, List.getD_eq_getElem?_getD, List.append_assoc, show ((p.length : Int) + i).toNat = p.length + i.toNat by omega, List.getElem?_append_right (by omega), show p.length + i.toNat - p.length = i.toNat by omega, List.getElem?_append_left (by omega)]
theorem rd_cut (p l : List Int) (c : Nat) (i : Int) (h0 : 0 ≤ i) (h1 : i < c) : rd (p ++ l.take c) (p.length + i) = rd l i := by
  unfold rd
  rw [List.getD_eq_getElem?_getD, List.getD_eq_getElem?_getD, show ((p.length : Int) + i).toNat = p.length + i.toNat by omega, List.getElem?_append_right (by omega), show p.length + i.toNat - p.length = i.toNat by omega, List.getElem?_take, if_pos (by omega)]
theorem cGo_mid (p l r : List Int) (frm frm' size : Int) : ∀ (d : Nat) (i a n v a' : Int), 0 ≤ a → a ≤ l.length → cGo l frm size d i a n = .inl (v, a') → cGo (p ++ l ++ r) frm' size d i (p.length + a) n = .inl (v, p.length + a')
  | 0, i, a, n, v, a', h0, h1, h => by
    simp only [cGo, Sum.inl.injEq, Prod.mk.injEq] at h ⊢
    omega
  | d + 1, i, a, n, v, a', h0, h1, h => by
    simp only [cGo] at h ⊢
    by_cases c1 : a = l.length
    · rw [if_pos c1] at h; cases h
    rw [if_neg c1] at h
    rw [if_neg (by simp only [List.length_append]; omega), rd_mid p l r a h0 (by omega)]
    by_cases c2 : i = 0 ∧ rd l a = 0
    · rw [if_pos c2] at h; cases h
    rw [if_neg c2] at h ⊢
    by_cases c3 : size = 1 ∧ rd l a < 192
    · rw [if_pos c3] at h; cases h
    rw [if_neg c3] at h ⊢
    have := cGo_mid p l r frm frm' size d (i + 1) (a + 1) _ v a' (by omega) (by omega) h
    rw [show (p.length : Int) + a + 1 = p.length + (a + 1) by omega]
    exact this
theorem cGo_cut (p l : List Int) (c : Nat) (hc : c < l.length) (frm frm' size : Int) : ∀ (d : Nat) (i a n v a' : Int), 0 ≤ a → a ≤ c → (c : Int) < a' → cGo l frm size d i a n = .inl (v, a') → cGo (p ++ l.take c) frm' size d i (p.length + a) n = .inr (frm', 20)
  | 0, i, a, n, v, a', h0, h1, h2, h => by
    simp only [cGo, Sum.inl.injEq, Prod.mk.injEq] at h
    omega
  | d + 1, i, a, n, v, a', h0, h1, h2, h => by
    simp only [cGo] at h ⊢
    rw [if_neg (by omega)] at h
    by_cases c1 : a = c
    · rw [if_pos (by simp only [List.length_append, List.length_take]; omega)]
    rw [if_neg (by simp only [List.length_append, List.length_take]; omega), rd_cut p l c a h0 (by omega)]
    by_cases c2 : i = 0 ∧ rd l a = 0
    · rw [if_pos c2] at h; cases h
    rw [if_neg c2] at h ⊢
    by_cases c3 : size = 1 ∧ rd l a < 192
    · rw [if_pos c3] at h; cases h
    rw [if_neg c3] at h ⊢
    have := cGo_cut p l c hc frm frm' size d (i + 1) (a + 1) _ v a' (by omega) (by omega) h2 h
    rw [show (p.length : Int) + a + 1 = p.length + (a + 1) by omega]
    exact this
theorem cnt_mid (l p r : List Int) (n a : Int) (h0 : 0 ≤ n) (h1 : n ≤ 18446744073709551615) (hl : l = p ++ enc n ++ r) (ha : a = p.length) : cnt l a = .inl (n, a + ((enc n).length : Int)) := by
  subst hl ha
  have h := cnt_enc n h0 h1
  have he := enc_len n
  unfold cnt at h ⊢
  rw [if_neg (by omega)] at h
  rw [if_neg (by simp only [List.length_append]; omega)]
  have hr := rd_mid p (enc n) r 0 (by omega) (by omega)
  rw [Int.add_zero] at hr
  rw [hr]
  by_cases c1 : rd (enc n) 0 < 192
  · rw [if_pos c1] at h ⊢
    simp only [Sum.inl.injEq, Prod.mk.injEq] at h ⊢
    omega
  rw [if_neg c1] at h ⊢
  by_cases c2 : 199 < rd (enc n) 0
  · rw [if_pos c2] at h; cases h
  rw [if_neg c2] at h ⊢
  exact cGo_mid p (enc n) r _ _ _ _ _ _ _ _ _ (by omega) (by omega) h
theorem cnt_cut (l p : List Int) (c : Nat) (n a : Int) (h0 : 0 ≤ n) (h1 : n ≤ 18446744073709551615) (hc : c < (enc n).length) (hl : l = p ++ (enc n).take c) (ha : a = p.length) : cnt l a = .inr (a, 20) := by
  subst hl ha
  have h := cnt_enc n h0 h1
  unfold cnt at h ⊢
  rw [if_neg (by omega)] at h
  by_cases c0 : c = 0
  · rw [if_pos (by subst c0; simp)]
  rw [if_neg (by simp only [List.length_append, List.length_take]; omega)]
  have hr := rd_cut p (enc n) c 0 (by omega) (by omega)
  rw [Int.add_zero] at hr
  rw [hr]
  by_cases c1 : rd (enc n) 0 < 192
  · rw [if_pos c1] at h
    simp only [Sum.inl.injEq, Prod.mk.injEq] at h
    omega
  rw [if_neg c1] at h ⊢
  by_cases c2 : 199 < rd (enc n) 0
  · rw [if_pos c2] at h; cases h
  rw [if_neg c2] at h ⊢
  exact cGo_cut p (enc n) c hc _ _ _ _ _ _ _ _ _ (by omega) (by omega) (by omega) h
theorem byts_mid (l p r b : List Int) (a E : Int) (hE : E ≤ 9223372036854775807) (hb : (b.length : Int) ≤ mx 0 E) (h1 : (b.length : Int) ≤ 1000000000) (hl : l = p ++ (enc (b.length : Int) ++ b) ++ r) (ha : a = p.length) : byts l a E = .inl (b, a + (((enc (b.length : Int) ++ b).length : Nat) : Int)) := by
  have h := cnt_mid l p (b ++ r) (b.length : Int) a (by omega) (by omega) (by rw [hl]; simp [List.append_assoc]) ha
  unfold byts
  rw [h]
  have hm : mx 0 E ≤ 9223372036854775807 := by rw [mx_val]; by_cases c : 0 < E <;> simp only [c, if_true, if_false] <;> omega
  have hlen : (l.length : Int) = p.length + (enc (b.length : Int)).length + b.length + r.length := by rw [hl]; simp only [List.length_append]; omega
  show (if (b.length : Int) > IntKind.u64.wrap (mx 0 E) then _ else if (b.length : Int) > (l.length : Int) - (a + ((enc (b.length : Int)).length : Int)) then _ else _) = _
  rw [wu64 (mx0 E) (by omega), if_neg (by omega), if_neg (by omega)]
  have hb2 : (l.take (a + ((enc (b.length : Int)).length : Int) + b.length).toNat).drop (a + ((enc (b.length : Int)).length : Int)).toNat = b := by
    rw [show (a + ((enc (b.length : Int)).length : Int) + b.length).toNat = (p ++ enc (b.length : Int) ++ b).length by simp only [List.length_append]; omega, show (a + ((enc (b.length : Int)).length : Int)).toNat = (p ++ enc (b.length : Int)).length by simp only [List.length_append]; omega]
    rw [show l = (p ++ enc (b.length : Int) ++ b) ++ r by rw [hl]; simp [List.append_assoc], List.take_left', List.drop_left']
    · rfl
    · rfl
  rw [hb2]
  simp only [List.length_append, Sum.inl.injEq, Prod.mk.injEq]
  exact ⟨trivial, by omega⟩
theorem rd_head (l p q : List Int) (x a : Int) (hl : l = p ++ x :: q) (ha : a = p.length) : rd l a = x ∧ a < l.length := by
  subst hl ha
  unfold rd
  refine ⟨?_, by simp only [List.length_append, List.length_cons]; omega⟩
  rw [List.getD_eq_getElem?_getD, Int.toNat_natCast, List.getElem?_append_right (by omega)]
  simp
mutual
theorem val_comp (D M E : Int) (hE : E ≤ 9223372036854775807) : ∀ (x : S26) (l p r : List Int) (m deep a : Int), right x = true → fit x → err D M E x deep m = none → 0 ≤ deep → deep + bulk x ≤ 1000000000 → bulk x ≤ 1000000000 → l = p ++ Pc.bytesOf x ++ r → a = p.length →
    ∃ K, ∀ k, K ≤ k → val k l D M E deep a m = some (.inl (x, a + ((Pc.bytesOf x).length : Int), m + count x))
  | ⟨f0, f1, f2, f3⟩, l, p, r, m, deep, a, hr, hf, he, d0, d1, b1, hl, ha => by
    have hn := (err_none D M E ⟨f0, f1, f2, f3⟩ deep m).1 he
    simp only [depth, count, each] at hn
    have hpl := posL f3
    have hbl := bulk_posL f3
    simp only [right, Bool.or_eq_true, Bool.and_eq_true, decide_eq_true_eq, List.isEmpty_iff] at hr
    simp only [fit] at hf
    simp only [bulk] at d1 b1
    obtain ⟨q, hq⟩ : ∃ q, Pc.bytesOf ⟨f0, f1, f2, f3⟩ = f0 :: q := ⟨_, by simp only [Pc.bytesOf]; rfl⟩
    obtain ⟨hrd, hlt⟩ := rd_head l p (q ++ r) f0 a (by rw [hl, hq]; simp [List.append_assoc]) ha
    rcases hr with (⟨rfl, rfl, rfl⟩ | ⟨rfl, rfl, rfl⟩) | ⟨⟨rfl, rfl, rfl⟩, hl3⟩
    · refine ⟨1, fun k hk => ?_⟩
      obtain ⟨k, rfl⟩ : ∃ k', k = k' + 1 := ⟨k - 1, by omega⟩
      simp only [val]
      rw [if_neg (by omega), if_neg (by omega), if_neg (by omega), if_pos hrd, cnt_mid l (p ++ [1]) r f1 (a + 1) hf.1.1 hf.1.2 (by rw [hl]; simp [Pc.bytesOf, List.append_assoc]) (by simp only [List.length_append, List.length_cons, List.length_nil]; omega)]
      simp only [Pc.bytesOf, if_true, count, countL, List.length_cons, Option.some.injEq, Sum.inl.injEq, Prod.mk.injEq]
      refine ⟨trivial, by omega, by omega⟩
    · refine ⟨1, fun k hk => ?_⟩
      obtain ⟨k, rfl⟩ : ∃ k', k = k' + 1 := ⟨k - 1, by omega⟩
      simp only [val]
      rw [if_neg (by omega), if_neg (by omega), if_neg (by omega), if_neg (by omega), if_pos hrd, byts_mid l (p ++ [2]) r f2 (a + 1) E hE (by omega) (by omega) (by rw [hl]; simp [Pc.bytesOf, List.append_assoc]) (by simp only [List.length_append, List.length_cons, List.length_nil]; omega)]
      simp only [Pc.bytesOf, if_true, count, countL, List.length_cons, Option.some.injEq, Sum.inl.injEq, Prod.mk.injEq]
      rw [if_neg (by omega)]
      refine ⟨trivial, by omega, by omega⟩
    · have he2 : errL D M E f3 (deep + 1) (m + 1) = none := (errL_none D M E f3 (deep + 1) (m + 1) (by omega) (by omega)).2 (by omega)
      obtain ⟨K, HK⟩ := vals_comp D M E hE f3 l (p ++ [3] ++ enc (f3.length : Int)) r [] (m + 1) deep (a + 1 + ((enc (f3.length : Int)).length : Int)) hl3 hf.2.2 he2 d0 (by simp only [List.length_nil] at d1; omega) (by simp only [List.length_nil] at b1; omega) (by simp only [List.length_nil]; omega)
        (by rw [hl]; simp [Pc.bytesOf, List.append_assoc]) (by simp only [List.length_append, List.length_cons, List.length_nil]; omega)
      refine ⟨K + 1, fun k hk => ?_⟩
      obtain ⟨k, rfl⟩ : ∃ k', k = k' + 1 := ⟨k - 1, by omega⟩
      simp only [val]
      rw [if_neg (by omega), if_neg (by omega), if_neg (by omega), if_neg (by omega), if_neg (by omega), if_pos hrd, cnt_mid l (p ++ [3]) (bytesL f3 ++ r) (f3.length : Int) (a + 1) (by omega) (by omega) (by rw [hl]; simp [Pc.bytesOf, List.append_assoc]) (by simp only [List.length_append, List.length_cons, List.length_nil]; omega)]
      simp only
      rw [HK k (by omega)]
      simp only [Pc.bytesOf, count, List.length_cons, List.length_append, List.nil_append, Option.some.injEq, Sum.inl.injEq, Prod.mk.injEq]
      rw [if_neg (by omega), if_neg (by omega)]
      refine ⟨trivial, by simp only [List.length_append]; omega, by omega⟩
theorem vals_comp (D M E : Int) (hE : E ≤ 9223372036854775807) : ∀ (ys : List S26) (l p r : List Int) (acc : List S26) (m deep a : Int), rightL ys = true → fitL ys → errL D M E ys (deep + 1) m = none → 0 ≤ deep → deep + 1 + bulkL ys ≤ 1000000000 → bulkL ys ≤ 1000000000 → acc.length + bulkL ys ≤ 1000000000 → l = p ++ bytesL ys ++ r → a = p.length →
    ∃ K, ∀ k, K ≤ k → vals k l D M E deep (ys.length : Int) a m acc = some (.inl (⟨3, 0, [], acc ++ ys⟩, a + ((bytesL ys).length : Int), m + countL ys))
  | [], l, p, r, acc, m, deep, a, hr, hf, he, d0, d1, b1, hac, hl, ha => ⟨1, fun k hk => by
    obtain ⟨k, rfl⟩ : ∃ k', k = k' + 1 := ⟨k - 1, by omega⟩
    simp only [vals, List.length_nil, bytesL, countL, List.append_nil]
    rw [if_neg (by omega)]
    simp⟩
  | y :: ys, l, p, r, acc, m, deep, a, hr, hf, he, d0, d1, b1, hac, hl, ha => by
    simp only [rightL, Bool.and_eq_true] at hr
    simp only [fitL] at hf
    simp only [bulkL] at d1 b1 hac
    have hb1 := bulk_pos y
    have hb2 := bulk_posL ys
    have hp1 := pos y
    have hp2 := posL ys
    simp only [errL] at he
    rcases e1 : err D M E y (deep + 1) m with _ | e
    rotate_left 1
    · rw [e1] at he; cases he
    rw [e1] at he
    obtain ⟨K1, H1⟩ := val_comp D M E hE y l p (bytesL ys ++ r) m (deep + 1) a hr.1 hf.1 e1 (by omega) (by omega) (by omega) (by rw [hl]; simp [bytesL, List.append_assoc]) ha
    obtain ⟨K2, H2⟩ := vals_comp D M E hE ys l (p ++ Pc.bytesOf y) r (acc ++ [y]) (m + count y) deep (a + ((Pc.bytesOf y).length : Int)) hr.2 hf.2 he d0 (by omega) (by omega) (by simp only [List.length_append, List.length_cons, List.length_nil]; omega) (by rw [hl]; simp [bytesL, List.append_assoc]) (by simp only [List.length_append]; omega)
    refine ⟨max K1 K2 + 1, fun k hk => ?_⟩
    obtain ⟨k, rfl⟩ : ∃ k', k = k' + 1 := ⟨k - 1, by omega⟩
    simp only [vals, List.length_cons]
    rw [if_pos (by omega), w64 (x := deep + 1) (by omega) (by omega), H1 k (by omega), Option.bind_some]
    simp only
    rw [if_pos (by omega), show ((ys.length + 1 : Nat) : Int) - 1 = (ys.length : Int) by omega, H2 k (by omega)]
    simp only [bytesL, countL, List.append_assoc, List.singleton_append, List.length_append, Option.some.injEq, Sum.inl.injEq, Prod.mk.injEq]
    refine ⟨trivial, by omega, by omega⟩
end
mutual
theorem val_cut (D M E : Int) (hE : E ≤ 9223372036854775807) : ∀ (x : S26) (l p : List Int) (c : Nat) (m deep a : Int), right x = true → fit x → err D M E x deep m = none → 0 ≤ deep → deep + bulk x ≤ 1000000000 → bulk x ≤ 1000000000 → c < (Pc.bytesOf x).length → l = p ++ (Pc.bytesOf x).take c → a = p.length →
    ∃ (K : Nat) (q : Int), 0 ≤ q ∧ q ≤ (l.length : Int) ∧ ∀ k, K ≤ k → val k l D M E deep a m = some (.inr (q, 20))
  | ⟨f0, f1, f2, f3⟩, l, p, c, m, deep, a, hr, hf, he, d0, d1, b1, hc, hl, ha => by
    have hn := (err_none D M E ⟨f0, f1, f2, f3⟩ deep m).1 he
    simp only [depth, count, each] at hn
    have hpl := posL f3
    have hbl := bulk_posL f3
    simp only [right, Bool.or_eq_true, Bool.and_eq_true, decide_eq_true_eq, List.isEmpty_iff] at hr
    simp only [fit] at hf
    simp only [bulk] at d1 b1
    by_cases c0 : c = 0
    · subst c0
      refine ⟨1, a, by omega, by rw [hl]; simp only [List.length_append]; omega, fun k hk => ?_⟩
      obtain ⟨k, rfl⟩ : ∃ k', k = k' + 1 := ⟨k - 1, by omega⟩
      simp only [val]
      rw [if_pos (by rw [hl]; simpa using ha)]
    obtain ⟨c, rfl⟩ : ∃ c', c = c' + 1 := ⟨c - 1, by omega⟩
    obtain ⟨q, hq⟩ : ∃ q, Pc.bytesOf ⟨f0, f1, f2, f3⟩ = f0 :: q := ⟨_, by simp only [Pc.bytesOf]; rfl⟩
    rw [hq, List.take_succ_cons] at hl
    obtain ⟨hrd, hlt⟩ := rd_head l p (q.take c) f0 a hl ha
    have hq2 := hq
    rw [hq] at hc
    simp only [List.length_cons] at hc
    have hll : (l.length : Int) = a + 1 + c := by rw [hl, ha]; simp only [List.length_append, List.length_cons, List.length_take]; omega
    rcases hr with (⟨rfl, rfl, rfl⟩ | ⟨rfl, rfl, rfl⟩) | ⟨⟨rfl, rfl, rfl⟩, hl3⟩
    · simp only [Pc.bytesOf, if_true, List.cons.injEq, true_and] at hq2
      subst hq2
      refine ⟨1, a + 1, by omega, by omega, fun k hk => ?_⟩
      obtain ⟨k, rfl⟩ : ∃ k', k = k' + 1 := ⟨k - 1, by omega⟩
      simp only [val]
      rw [if_neg (by omega), if_neg (by omega), if_neg (by omega), if_pos hrd, cnt_cut l (p ++ [1]) c f1 (a + 1) hf.1.1 hf.1.2 (by omega) (by rw [hl]; simp [List.append_assoc]) (by simp only [List.length_append, List.length_cons, List.length_nil]; omega)]
    · simp only [Pc.bytesOf, List.cons.injEq, true_and] at hq2
      rw [if_neg (by omega), if_pos trivial] at hq2
      subst hq2
      by_cases c4 : c < (enc (f2.length : Int)).length
      · refine ⟨1, a + 1, by omega, by omega, fun k hk => ?_⟩
        obtain ⟨k, rfl⟩ : ∃ k', k = k' + 1 := ⟨k - 1, by omega⟩
        simp only [val, byts]
        rw [if_neg (by omega), if_neg (by omega), if_neg (by omega), if_neg (by omega), if_pos hrd, cnt_cut l (p ++ [2]) c (f2.length : Int) (a + 1) (by omega) (by omega) c4 (by rw [hl, List.take_append_of_le_length (by omega)]; simp [List.append_assoc]) (by simp only [List.length_append, List.length_cons, List.length_nil]; omega)]
      · refine ⟨1, a + 1 + ((enc (f2.length : Int)).length : Int), by omega, by omega, fun k hk => ?_⟩
        obtain ⟨k, rfl⟩ : ∃ k', k = k' + 1 := ⟨k - 1, by omega⟩
        simp only [List.length_append] at hc
        have hm : mx 0 E ≤ 9223372036854775807 := by rw [mx_val]; by_cases c : 0 < E <;> simp only [c, if_true, if_false] <;> omega
        simp only [val, byts]
        rw [if_neg (by omega), if_neg (by omega), if_neg (by omega), if_neg (by omega), if_pos hrd, cnt_mid l (p ++ [2]) (f2.take (c - (enc (f2.length : Int)).length)) (f2.length : Int) (a + 1) (by omega) (by omega) (by rw [hl, List.take_append, List.take_of_length_le (by omega)]; simp [List.append_assoc]) (by simp only [List.length_append, List.length_cons, List.length_nil]; omega)]
        simp only
        rw [wu64 (mx0 E) (by omega), if_neg (by omega), if_pos (by omega)]
    · simp only [Pc.bytesOf, List.cons.injEq, true_and] at hq2
      rw [if_neg (by omega), if_neg (by omega)] at hq2
      subst hq2
      by_cases c4 : c < (enc (f3.length : Int)).length
      · refine ⟨1, a + 1, by omega, by omega, fun k hk => ?_⟩
        obtain ⟨k, rfl⟩ : ∃ k', k = k' + 1 := ⟨k - 1, by omega⟩
        simp only [val]
        rw [if_neg (by omega), if_neg (by omega), if_neg (by omega), if_neg (by omega), if_neg (by omega), if_pos hrd, cnt_cut l (p ++ [3]) c (f3.length : Int) (a + 1) (by omega) (by omega) c4 (by rw [hl, List.take_append_of_le_length (by omega)]; simp [List.append_assoc]) (by simp only [List.length_append, List.length_cons, List.length_nil]; omega)]
      · have he2 : errL D M E f3 (deep + 1) (m + 1) = none := (errL_none D M E f3 (deep + 1) (m + 1) (by omega) (by omega)).2 (by omega)
        have hl2 : l = p ++ [3] ++ enc (f3.length : Int) ++ (bytesL f3).take (c - (enc (f3.length : Int)).length) := by rw [hl, List.take_append, List.take_of_length_le (l := enc (f3.length : Int)) (by omega)]; simp [List.append_assoc]
        obtain ⟨K, q, q0, q1, HK⟩ := vals_cut D M E hE f3 l (p ++ [3] ++ enc (f3.length : Int)) (c - (enc (f3.length : Int)).length) [] (m + 1) deep (a + 1 + ((enc (f3.length : Int)).length : Int)) hl3 hf.2.2 he2 d0 (by simp only [List.length_nil] at d1; omega) (by simp only [List.length_nil] at b1; omega) (by simp only [List.length_nil]; omega)
          (by simp only [List.length_append] at hc; omega) hl2 (by simp only [List.length_append, List.length_cons, List.length_nil]; omega)
        refine ⟨K + 1, q, q0, q1, fun k hk => ?_⟩
        obtain ⟨k, rfl⟩ : ∃ k', k = k' + 1 := ⟨k - 1, by omega⟩
        simp only [val]
        rw [if_neg (by omega), if_neg (by omega), if_neg (by omega), if_neg (by omega), if_neg (by omega), if_pos hrd, cnt_mid l (p ++ [3]) ((bytesL f3).take (c - (enc (f3.length : Int)).length)) (f3.length : Int) (a + 1) (by omega) (by omega) (by rw [hl2]) (by simp only [List.length_append, List.length_cons, List.length_nil]; omega)]
        simp only
        rw [HK k (by omega)]
theorem vals_cut (D M E : Int) (hE : E ≤ 9223372036854775807) : ∀ (ys : List S26) (l p : List Int) (c : Nat) (acc : List S26) (m deep a : Int), rightL ys = true → fitL ys → errL D M E ys (deep + 1) m = none → 0 ≤ deep → deep + 1 + bulkL ys ≤ 1000000000 → bulkL ys ≤ 1000000000 → acc.length + bulkL ys ≤ 1000000000 → c < (bytesL ys).length → l = p ++ (bytesL ys).take c → a = p.length →
    ∃ (K : Nat) (q : Int), 0 ≤ q ∧ q ≤ (l.length : Int) ∧ ∀ k, K ≤ k → vals k l D M E deep (ys.length : Int) a m acc = some (.inr (q, 20))
  | [], l, p, c, acc, m, deep, a, hr, hf, he, d0, d1, b1, hac, hc, hl, ha => by simp [bytesL] at hc
  | y :: ys, l, p, c, acc, m, deep, a, hr, hf, he, d0, d1, b1, hac, hc, hl, ha => by
    simp only [rightL, Bool.and_eq_true] at hr
    simp only [fitL] at hf
    simp only [bulkL] at d1 b1 hac
    have hb1 := bulk_pos y
    have hb2 := bulk_posL ys
    have hp1 := pos y
    have hp2 := posL ys
    simp only [errL] at he
    rcases e1 : err D M E y (deep + 1) m with _ | e
    rotate_left 1
    · rw [e1] at he; cases he
    rw [e1] at he
    simp only [bytesL, List.length_append] at hc hl
    by_cases c1 : c < (Pc.bytesOf y).length
    · obtain ⟨K, q, q0, q1, HK⟩ := val_cut D M E hE y l p c m (deep + 1) a hr.1 hf.1 e1 (by omega) (by omega) (by omega) c1 (by rw [hl, List.take_append_of_le_length (by omega)]) ha
      refine ⟨K + 1, q, q0, q1, fun k hk => ?_⟩
      obtain ⟨k, rfl⟩ : ∃ k', k = k' + 1 := ⟨k - 1, by omega⟩
      simp only [vals, List.length_cons]
      rw [if_pos (by omega), w64 (x := deep + 1) (by omega) (by omega), HK k (by omega), Option.bind_some]
    · have hl2 : l = p ++ Pc.bytesOf y ++ (bytesL ys).take (c - (Pc.bytesOf y).length) := by rw [hl, List.take_append, List.take_of_length_le (l := Pc.bytesOf y) (by omega)]; simp [List.append_assoc]
      obtain ⟨K1, H1⟩ := val_comp D M E hE y l p ((bytesL ys).take (c - (Pc.bytesOf y).length)) m (deep + 1) a hr.1 hf.1 e1 (by omega) (by omega) (by omega) hl2 ha
      obtain ⟨K2, q, q0, q1, H2⟩ := vals_cut D M E hE ys l (p ++ Pc.bytesOf y) (c - (Pc.bytesOf y).length) (acc ++ [y]) (m + count y) deep (a + ((Pc.bytesOf y).length : Int)) hr.2 hf.2 he d0 (by omega) (by omega) (by simp only [List.length_append, List.length_cons, List.length_nil]; omega) (by omega) hl2 (by simp only [List.length_append]; omega)
      refine ⟨max K1 K2 + 1, q, q0, q1, fun k hk => ?_⟩
      obtain ⟨k, rfl⟩ : ∃ k', k = k' + 1 := ⟨k - 1, by omega⟩
      simp only [vals, List.length_cons]
      rw [if_pos (by omega), w64 (x := deep + 1) (by omega) (by omega), H1 k (by omega), Option.bind_some]
      simp only
      rw [if_pos (by omega), show ((ys.length + 1 : Nat) : Int) - 1 = (ys.length : Int) by omega, H2 k (by omega)]
end
end Go.Proofs.Ytgijcafgnonjjaa.Pw
