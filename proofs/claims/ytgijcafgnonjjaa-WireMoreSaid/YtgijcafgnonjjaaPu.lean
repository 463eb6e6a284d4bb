/- What reading answers, plain: a value's own bytes are read as it; bytes that are read are a value's; cut off they are short. -/
import Derived.Test.YtgijcafgnonjjaaPx
namespace Go.Proofs.Ytgijcafgnonjjaa.Pw
open Go.RowKit Go.Proofs.YtgijcafgnonjjaaW.PrintWords Go.Proofs.Ytgijcafgnonjjaa.Q Go.Proofs.Ytgijcafgnonjjaa.X Go.Proofs.Ytgijcafgnonjjaa.Pc
set_option linter.unusedVariables false
set_option linter.unusedSimpArgs false
mutual
theorem bulk_bytes : ∀ x : S26, right x = true → bulk x ≤ ((Pc.bytesOf x).length : Int)
  | ⟨k, n, b, l⟩, h => by
    simp only [Pc.bytesOf, bulk, List.length_cons]
    simp only [right, Bool.or_eq_true, Bool.and_eq_true, decide_eq_true_eq, List.isEmpty_iff] at h
    rcases h with (⟨rfl, rfl, rfl⟩ | ⟨rfl, _, rfl⟩) | ⟨⟨rfl, _, rfl⟩, hl⟩
    · simp only [bulkL, List.length_nil, if_true]
      omega
    · rw [if_neg (by omega), if_pos rfl]
      simp only [bulkL, List.length_append]
      omega
    · have h2 := bulk_bytesL l hl
      rw [if_neg (by omega), if_neg (by omega)]
      simp only [List.length_append, List.length_nil]
      omega
theorem bulk_bytesL : ∀ l : List S26, rightL l = true → bulkL l ≤ ((bytesL l).length : Int)
  | [], _ => by simp [bulkL, bytesL]
  | x :: xs, h => by
    simp only [rightL, Bool.and_eq_true] at h
    have h1 := bulk_bytes x h.1
    have h2 := bulk_bytesL xs h.2
    simp only [bulkL, bytesL, List.length_append]
    omega
end
theorem enc_byte (n : Int) (h0 : 0 ≤ n) (x : Int) (hx : x ∈ enc n) : 0 ≤ x ∧ x ≤ 255 := by
  have h := enc_okb n h0
  unfold okb at h
  simp only [Bool.and_eq_true, decide_eq_true_eq, List.all_eq_true] at h
  exact h.2 x hx
mutual
theorem bytes_byte : ∀ x : S26, right x = true → fit x → ∀ y ∈ Pc.bytesOf x, 0 ≤ y ∧ y ≤ 255
  | ⟨k, n, b, l⟩, h, hf, y, hy => by
    simp only [right, Bool.or_eq_true, Bool.and_eq_true, decide_eq_true_eq, List.isEmpty_iff] at h
    simp only [fit] at hf
    simp only [Pc.bytesOf, List.mem_cons] at hy
    rcases h with (⟨rfl, rfl, rfl⟩ | ⟨rfl, _, rfl⟩) | ⟨⟨rfl, _, rfl⟩, hl⟩
    · rcases hy with rfl | hy
      · omega
      · rw [if_pos rfl] at hy
        exact enc_byte n hf.1.1 y hy
    · rcases hy with rfl | hy
      · omega
      · rw [if_neg (by omega), if_pos rfl, List.mem_append] at hy
        rcases hy with hy | hy
        · exact enc_byte _ (by omega) y hy
        · exact hf.2.1 y hy
    · rcases hy with rfl | hy
      · omega
      · rw [if_neg (by omega), if_neg (by omega), List.mem_append] at hy
        rcases hy with hy | hy
        · exact enc_byte _ (by omega) y hy
        · exact bytes_byteL l hl hf.2.2 y hy
theorem bytes_byteL : ∀ l : List S26, rightL l = true → fitL l → ∀ y ∈ bytesL l, 0 ≤ y ∧ y ≤ 255
  | [], _, _, y, hy => by simp [bytesL] at hy
  | x :: xs, h, hf, y, hy => by
    simp only [rightL, Bool.and_eq_true] at h
    simp only [fitL] at hf
    simp only [bytesL, List.mem_append] at hy
    rcases hy with hy | hy
    · exact bytes_byte x h.1 hf.1 y hy
    · exact bytes_byteL xs h.2 hf.2 y hy
end
theorem okb_mk {l : List Int} (hl : l.length ≤ 140737488355328) (h : ∀ x ∈ l, 0 ≤ x ∧ x ≤ 255) : okb l = true := by
  unfold okb
  simp only [Bool.and_eq_true, decide_eq_true_eq, List.all_eq_true]
  exact ⟨hl, h⟩
theorem fitL_append : ∀ (xs ys : List S26), fitL xs → fitL ys → fitL (xs ++ ys)
  | [], ys, _, h => h
  | x :: xs, ys, h1, h2 => by
    simp only [fitL, List.cons_append] at h1 ⊢
    exact ⟨h1.1, fitL_append xs ys h1.2 h2⟩
theorem byts_fit (l : List Int) (hby : ∀ i, 0 ≤ rd l i ∧ rd l i ≤ 255) (a E : Int) (bs : List Int) (a' : Int) (h : byts l a E = .inl (bs, a')) : ∀ y ∈ bs, 0 ≤ y ∧ y ≤ 255 := by
  unfold byts at h
  rcases hcr : cnt l a with ⟨n, a2⟩ | e
  · rw [hcr] at h
    replace h : (if n > IntKind.u64.wrap (mx 0 E) then .inr (a, 2) else if n > (l.length : Int) - a2 then .inr (a2, 20) else .inl ((l.take (a2 + n).toNat).drop a2.toNat, a2 + n) : (List Int × Int) ⊕ (Int × Int)) = .inl (bs, a') := h
    by_cases c1 : n > IntKind.u64.wrap (mx 0 E)
    · rw [if_pos c1] at h; cases h
    rw [if_neg c1] at h
    by_cases c2 : n > (l.length : Int) - a2
    · rw [if_pos c2] at h; cases h
    rw [if_neg c2] at h
    simp only [Sum.inl.injEq, Prod.mk.injEq] at h
    intro y hy
    rw [← h.1] at hy
    exact byte_mem l hby y (List.mem_of_mem_take (List.mem_of_mem_drop hy))
  · rw [hcr] at h; cases h
theorem val_fit (l : List Int) (hby : ∀ i, 0 ≤ rd l i ∧ rd l i ≤ 255) (D M E : Int) : ∀ k : Nat,
    (∀ (a m deep : Int) (x : S26) (a' m' : Int), 0 ≤ a → a ≤ l.length → val k l D M E deep a m = some (.inl (x, a', m')) → fit x) ∧
    (∀ (n a m deep : Int) (acc : List S26) (x : S26) (a' m' : Int), 0 ≤ a → a ≤ l.length → fitL acc → vals k l D M E deep n a m acc = some (.inl (x, a', m')) → fit x) := by
  intro k
  induction k with
  | zero => exact ⟨fun _ _ _ _ _ _ _ _ h => by simp [val] at h, fun _ _ _ _ _ _ _ _ _ _ _ h => by simp [vals] at h⟩
  | succ k ih =>
  obtain ⟨ih0, ih1⟩ := ih
  refine ⟨?_, ?_⟩
  · intro a m deep x a' m' h0 h1 h
    simp only [val] at h
    by_cases c1 : a = l.length
    · rw [if_pos c1] at h; cases h
    rw [if_neg c1] at h
    by_cases c2 : deep > D
    · rw [if_pos c2] at h; cases h
    rw [if_neg c2] at h
    by_cases c3 : m ≥ M
    · rw [if_pos c3] at h; cases h
    rw [if_neg c3] at h
    by_cases e1 : rd l a = 1
    · rw [if_pos e1] at h
      rcases hc : cnt l (a + 1) with ⟨n, a2⟩ | e
      · rw [hc] at h
        have hok := cnt_ok l hby (a + 1) (by omega) n a2 hc
        simp only [Option.some.injEq, Sum.inl.injEq, Prod.mk.injEq] at h
        obtain ⟨rfl, rfl, rfl⟩ := h
        exact ⟨⟨hok.1, by omega⟩, by simp, trivial⟩
      · rw [hc] at h; cases h
    rw [if_neg e1] at h
    by_cases e2 : rd l a = 2
    · rw [if_pos e2] at h
      rcases hc : byts l (a + 1) E with ⟨bs, a2⟩ | e
      · rw [hc] at h
        have hs := byts_fit l hby (a + 1) E bs a2 hc
        simp only [Option.some.injEq, Sum.inl.injEq, Prod.mk.injEq] at h
        obtain ⟨rfl, rfl, rfl⟩ := h
        exact ⟨by omega, hs, trivial⟩
      · rw [hc] at h; cases h
    rw [if_neg e2] at h
    by_cases e3 : rd l a = 3
    · rw [if_pos e3] at h
      rcases hc : cnt l (a + 1) with ⟨n, a2⟩ | e
      · rw [hc] at h
        have hok := cnt_ok l hby (a + 1) (by omega) n a2 hc
        exact ih1 n a2 (m + 1) deep [] x a' m' (by omega) hok.2.2.2 trivial h
      · rw [hc] at h; cases h
    · rw [if_neg e3] at h; cases h
  · intro n a m deep acc x a' m' h0 h1 hac h
    simp only [vals] at h
    by_cases c1 : n > 0
    · rw [if_pos c1] at h
      obtain ⟨r, hv, h⟩ := Option.bind_eq_some_iff.mp h
      rcases r with ⟨y, a2, m2⟩ | e
      · replace h : (if acc.length < 2199023255552 then vals k l D M E deep (n - 1) a2 m2 (acc ++ [y]) else none) = some (.inl (x, a', m')) := h
        by_cases c2 : acc.length < 2199023255552
        rotate_left 1
        · rw [if_neg c2] at h; cases h
        rw [if_pos c2] at h
        have hv2 := val_ok l hby D M E k (wrap64 (deep + 1)) a m y a2 m2 h0 h1 hv
        exact ih1 (n - 1) a2 m2 deep (acc ++ [y]) x a' m' (by omega) hv2.2.1 (fitL_append acc [y] hac ⟨ih0 a m _ y a2 m2 h0 h1 hv, trivial⟩) h
      · cases h
    · rw [if_neg c1] at h
      simp only [Option.some.injEq, Sum.inl.injEq, Prod.mk.injEq] at h
      obtain ⟨rfl, rfl, rfl⟩ := h
      exact ⟨by omega, by simp, hac⟩
/-- What reading answers: a value whose bytes these are, within the limits; or what is wrong. -/
theorem read_cases (l : List Int) (hk : okb l = true) (hl : l.length ≤ 200000) (B D M E : Int) (hE : E ≤ 9223372036854775807) : ∃ K r, (∀ k, K ≤ k → wire_Read.f k l B D M E = some r) ∧
    ((∃ x : S26, r = (x.f0, x.f1, x.f2, x.f3, 0, 0) ∧ right x = true ∧ fit x ∧ l = Pc.bytesOf x ∧ err D M E x 1 0 = none ∧ (l.length : Int) ≤ mx 0 B) ∨ (∃ p e : Int, e ≠ 0 ∧ r = (0, 0, [], [], p, e))) := by
  have hby := okb_rd hk
  by_cases cB : mx 0 B < (l.length : Int)
  · refine ⟨0, (0, 0, [], [], 0, 2), fun k hk2 => ?_, Or.inr ⟨0, 2, by omega, rfl⟩⟩
    unfold wire_Read.f
    rw [if_pos hk, if_pos cB]
  obtain ⟨r, hr, hr2⟩ := (val_total l hby (by omega) D M E 200000).1 0 0 1 400003 (Int.le_refl _) (by omega) (by omega) (by omega)
  have hrd : ∀ k, 400003 ≤ k → val k l D M E 1 0 0 = some r := fun k hk => at_rounds (fun k => (val_mono k).1 l D M E 1 0 0) hk hr
  rcases r with ⟨x, a, m⟩ | ⟨p, er⟩
  · by_cases c2 : a < (l.length : Int)
    · refine ⟨400003, (0, 0, [], [], a, 25), fun k hk2 => ?_, Or.inr ⟨a, 25, by omega, rfl⟩⟩
      unfold wire_Read.f
      rw [if_pos hk, if_neg cB, hrd k hk2]
      show (if a < (l.length : Int) then _ else _) = _
      rw [if_pos c2]
    · obtain ⟨q1, q2, q3, q4, q5, q6, q7, q8⟩ := (val_sound l hby (by omega) D M E hE 400003).1 0 0 1 x a m (Int.le_refl _) (by omega) (by omega) (by omega) hr
      have hft := (val_fit l hby D M E 400003).1 0 0 1 x a m (Int.le_refl _) (by omega) hr
      refine ⟨400003, (x.f0, x.f1, x.f2, x.f3, 0, 0), fun k hk2 => ?_, Or.inl ⟨x, rfl, q1, hft, ?_, (err_none D M E x 1 0).2 (by omega), by omega⟩⟩
      · unfold wire_Read.f
        rw [if_pos hk, if_neg cB, hrd k hk2]
        show (if a < (l.length : Int) then _ else _) = _
        rw [if_neg c2]
      · rw [show (0 : Int).toNat = 0 from rfl, List.drop_zero, List.drop_eq_nil_of_le (show l.length ≤ a.toNat by omega), List.append_nil] at q2
        exact q2
  · have he := (val_err l D M E 400003).1 0 0 1 p er hr
    refine ⟨400003, (0, 0, [], [], p, er), fun k hk2 => ?_, Or.inr ⟨p, er, he, rfl⟩⟩
    unfold wire_Read.f
    rw [if_pos hk, if_neg cB, hrd k hk2]
    rfl
theorem read_of (x : S26) (hr : right x = true) (hf : fit x) (hb : bulk x ≤ 1000000) (B D M E : Int) (hE : E ≤ 9223372036854775807) (he : err D M E x 1 0 = none) (hB : ((Pc.bytesOf x).length : Int) ≤ mx 0 B) :
    ∃ K, ∀ k, K ≤ k → wire_Read.f k (Pc.bytesOf x) B D M E = some (x.f0, x.f1, x.f2, x.f3, 0, 0) := by
  have hle := bytes_le x
  obtain ⟨K, HK⟩ := val_comp D M E hE x (Pc.bytesOf x) [] [] 0 1 0 hr hf he (by omega) (by omega) (by omega) (by simp) (by simp)
  refine ⟨K, fun k hk => ?_⟩
  unfold wire_Read.f
  rw [if_pos (okb_mk (by omega) (bytes_byte x hr hf)), if_neg (by omega), HK k hk, Option.bind_some]
  simp only
  rw [if_neg (by omega)]
theorem read_cut (x : S26) (hr : right x = true) (hf : fit x) (hb : bulk x ≤ 1000000) (B D M E : Int) (hE : E ≤ 9223372036854775807) (he : err D M E x 1 0 = none) (c : Nat) (hc : c < (Pc.bytesOf x).length) (hB : (c : Int) ≤ mx 0 B) :
    ∃ (K : Nat) (q : Int), 0 ≤ q ∧ q ≤ c ∧ ∀ k, K ≤ k → wire_Read.f k ((Pc.bytesOf x).take c) B D M E = some (0, 0, [], [], q, 20) := by
  have hle := bytes_le x
  obtain ⟨K, q, q0, q1, HK⟩ := val_cut D M E hE x ((Pc.bytesOf x).take c) [] c 0 1 0 hr hf he (by omega) (by omega) (by omega) hc (by simp) (by simp)
  rw [List.length_take] at q1
  refine ⟨K, q, q0, by omega, fun k hk => ?_⟩
  unfold wire_Read.f
  rw [if_pos (okb_mk (by rw [List.length_take]; omega) (fun y hy => bytes_byte x hr hf y (List.mem_of_mem_take hy))), if_neg (by rw [List.length_take]; omega), HK k hk]
  rfl
end Go.Proofs.Ytgijcafgnonjjaa.Pw
