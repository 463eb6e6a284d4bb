/- Fixed calls and size of the vocabularies' laws, plainly. -/
import Derived.Test.YtlgagppdipdkeaaPkV
import Derived.Test.YtlgagppdipdkeaaK4V
namespace Go.Proofs.Ytlgagppdipdkeaa.Pk
set_option linter.unusedVariables false
set_option linter.unusedSimpArgs false
open Go.RowKit Go.Proofs.YtlgagppdipdkeaaW.PrintWords Go.Proofs.Ytlgagppdipdkeaa.Q Go.Proofs.Ytlgagppdipdkeaa.X Go.Proofs.Ytlgagppdipdkeaa.R Go.Proofs.Ytlgagppdipdkeaa.K
/-! ### the size -/
def Lens (ts : List S44) : Prop := ∀ j, 0 ≤ j → j < (ts.length : Int) → (rd_T44 ts j).f0.length ≤ 140737488355328
theorem size_l0 (ts : List S44) (ms : List S50) (hl : ts.length ≤ 10000000000000) (hn : Lens ts) : ∀ (d : Nat) (i n : Int), 0 ≤ i → i + d = ts.length → 0 ≤ n → n ≤ 200000000000000 →
    ∃ v, (∀ k, d + 1 ≤ k → imprimaturref11_Size.l0 k 1500 n i ts ms = some v) ∧ n ≤ v ∧ (v ≤ 1500 → n + d ≤ v) := by
  intro d
  induction d with
  | zero =>
    intro i n h0 h1 h2 h3
    refine ⟨n, fun k hk => ?_, Int.le_refl _, fun _ => by omega⟩
    obtain ⟨k, rfl⟩ : ∃ k', k = k' + 1 := ⟨k - 1, by omega⟩
    rw [imprimaturref11_Size.l0, if_neg (by omega)]
  | succ d ih =>
    intro i n h0 h1 h2 h3
    by_cases c : n ≤ 1500
    · have hb := hn i h0 (by omega)
      have hw : wrap64 ((wrap64 (n + 1)) + ((rd_T44 ts i).f0.length : Int)) = n + 1 + ((rd_T44 ts i).f0.length : Int) := by unfold wrap64; omega
      have hw2 : wrap64 (i + 1) = i + 1 := by unfold wrap64; omega
      obtain ⟨v, g1, g2, g3⟩ := ih (i + 1) (n + 1 + ((rd_T44 ts i).f0.length : Int)) (by omega) (by omega) (by omega) (by omega)
      refine ⟨v, fun k hk => ?_, by omega, fun hv => by have := g3 hv; omega⟩
      obtain ⟨k, rfl⟩ : ∃ k', k = k' + 1 := ⟨k - 1, by omega⟩
      rw [imprimaturref11_Size.l0, if_pos (by omega), if_pos c, if_pos h0, hw, hw2]
      exact g1 k (by omega)
    · refine ⟨n, fun k hk => ?_, Int.le_refl _, fun hv => absurd hv c⟩
      obtain ⟨k, rfl⟩ : ∃ k', k = k' + 1 := ⟨k - 1, by omega⟩
      rw [imprimaturref11_Size.l0, if_pos (by omega), if_neg c]
theorem great_ev (ts : List S44) (ms : List S50) (hl : ts.length ≤ 10000000000000) (hm : ms.length ≤ 10000000000000) (hn : Lens ts) : ∃ b, (∀ k, ts.length + 1 ≤ k → imprimaturlaw11_great.f k ts ms = some b) ∧ (b = false → ts.length + ms.length ≤ 1500) := by
  obtain ⟨v, g1, g2, g3⟩ := size_l0 ts ms hl hn ts.length 0 ms.length (Int.le_refl _) (by omega) (by omega) (by omega)
  by_cases c : v > 1500
  · refine ⟨true, fun k hk => ?_, fun h => by cases h⟩
    unfold imprimaturlaw11_great.f imprimaturref11_Size.f
    rw [g1 k hk, Option.bind_some, if_pos c]
  · have hle : ts.length + ms.length ≤ 1500 := by have := g3 (by omega); omega
    have : ∃ b, (if (ts.length : Int) > 400 then (if (ts.length : Int) ≤ 4096 then (some true) else (if (ms.length : Int) > 200 then (some (decide ((ms.length : Int) ≤ 4096))) else (some false))) else (if (ms.length : Int) > 200 then (some (decide ((ms.length : Int) ≤ 4096))) else (some false))) = some b := by
      repeat' split
      all_goals exact ⟨_, rfl⟩
    obtain ⟨b, hb⟩ := this
    refine ⟨b, fun k hk => ?_, fun _ => hle⟩
    unfold imprimaturlaw11_great.f imprimaturref11_Size.f
    rw [g1 k hk, Option.bind_some, if_neg c, hb]
/-! ### the letters -/
def lets (n : Nat) : List S44 := (List.range n).map fun c : Nat => (⟨[(c : Int)], 0, false⟩ : S44)
theorem lets_len (n : Nat) : (lets n).length = n := by simp [lets]
theorem lets_at (n : Nat) (j : Int) (h0 : 0 ≤ j) (h1 : j < n) : rd_T44 (lets n) j = ⟨[j], 0, false⟩ := by
  unfold rd_T44 lets
  rw [List.getD_eq_getElem?_getD, List.getElem?_map, List.getElem?_range (by omega)]
  simp
  omega
theorem str_one {a b : Int} (h0 : 0 ≤ a) (h1 : a < 256) (g0 : 0 ≤ b) (g1 : b < 256) (h : strOfNums [a] = strOfNums [b]) : a = b := by
  have h2 : (strOfNums [a]).data.toList = (strOfNums [b]).data.toList := by rw [h]
  rw [str_data, str_data] at h2
  simp only [List.map_cons, List.map_nil, List.cons.injEq, and_true] at h2
  have h3 := congrArg UInt8.toNat h2
  simp only [UInt8.toNat_ofNat'] at h3
  omega
theorem tokEr_let (j : Int) : tokEr ⟨[j], 0, false⟩ = 0 := by
  have hv : X.vld 0 = true := by kernel_rfl
  have ho : FloatKind.f64.format.order 0 0 = some .eq := by kernel_rfl
  unfold tokEr
  simp only [hv, ho]
  simp
theorem lets_tk (n : Nat) (hn : n ≤ 256) : ∀ (d : Nat) (i : Int) (I : Ids), 0 ≤ i → i + d = n → IdOk (lets n) I i → ∃ J, tkGo (lets n) d i I = .inr J ∧ IdOk (lets n) J n := by
  intro d
  induction d with
  | zero => intro i I h0 h1 hI; exact ⟨I, rfl, by rw [show (n : Int) = i by omega]; exact hI⟩
  | succ d ih =>
    intro i I h0 h1 hI
    have e := lets_at n i h0 (by omega)
    have hno : (I (strOfNums (rd_T44 (lets n) i).f0)).isSome = false := by
      cases c : I (strOfNums (rd_T44 (lets n) i).f0) with
      | none => rfl
      | some j =>
        obtain ⟨a1, a2, a3⟩ := hI.2 _ j c
        rw [e, lets_at n j a1 (by omega)] at a3
        have := str_one a1 (by omega) h0 (by omega) a3
        omega
    have ht : tkGo (lets n) (d + 1) i I = tkGo (lets n) d (i + 1) (put I (strOfNums (rd_T44 (lets n) i).f0) i) := by
      have : tokEr (rd_T44 (lets n) i) = 0 := by rw [e]; exact tokEr_let i
      simp [tkGo, tok, this, hno]
    rw [ht]
    exact ih (i + 1) _ (by omega) (by omega) (idOk_put hI h0 hno)
theorem lets_alp (n : Nat) (hn : n ≤ 256) (J : Ids) (hJ : IdOk (lets n) J n) : ∀ (d : Nat) (c : Int), 0 ≤ c → c ≤ n → c + d = 256 → alpGo (lets n) J d c = n := by
  intro d
  induction d with
  | zero => intro c h0 h1 h2; rw [alpGo]; omega
  | succ d ih =>
    intro c h0 h1 h2
    rw [alpGo]
    by_cases cc : c = n
    · have : noShort (lets n) J c = true := by
        unfold noShort
        cases e : J (strOfNums [c]) with
        | none => rfl
        | some j =>
          obtain ⟨a1, a2, a3⟩ := hJ.2 _ j e
          rw [lets_at n j a1 a2] at a3
          have := str_one a1 (by omega) h0 (by omega) a3
          omega
      rw [if_pos this, cc]
    · have hc := hJ.1 c h0 (by omega)
      rw [lets_at n c h0 (by omega)] at hc
      have : noShort (lets n) J c = false := by
        unfold noShort
        rw [hc]
        simp only
        rw [lets_at n c h0 (by omega)]
      rw [this, if_neg (by simp)]
      exact ih (c + 1) (by omega) (by omega) (by omega)
theorem lets_fn (n : Nat) (mk : List Bool) : ∀ (d : Nat) (i : Int), 0 ≤ i → i + d = n → fnGo (lets n) mk d i = none := by
  intro d
  induction d with
  | zero => intro i h0 h1; rfl
  | succ d ih =>
    intro i h0 h1
    rw [fnGo, if_neg, ih (i + 1) (by omega) (by omega)]
    rintro ⟨_, h⟩
    unfold thereB at h
    rw [lets_at n i h0 (by omega)] at h
    simp [shortB] at h
theorem chk_256 : chk (lets 256) [] = some (0, 0, 0) := by
  obtain ⟨J, h1, h2⟩ := lets_tk 256 (by omega) 256 0 (fun _ => none) (by omega) (by omega) (idOk_zero _)
  unfold chk
  rw [lets_len, if_neg (by simp), if_neg (by simp), h1]
  simp only
  unfold chkI
  rw [lets_alp 256 (by omega) J h2 256 0 (by omega) (by omega) (by omega), if_neg (by simp)]
  simp only [List.length_nil, mgGo, Option.bind_some]
  unfold chkM
  rw [lets_fn 256 _ _ 0 (by omega) (by rw [lets_len]; omega)]
theorem chk_255 : chk (lets 255) [] = some (2, 255, 91) := by
  obtain ⟨J, h1, h2⟩ := lets_tk 255 (by omega) 255 0 (fun _ => none) (by omega) (by omega) (idOk_zero _)
  unfold chk
  rw [lets_len, if_neg (by simp), if_neg (by simp), h1]
  simp only
  unfold chkI
  rw [lets_alp 255 (by omega) J h2 256 0 (by omega) (by omega) (by omega), if_pos (by simp)]
  rfl
theorem letters_l0 : ∀ (d : Nat) (n : Nat), n + d = 256 → ∀ k, d + 1 ≤ k → imprimaturlaw11_letters.l0 k (n : Int) (lets n) = some (lets 256, []) := by
  intro d
  induction d with
  | zero =>
    intro n h k hk
    obtain ⟨k, rfl⟩ : ∃ k', k = k' + 1 := ⟨k - 1, by omega⟩
    rw [imprimaturlaw11_letters.l0, if_neg (by omega), show n = 256 by omega]
  | succ d ih =>
    intro n h k hk
    obtain ⟨k, rfl⟩ : ∃ k', k = k' + 1 := ⟨k - 1, by omega⟩
    have hw : wrap64 ((n : Int) + 1) = ((n + 1 : Nat) : Int) := by unfold wrap64; omega
    have hm : (n : Int) % 256 = n := by omega
    rw [imprimaturlaw11_letters.l0, if_pos (by omega), lets_len, if_pos (by omega), hw, hm]
    have e : lets n ++ [(⟨[(n : Int)], 0, false⟩ : S44)] = lets (n + 1) := by simp [lets, List.range_succ]
    rw [e]
    exact ih (n + 1) (by omega) k (by omega)
theorem known_ev : ∀ k, 300 ≤ k → imprimaturlaw11_known.f k = some true := by
  intro k hk
  have hl : imprimaturlaw11_letters.f k = some (lets 256, []) := letters_l0 256 0 (by omega) k (by omega)
  have ht : (lets 256).take (255 : Int).toNat = lets 255 := by
    unfold lets
    rw [← List.map_take, show (255 : Int).toNat = 255 from rfl, List.take_range, show min 255 256 = 255 from rfl]
  have c1 : vocab_Check.f (lets 256) [] = some (0, 0, 0) := by unfold vocab_Check.f; rw [lets_len, if_pos (by simp), chk_256]
  have c2 : vocab_Check.f (lets 255) [] = some (2, 255, 91) := by unfold vocab_Check.f; rw [lets_len, if_pos (by simp), chk_255]
  have c3 : imprimaturref01_Of.f true 0 0 = some 9223372036854775808 := by kernel_rfl
  have c4 : score_Valid.f 9223372036854775808 = some false := by kernel_rfl
  have c5 : vocab_Write.f k [(⟨[], 9223372036854775808, false⟩ : S44)] [] = some ([], 10) := by
    unfold vocab_Write.f wire_Score.f score_Bytes.f
    simp only [c4, Option.bind_some]
    rfl
  unfold imprimaturlaw11_known.f
  rw [hl]
  simp only [Option.bind_some, c1, lets_len, ht, c2, c3, c5]
  rfl
end Go.Proofs.Ytlgagppdipdkeaa.Pk
