/- The plain statement of VocabSpells: each token is made of short ones, scores fall. No condition. -/
import Derived.Test.YtlgagppdipdkeaaPlessZ
import Derived.Test.YtlgagppdipdkeaaKSpells3Z
import Derived.OpenShut
namespace Go.Proofs.Ytlgagppdipdkeaa.Pk
set_option linter.unusedVariables false
set_option linter.unusedSimpArgs false
open Go.RowKit Go.Proofs.YtlgagppdipdkeaaW.PrintWords Go.Proofs.Ytlgagppdipdkeaa.Q Go.Proofs.Ytlgagppdipdkeaa.X Go.Proofs.Ytlgagppdipdkeaa.R Go.Proofs.Ytlgagppdipdkeaa.K Go.Proofs.Ytlgagppdipdkeaa.KSpells
def Byt (l : List Int) : Prop := ∀ x ∈ l, 0 ≤ x ∧ x < 256
theorem byt_inj : ∀ {a b : List Int}, Byt a → Byt b → (a.map fun n => UInt8.ofNat n.toNat) = (b.map fun n => UInt8.ofNat n.toNat) → a = b
  | [], [], _, _, _ => rfl
  | [], _ :: _, _, _, h => by simp at h
  | _ :: _, [], _, _, h => by simp at h
  | x :: a, y :: b, ha, hb, h => by
    simp only [List.map_cons, List.cons.injEq] at h
    have h1 := congrArg UInt8.toNat h.1
    simp only [UInt8.toNat_ofNat'] at h1
    have gx := ha x (by simp)
    have gy := hb y (by simp)
    rw [show x = y by omega, byt_inj (fun z hz => ha z (by simp [hz])) (fun z hz => hb z (by simp [hz])) h.2]
theorem cat_eq {a b c : List Int} (ha : Byt a) (hb : Byt b) (hc : Byt c) (h : (strOfNums a ++ strOfNums b).toList = (strOfNums c).toList) : a ++ b = c := by
  have e : ((strOfNums a) ++ (strOfNums b)).data.toList = ((a ++ b).map fun n => UInt8.ofNat n.toNat) := by
    rw [ByteArray.data_append, Array.toList_append, str_data, str_data, List.map_append]
  rw [Go.ByteArray.toList_eq, Go.ByteArray.toList_eq, e, str_data] at h
  refine byt_inj (fun x hx => ?_) hc h
  rcases List.mem_append.1 hx with g | g
  · exact ha x g
  · exact hb x g
def BytAll (ts : List S44) : Prop := ∀ j, 0 ≤ j → j < (ts.length : Int) → Byt (rd_T44 ts j).f0 ∧ (rd_T44 ts j).f1 < 18446744073709551616
theorem tok_len {t : S44} (h : tokEr t = 0) : t.f0.length ≤ 32 := by
  unfold tokEr at h
  by_cases c1 : (t.f0.length : Int) < 1
  · rw [if_pos c1] at h; exact absurd h (by decide)
  rw [if_neg c1] at h
  by_cases c2 : 32 < (t.f0.length : Int)
  · rw [if_pos c2] at h; exact absurd h (by decide)
  omega
def spF : Nat → Nat
  | 0 => 1
  | r + 1 => spF r + r + 3
theorem spF_mono {a b : Nat} (h : a ≤ b) : spF a ≤ spF b := by
  induction b with
  | zero => rw [show a = 0 by omega]; exact Nat.le_refl _
  | succ b ih =>
    by_cases e : a = b + 1
    · rw [e]; exact Nat.le_refl _
    · have := ih (by omega)
      show _ ≤ spF b + b + 3
      omega
theorem spelt_l0 {ts : List S44} {ms : List S50} (wf : WF ts ms) (bt : BytAll ts) (r : Nat) (hr : r ≤ ms.length) (B : Nat)
    (ih : ∀ j : Nat, j < r → ∀ id, madeB ts ms id j = true → ∀ k, B ≤ k → imprimaturlaw11_spelt.f k ts ms id j = some ((rd_T44 ts id).f0, true)) (id : Int) :
    ∀ (d i : Nat), i + d = r → mdl ms id d i = true → ∀ k, B + d ≤ k → imprimaturlaw11_spelt.l0 k id r i ts ms = some ((rd_T44 ts id).f0, true) := by
  intro d
  induction d with
  | zero => intro i h0 h1; simp [mdl] at h1
  | succ d ihd =>
    intro i h0 h1 k hk
    obtain ⟨k, rfl⟩ : ∃ k', k = k' + 1 := ⟨k - 1, by omega⟩
    have hm := wf.1.2.1
    have hw : wrap64 ((i : Int) + 1) = ((i + 1 : Nat) : Int) := by unfold wrap64; omega
    rw [imprimaturlaw11_spelt.l0, if_pos (by omega), if_pos (by omega), if_pos (by omega)]
    rw [mdl] at h1
    by_cases c : (rd_T50 ms i).f2 = id
    · rw [if_pos c]
      have g := wf.1.2.2.2.2.2 i (by omega) (by omega)
      rw [ih i (by omega) _ g.1 k (by omega), Option.bind_some, ih i (by omega) _ g.2.1 k (by omega), Option.bind_some]
      have b1 := isB_ok (madeB_isB g.1)
      have b2 := isB_ok (madeB_isB g.2.1)
      have b3 := isB_ok g.2.2.1
      have l1 := tok_len (wf.1.2.2.1 _ b1.1 b1.2.1)
      have l2 := tok_len (wf.1.2.2.1 _ b2.1 b2.2.1)
      have e := cat_eq (bt _ b1.1 b1.2.1).1 (bt _ b2.1 b2.2.1).1 (bt _ b3.1 b3.2.1).1 g.2.2.2.2.1
      simp only [List.nil_append, List.length_nil, Nat.zero_add]
      rw [if_pos (by omega), Option.bind_some, if_pos (by omega), Option.bind_some, if_pos trivial, e, c]
    · rw [if_neg c] at h1 ⊢
      rw [hw]
      exact ihd (i + 1) (by omega) (by exact_mod_cast h1) k (by omega)
theorem spelt_ok {ts : List S44} {ms : List S50} (wf : WF ts ms) (bt : BytAll ts) : ∀ (r : Nat), r ≤ ms.length → ∀ id, madeB ts ms id r = true → ∀ k, spF r ≤ k → imprimaturlaw11_spelt.f k ts ms id r = some ((rd_T44 ts id).f0, true) := by
  intro r
  induction r using Nat.strongRecOn with
  | ind r ih =>
    intro hr id hm k hk
    have hb := isB_ok (madeB_isB hm)
    have h1 : 1 ≤ spF r := spF_mono (a := 0) (by omega)
    obtain ⟨k, rfl⟩ : ∃ k', k = k' + 1 := ⟨k - 1, by omega⟩
    rw [imprimaturlaw11_spelt.f, if_pos hb.1, if_pos hb.2.1, short_r, Option.bind_some]
    by_cases c : shortB (rd_T44 ts id) = true
    · rw [if_pos c]
    · rw [if_neg c]
      have hmd : mdl ms id r 0 = true := by
        unfold madeB at hm
        simp only [Bool.and_eq_true, Bool.or_eq_true] at hm
        rcases hm.2 with g | g
        · exact absurd g c
        · exact g
      cases r with
      | zero => simp [mdl] at hmd
      | succ r =>
        refine spelt_l0 wf bt (r + 1) hr (spF r) (fun j hj id' g k' hk' => ih j hj (by omega) id' g k' (Nat.le_trans (spF_mono (by omega)) hk')) id (r + 1) 0 (by omega) hmd k ?_
        have : spF (r + 1) = spF r + r + 3 := rfl
        omega
theorem falls_ok (l : List Nat) (hl : l.length ≤ 10000) (hb : ∀ j : Int, 0 ≤ j → j < (l.length : Int) → rdOf (0 : Nat) l j < 18446744073709551616)
    (h : ∀ j : Int, 0 ≤ j → j + 1 < (l.length : Int) → ¬ M.cd (rdOf (0 : Nat) l j) < M.cd (rdOf (0 : Nat) l (j + 1))) :
    ∀ (d : Nat) (i : Int), 0 ≤ i → i + d = (l.length : Int) → ∀ k, d + 2 ≤ k → imprimaturref01_Falls.l0 k l i = some true := by
  intro d
  induction d with
  | zero =>
    intro i h0 h1 k hk
    obtain ⟨k, rfl⟩ : ∃ k', k = k' + 1 := ⟨k - 1, by omega⟩
    have hw : wrap64 (i + 1) = i + 1 := by unfold wrap64; omega
    rw [imprimaturref01_Falls.l0, hw, if_neg (by omega)]
  | succ d ih =>
    intro i h0 h1 k hk
    obtain ⟨k, rfl⟩ : ∃ k', k = k' + 2 := ⟨k - 2, by omega⟩
    have hw : wrap64 (i + 1) = i + 1 := by unfold wrap64; omega
    rw [imprimaturref01_Falls.l0, hw]
    by_cases c : i + 1 < (l.length : Int)
    · rw [if_pos c, if_pos (by omega), M.code_r _ (hb _ (by omega) c), Option.bind_some, if_pos h0, if_pos (by omega), M.code_r _ (hb _ h0 (by omega)), Option.bind_some, if_neg]
      · exact ih (i + 1) (by omega) (by omega) (k + 1) (by omega)
      · have := h i h0 c; omega
    · rw [if_neg c]
/-- The scores along the ranks. -/
def scs (ts : List S44) (ms : List S50) : List Nat := ms.map fun m => (rd_T44 ts m.f2).f1
theorem scs_at (ts : List S44) (ms : List S50) (j : Int) (h0 : 0 ≤ j) (h1 : j < (ms.length : Int)) : rdOf (0 : Nat) (scs ts ms) j = (rd_T44 ts (rd_T50 ms j).f2).f1 := by
  unfold rdOf scs rd_T50
  rw [List.getD_eq_getElem?_getD, List.getD_eq_getElem?_getD, List.getElem?_map, List.getElem?_eq_getElem (by omega)]
  rfl
theorem fin_l1 {ts : List S44} {ms : List S50} (wf : WF ts ms) (bt : BytAll ts) (h256 : 256 ≤ ts.length) : ∀ (d i : Nat), i + d = ms.length → ∀ k, d + ms.length + 302 ≤ k →
    imprimaturlaw11_VocabSpells.l1 k ((scs ts ms).take i) i ts ms = some true := by
  intro d
  have hm := wf.1.2.1
  have hln : (scs ts ms).length = ms.length := by simp [scs]
  induction d with
  | zero =>
    intro i h0 k hk
    obtain ⟨k, rfl⟩ : ∃ k', k = k' + 1 := ⟨k - 1, by omega⟩
    have hf : imprimaturref01_Falls.f k (scs ts ms) = some true := by
      unfold imprimaturref01_Falls.f
      refine falls_ok _ (by omega) (fun j a b => ?_) (fun j a b => ?_) (scs ts ms).length 0 (by omega) (by omega) k (by omega)
      · rw [scs_at ts ms j a (by omega)]
        have g := isB_ok (wf.1.2.2.2.2.2 j a (by omega)).2.2.1
        exact (bt _ g.1 g.2.1).2
      · rw [scs_at ts ms j a (by omega), scs_at ts ms (j + 1) (by omega) (by omega)]
        have g0 := isB_ok (wf.1.2.2.2.2.2 j a (by omega)).2.2.1
        have g1 := wf.1.2.2.2.2.2 (j + 1) (by omega) (by omega)
        have g2 := isB_ok g1.2.2.1
        have g3 := g1.2.2.2.2.2 (by omega)
        rw [show j + 1 - 1 = j by omega] at g3
        exact fun g4 => g3 ((cmpS_pos _ _ (bt _ g2.1 g2.2.1).2 (bt _ g0.1 g0.2.1).2).2 g4)
    rw [imprimaturlaw11_VocabSpells.l1, if_neg (by omega), List.take_of_length_le (by omega), hf, Option.bind_some, if_pos rfl, if_pos (by omega), known_ev k (by omega)]
    rfl
  | succ d ih =>
    intro i h0 k hk
    obtain ⟨k, rfl⟩ : ∃ k', k = k' + 1 := ⟨k - 1, by omega⟩
    have hw : wrap64 ((i : Int) + 1) = ((i + 1 : Nat) : Int) := by unfold wrap64; omega
    have g := isB_ok (wf.1.2.2.2.2.2 i (by omega) (by omega)).2.2.1
    rw [imprimaturlaw11_VocabSpells.l1, if_pos (by omega), if_pos (by omega), if_pos g.1, if_pos g.2.1, if_pos (by rw [List.length_take]; omega), hw]
    have e : (scs ts ms).take i ++ [(rd_T44 ts (rd_T50 ms (i : Int)).f2).f1] = (scs ts ms).take (i + 1) := by
      rw [List.take_succ_eq_append_getElem (by omega)]
      congr 1
      have := scs_at ts ms i (by omega) (by omega)
      unfold rdOf at this
      rw [List.getD_eq_getElem?_getD, List.getElem?_eq_getElem (by simp [hln]; omega)] at this
      simp only [Int.toNat_natCast, Option.getD_some] at this
      rw [this]
    rw [e]
    exact ih (i + 1) (by omega) k (by omega)
theorem fnd_self {ts : List S44} (hD : Diff ts) (i : Int) (h0 : 0 ≤ i) (h1 : i < (ts.length : Int)) : fnd ts (strOfNums (rd_T44 ts i).f0) ts.length 0 = i := by
  rcases fnd_cases ts (strOfNums (rd_T44 ts i).f0) ts.length 0 with ⟨g1, g2⟩ | ⟨g1, g2, g3, g4⟩
  · exact absurd rfl (g2 i h0 (by omega))
  · rcases Int.lt_trichotomy (fnd ts (strOfNums (rd_T44 ts i).f0) ts.length 0) i with c | c | c
    · exact absurd g3 (hD _ i g1 c h1)
    · exact c
    · exact absurd rfl (g4 i h0 c)
theorem tok_vld {t : S44} (h : tokEr t = 0) : X.vld t.f1 = true := by
  cases c : X.vld t.f1
  · exfalso
    unfold tokEr at h
    rw [c] at h
    simp only [if_true] at h
    by_cases c1 : (t.f0.length : Int) < 1
    · rw [if_pos c1] at h; exact absurd h (by decide)
    rw [if_neg c1] at h
    by_cases c2 : 32 < (t.f0.length : Int)
    · rw [if_pos c2] at h; exact absurd h (by decide)
    rw [if_neg c2] at h
    by_cases c3 : t.f2 = true ∧ ((t.f0.length : Int) < 3 ∨ rd t.f0 0 ≠ 60 ∨ rd t.f0 ((t.f0.length : Int) - 1) ≠ 62)
    · rw [if_pos c3] at h; exact absurd h (by decide)
    · rw [if_neg c3] at h; exact absurd h (by decide)
  · rfl
theorem fin_l0 {ts : List S44} {ms : List S50} (wf : WF ts ms) (bt : BytAll ts) (h256 : 256 ≤ ts.length) : ∀ (d i : Nat), i + d = ts.length → ∀ k, 2 * d + ts.length + 2 * ms.length + spF ms.length + 305 ≤ k →
    imprimaturlaw11_VocabSpells.l0 k i ts ms = some true := by
  intro d
  have hm := wf.1.2.1
  have ht := wf.1.1
  induction d with
  | zero =>
    intro i h0 k hk
    obtain ⟨k, rfl⟩ : ∃ k', k = k' + 1 := ⟨k - 1, by omega⟩
    rw [imprimaturlaw11_VocabSpells.l0, if_neg (by omega)]
    exact fin_l1 wf bt h256 ms.length 0 (by omega) k (by omega)
  | succ d ih =>
    intro i h0 k hk
    obtain ⟨k, rfl⟩ : ∃ k', k = k' + 2 := ⟨k - 2, by omega⟩
    have hw : wrap64 ((i : Int) + 1) = ((i + 1 : Nat) : Int) := by unfold wrap64; omega
    have hv : M.vld (rd_T44 ts i).f1 = true := by rw [← vld_eq _ (bt i (by omega) (by omega)).2]; exact tok_vld (wf.1.2.2.1 i (by omega) (by omega))
    rw [imprimaturlaw11_VocabSpells.l0, if_pos (by omega), if_pos (by omega), find_eq ts ms _ ht (k + 1) (by omega), Option.bind_some, if_pos (fnd_self wf.1.2.2.2.1 i (by omega) (by omega)), M.valid_r _ (bt i (by omega) (by omega)).2 k, Option.bind_some, hv]
    rw [imprimaturlaw11_VocabSpells.j1, if_neg (by simp), if_pos (by omega), if_pos (by omega), hw]
    by_cases c : (rd_T44 ts i).f2 = true
    · rw [if_pos c]
      exact ih (i + 1) (by omega) k (by omega)
    · rw [if_neg c]
      have hmade : madeB ts ms i ms.length = true := (wf.2 i (by omega) (by omega)).resolve_left c
      rw [spelt_ok wf bt ms.length (Nat.le_refl _) i hmade k (by omega), Option.bind_some, if_pos rfl]
      unfold imprimaturref01_SameBytes.f
      rw [Option.bind_some, if_pos (by simp)]
      exact ih (i + 1) (by omega) k (by omega)
/-- Pigeonholes. -/
theorem pig : ∀ (n m : Nat) (f : Nat → Nat), (∀ i, i < n → f i < m) → (∀ i j, i < n → j < n → f i = f j → i = j) → n ≤ m
  | 0, _, _, _, _ => Nat.zero_le _
  | n + 1, m, f, h1, h2 => by
    have hn := h1 n (by omega)
    obtain ⟨m, rfl⟩ : ∃ q, m = q + 1 := ⟨m - 1, by omega⟩
    have hne : ∀ i, i < n → f i ≠ f n := fun i hi e => by have := h2 i n (by omega) (by omega) e; omega
    have := pig n m (fun i => if f n < f i then f i - 1 else f i) (fun i hi => by
      have a := h1 i (by omega); have b := hne i hi
      show (if f n < f i then f i - 1 else f i) < m
      split <;> omega) (fun i j hi hj e => by
      have a := hne i hi; have b := hne j hj
      refine h2 i j (by omega) (by omega) ?_
      split at e <;> split at e <;> omega)
    omega
/-- The alphabet makes it 256 tokens. -/
theorem wf_many {ts : List S44} (hA : Alph ts) : 256 ≤ ts.length := by
  have f : ∀ c : Nat, ∃ j : Nat, c < 256 → j < ts.length ∧ str ts j = strOfNums [(c : Int)] := fun c => by
    by_cases hc : c < 256
    · obtain ⟨j, h0, h1, h2, _⟩ := hA c (by omega) (by omega)
      exact ⟨j.toNat, fun _ => ⟨by omega, by rw [show ((j.toNat : Nat) : Int) = j by omega]; exact h2⟩⟩
    · exact ⟨0, fun h => absurd h hc⟩
  have hf := fun c => Classical.choose_spec (f c)
  refine pig 256 ts.length (fun c => Classical.choose (f c)) (fun i hi => (hf i hi).1) (fun a b ha hb h => ?_)
  have h1 := (hf a ha).2
  have h2 := (hf b hb).2
  rw [h] at h1
  rw [h1] at h2
  have := str_one (by omega) (by omega) (by omega) (by omega) h2
  omega
end Go.Proofs.Ytlgagppdipdkeaa.Pk
namespace Go.Proofs.Ytlgagppdipdkeaa.Pure
open Go.RowKit Go.Proofs.YtlgagppdipdkeaaW.PrintWords Go.Proofs.Ytlgagppdipdkeaa.Q Go.Proofs.Ytlgagppdipdkeaa.X Go.Proofs.Ytlgagppdipdkeaa.R Go.Proofs.Ytlgagppdipdkeaa.K Go.Proofs.Ytlgagppdipdkeaa.KSpells Go.Proofs.Ytlgagppdipdkeaa.Pk
theorem byt_of {l : List Int} (h : ∀ y ∈ l, (Lit.int .u8 y).wf = true) : Byt l := fun x hx => by have := bounds_u8 (h x hx); omega
theorem VocabSpells : ∀ (s0 : S25), Ops.good25 s0 → ∃ k, imprimaturlaw11_VocabSpells.f k s0.f0 s0.f1 = some true := by
  rintro ⟨ts, ms⟩ ⟨⟨g1, g2⟩, g3, g4⟩
  simp only at g1 g2 g3 g4 ⊢
  have hn : Lens ts := fun j h0 h1 => by have := (good_at g1 j h0 h1).1.2; omega
  have bt : BytAll ts := fun j h0 h1 => ⟨byt_of (good_at g1 j h0 h1).1.1, (good_at g1 j h0 h1).2⟩
  obtain ⟨b, hb, hs⟩ := great_ev ts ms (by omega) (by omega) hn
  refine ⟨2 * ts.length + ts.length + 2 * ms.length + spF ms.length + 305, ?_⟩
  unfold imprimaturlaw11_VocabSpells.f
  rw [hb _ (by omega), Option.bind_some]
  cases b with
  | true => rw [if_pos rfl, known_ev _ (by omega)]; rfl
  | false =>
    rw [if_neg (by simp)]
    have hle := hs rfl
    have ok : Ok44 ts := ⟨by omega, fun j h0 h1 => ⟨(good_at g1 j h0 h1).2, hn j h0 h1⟩⟩
    obtain ⟨x, hx, -⟩ := check_eq ts ms ok (by omega)
    have hv : vocab_Check.f ts ms = some x := by unfold vocab_Check.f; rw [if_pos ⟨by omega, by omega⟩, hx]
    rw [hv, Option.bind_some]
    by_cases c : x.2.2 = 0
    · rw [if_pos c]
      have wf := chk_zero hx c
      exact fin_l0 wf bt (wf_many wf.1.2.2.2.2.1) ts.length 0 (by omega) _ (by omega)
    · rw [if_neg c, known_ev _ (by omega)]
      rfl
end Go.Proofs.Ytlgagppdipdkeaa.Pure
