/- When a vocabulary is well formed: `chk` answers by the tokens, the alphabet, the merges, and what is not made. -/
import Derived.Test.YtlgagppdipdkeaaPkV
namespace Go.Proofs.Ytlgagppdipdkeaa.Pk
set_option linter.unusedVariables false
set_option linter.unusedSimpArgs false
open Go.RowKit Go.Proofs.YtlgagppdipdkeaaW.PrintWords Go.Proofs.Ytlgagppdipdkeaa.Q Go.Proofs.Ytlgagppdipdkeaa.X Go.Proofs.Ytlgagppdipdkeaa.R
def str (ts : List S44) (j : Int) : ByteArray := strOfNums (rd_T44 ts j).f0
def TkOk (ts : List S44) : Prop := ∀ j, 0 ≤ j → j < (ts.length : Int) → tokEr (rd_T44 ts j) = 0
def Diff (ts : List S44) : Prop := ∀ i j, 0 ≤ i → i < j → j < (ts.length : Int) → str ts i ≠ str ts j
def Alph (ts : List S44) : Prop := ∀ c, 0 ≤ c → c < 256 → ∃ j, 0 ≤ j ∧ j < (ts.length : Int) ∧ str ts j = strOfNums [c] ∧ (rd_T44 ts j).f2 = false
def MgOk (ts : List S44) (ms : List S50) (r : Int) : Prop :=
  madeB ts ms (rd_T50 ms r).f0 r = true ∧ madeB ts ms (rd_T50 ms r).f1 r = true ∧ isB ts (rd_T50 ms r).f2 = true ∧ madeB ts ms (rd_T50 ms r).f2 r = false ∧
  (str ts (rd_T50 ms r).f0 ++ str ts (rd_T50 ms r).f1).toList = (str ts (rd_T50 ms r).f2).toList ∧
  (0 < r → ¬ 0 < cmpS (rd_T44 ts (rd_T50 ms r).f2).f1 (rd_T44 ts (rd_T50 ms (r - 1)).f2).f1)
/-- Well formed, but for what is not made. -/
def WM (ts : List S44) (ms : List S50) : Prop :=
  ts.length ≤ 4096 ∧ ms.length ≤ 4096 ∧ TkOk ts ∧ Diff ts ∧ Alph ts ∧ ∀ r, 0 ≤ r → r < (ms.length : Int) → MgOk ts ms r
theorem tok_cases (t : S44) (i : Int) (I : Ids) : ((tok t i I).1 = 0 ∧ tokEr t = 0 ∧ (I (strOfNums t.f0)).isSome = false ∧ (tok t i I).2 = put I (strOfNums t.f0) i) ∨ ((tok t i I).1 ≠ 0 ∧ (tokEr t ≠ 0 ∨ (I (strOfNums t.f0)).isSome = true)) := by
  unfold tok
  by_cases c : tokEr t = 0
  · rw [if_neg (by simp [c])]
    cases h : (I (strOfNums t.f0)).isSome
    · rw [if_neg (by simp)]; exact .inl ⟨rfl, c, rfl, rfl⟩
    · rw [if_pos rfl]; exact .inr ⟨by simp, .inr rfl⟩
  · rw [if_pos c]; exact .inr ⟨c, .inl c⟩
theorem tk_inr (ts : List S44) : ∀ (d : Nat) (i : Int) (I J : Ids), 0 ≤ i → i + d = ts.length → IdOk ts I i → tkGo ts d i I = .inr J →
    IdOk ts J ts.length ∧ ∀ j, i ≤ j → j < (ts.length : Int) → tokEr (rd_T44 ts j) = 0 ∧ ∀ q, 0 ≤ q → q < j → str ts q ≠ str ts j := by
  intro d
  induction d with
  | zero =>
    intro i I J h0 h1 hI h
    simp only [tkGo, Sum.inr.injEq] at h
    subst h
    exact ⟨by rw [show (ts.length : Int) = i by omega]; exact hI, fun j a b => by omega⟩
  | succ d ih =>
    intro i I J h0 h1 hI h
    simp only [tkGo] at h
    rcases tok_cases (rd_T44 ts i) i I with ⟨a1, a2, a3, a4⟩ | ⟨a1, _⟩
    · rw [if_pos a1, a4] at h
      obtain ⟨g1, g2⟩ := ih (i + 1) _ J (by omega) (by omega) (idOk_put hI h0 a3) h
      refine ⟨g1, fun j b1 b2 => ?_⟩
      by_cases e : j = i
      · subst e
        refine ⟨a2, fun q c1 c2 c3 => ?_⟩
        have := hI.1 q c1 c2
        unfold str at c3
        rw [c3] at this
        rw [this] at a3
        cases a3
      · exact g2 j (by omega) b2
    · rw [if_neg a1] at h
      cases h
theorem tk_err (ts : List S44) : ∀ (d : Nat) (i : Int) (I : Ids) (j e : Int), tkGo ts d i I = .inl (j, e) → e ≠ 0 := by
  intro d
  induction d with
  | zero => intro i I j e h; simp [tkGo] at h
  | succ d ih =>
    intro i I j e h
    simp only [tkGo] at h
    by_cases c : (tok (rd_T44 ts i) i I).1 = 0
    · rw [if_pos c] at h; exact ih _ _ _ _ h
    · rw [if_neg c] at h
      injection h with h; injection h with h1 h2
      rw [← h2]; exact c
theorem tk_of (ts : List S44) (hE : TkOk ts) (hD : Diff ts) :
    ∀ (d : Nat) (i : Int) (I : Ids), 0 ≤ i → i + d = ts.length → IdOk ts I i → ∃ J, tkGo ts d i I = .inr J ∧ IdOk ts J ts.length := by
  intro d
  induction d with
  | zero => intro i I h0 h1 hI; exact ⟨I, rfl, by rw [show (ts.length : Int) = i by omega]; exact hI⟩
  | succ d ih =>
    intro i I h0 h1 hI
    have hno : (I (strOfNums (rd_T44 ts i).f0)).isSome = false := by
      cases c : I (strOfNums (rd_T44 ts i).f0) with
      | none => rfl
      | some j =>
        obtain ⟨a1, a2, a3⟩ := hI.2 _ j c
        exact absurd a3 (hD j i a1 a2 (by omega))
    have ht : tkGo ts (d + 1) i I = tkGo ts d (i + 1) (put I (strOfNums (rd_T44 ts i).f0) i) := by
      have := hE i h0 (by omega)
      simp [tkGo, tok, this, hno]
    rw [ht]
    exact ih (i + 1) _ (by omega) (by omega) (idOk_put hI h0 hno)
theorem alp_iff (ts : List S44) (I : Ids) : ∀ (d : Nat) (c : Int), c + d = 256 → (¬ alpGo ts I d c < 256 ↔ ∀ x, c ≤ x → x < 256 → noShort ts I x = false) := by
  intro d
  induction d with
  | zero => intro c h; exact ⟨fun _ x a b => by omega, fun _ h2 => by simp [alpGo] at h2⟩
  | succ d ih =>
    intro c h
    rw [alpGo]
    by_cases cc : noShort ts I c = true
    · rw [if_pos cc]
      refine ⟨fun h2 => absurd (by omega) h2, fun h2 => ?_⟩
      rw [h2 c (Int.le_refl _) (by omega)] at cc
      cases cc
    · rw [if_neg cc, ih (c + 1) (by omega)]
      refine ⟨fun h2 x a b => ?_, fun h2 x a b => h2 x (by omega) b⟩
      by_cases e : x = c
      · rw [e]; simpa using cc
      · exact h2 x (by omega) b
theorem noShort_iff (ts : List S44) (J : Ids) (hJ : IdOk ts J ts.length) (c : Int) : noShort ts J c = false ↔ ∃ j, 0 ≤ j ∧ j < (ts.length : Int) ∧ str ts j = strOfNums [c] ∧ (rd_T44 ts j).f2 = false := by
  unfold noShort
  cases e : J (strOfNums [c]) with
  | none =>
    refine ⟨fun h => (nomatch h), ?_⟩
    rintro ⟨j, h0, h1, h2, h3⟩
    have := hJ.1 j h0 h1
    unfold str at h2
    rw [h2, e] at this
    cases this
  | some id =>
    obtain ⟨a1, a2, a3⟩ := hJ.2 _ _ e
    refine ⟨fun h => ⟨id, a1, a2, a3, h⟩, ?_⟩
    rintro ⟨j, h0, h1, h2, h3⟩
    have := hJ.1 j h0 h1
    unfold str at h2
    rw [h2, e] at this
    obtain rfl := Option.some.inj this
    exact h3
theorem mrgOk_iff {ts : List S44} {ms : List S50} {mk : List Bool} {i : Int} (h : MkOk ts ms mk i) : mrgOk ts mk (rd_T50 ms i) = true ↔
    (madeB ts ms (rd_T50 ms i).f0 i = true ∧ madeB ts ms (rd_T50 ms i).f1 i = true ∧ isB ts (rd_T50 ms i).f2 = true ∧ madeB ts ms (rd_T50 ms i).f2 i = false ∧
    (str ts (rd_T50 ms i).f0 ++ str ts (rd_T50 ms i).f1).toList = (str ts (rd_T50 ms i).f2).toList) := by
  have hc := cat_iff (rd_T44 ts (rd_T50 ms i).f0).f0 (rd_T44 ts (rd_T50 ms i).f1).f0 (rd_T44 ts (rd_T50 ms i).f2).f0
  unfold str
  rw [made_mk h, made_mk h, made_mk h, hc]
  unfold mrgOk
  cases isB ts (rd_T50 ms i).f0 <;> cases isB ts (rd_T50 ms i).f1 <;> cases isB ts (rd_T50 ms i).f2 <;> cases thereB ts mk (rd_T50 ms i).f0 <;> cases thereB ts mk (rd_T50 ms i).f1 <;> cases thereB ts mk (rd_T50 ms i).f2 <;> simp
theorem mg_err (ts : List S44) (ms : List S50) : ∀ (d : Nat) (i : Int) (mk : List Bool) (j e : Int), mgGo ts ms d i mk = some (.inl (j, e)) → e ≠ 0 := by
  intro d
  induction d with
  | zero => intro i mk j e h; simp [mgGo] at h
  | succ d ih =>
    intro i mk j e h
    simp only [mgGo] at h
    cases hr : mrg ts ms mk i with
    | none => rw [hr] at h; cases h
    | some r =>
      rw [hr] at h
      simp only [Option.bind_some] at h
      by_cases c : r.1 = 0
      · rw [if_pos c] at h; exact ih _ _ _ _ h
      · rw [if_neg c] at h
        injection h with h; injection h with h; injection h with h1 h2
        rw [← h2]; exact c
/-- A merge is well formed, or it is told so. -/
theorem mrg_iff {ts : List S44} {ms : List S50} {mk : List Bool} {i : Int} (h : MkOk ts ms mk i) (h0 : 0 ≤ i) (hp : 0 < i → isB ts (rd_T50 ms (i - 1)).f2 = true) :
    ∃ r, mrg ts ms mk i = some r ∧ (r.1 = 0 ↔ MgOk ts ms i) ∧ (r.1 = 0 → MkOk ts ms r.2 (i + 1)) := by
  have hi := mrgOk_iff h
  unfold mrg
  by_cases c : mrgOk ts mk (rd_T50 ms i) = true
  · have hc := hi.1 c
    have hset := mkOk_set h h0 hc.2.2.1
    rw [if_pos c]
    by_cases ci : 0 < i
    · rw [if_pos ci, if_pos (hp ci)]
      refine ⟨_, rfl, ?_, fun _ => hset⟩
      unfold MgOk
      by_cases cs : 0 < cmpS (rd_T44 ts (rd_T50 ms i).f2).f1 (rd_T44 ts (rd_T50 ms (i - 1)).f2).f1
      · simp only [if_pos cs]
        exact ⟨fun h2 => absurd h2 (by decide), fun h2 => absurd cs (h2.2.2.2.2.2 ci)⟩
      · simp only [if_neg cs]
        exact ⟨fun _ => ⟨hc.1, hc.2.1, hc.2.2.1, hc.2.2.2.1, hc.2.2.2.2, fun _ => cs⟩, fun _ => trivial⟩
    · rw [if_neg ci]
      refine ⟨_, rfl, ?_, fun _ => hset⟩
      exact ⟨fun _ => ⟨hc.1, hc.2.1, hc.2.2.1, hc.2.2.2.1, hc.2.2.2.2, fun h2 => absurd h2 ci⟩, fun _ => rfl⟩
  · rw [if_neg c]
    refine ⟨_, rfl, ⟨fun h2 => absurd h2 (by simp), fun h2 => absurd (hi.2 ⟨h2.1, h2.2.1, h2.2.2.1, h2.2.2.2.1, h2.2.2.2.2.1⟩) c⟩, fun h2 => absurd h2 (by simp)⟩
theorem mg_iff (ts : List S44) (ms : List S50) : ∀ (d : Nat) (i : Int) (mk : List Bool), 0 ≤ i → i + d = ms.length → MkOk ts ms mk i → (0 < i → isB ts (rd_T50 ms (i - 1)).f2 = true) →
    (∃ j e, mgGo ts ms d i mk = some (.inl (j, e)) ∧ ¬ ∀ r, i ≤ r → r < (ms.length : Int) → MgOk ts ms r) ∨
    (∃ mk', mgGo ts ms d i mk = some (.inr mk') ∧ MkOk ts ms mk' ms.length ∧ ∀ r, i ≤ r → r < (ms.length : Int) → MgOk ts ms r) := by
  intro d
  induction d with
  | zero =>
    intro i mk h0 h1 hm hp
    exact .inr ⟨mk, rfl, by rw [show (ms.length : Int) = i by omega]; exact hm, fun r a b => by omega⟩
  | succ d ih =>
    intro i mk h0 h1 hm hp
    obtain ⟨r, hr, g1, g2⟩ := mrg_iff hm h0 hp
    rw [mgGo, hr, Option.bind_some]
    by_cases c : r.1 = 0
    · rw [if_pos c]
      have hok := g1.1 c
      rcases ih (i + 1) r.2 (by omega) (by omega) (g2 c) (fun _ => by rw [show i + 1 - 1 = i by omega]; exact hok.2.2.1) with ⟨j, e, a1, a2⟩ | ⟨mk', a1, a2, a3⟩
      · exact .inl ⟨j, e, a1, fun h => a2 fun q b1 b2 => h q (by omega) b2⟩
      · refine .inr ⟨mk', a1, a2, fun q b1 b2 => ?_⟩
        by_cases e : q = i
        · rw [e]; exact hok
        · exact a3 q (by omega) b2
    · rw [if_neg c]
      exact .inl ⟨i, r.1, rfl, fun h => c (g1.2 (h i (Int.le_refl _) (by omega)))⟩
/-- The first token from i on, of d, that is not special and not made. -/
def fnG (ts : List S44) (ms : List S50) : Nat → Int → Option Int
  | 0, _ => none
  | d + 1, i => if (rd_T44 ts i).f2 = false ∧ madeB ts ms i ms.length = false then some i else fnG ts ms d (i + 1)
theorem fnG_eq {ts : List S44} {ms : List S50} {mk : List Bool} (h : MkOk ts ms mk ms.length) : ∀ (d : Nat) (i : Int), 0 ≤ i → i + d ≤ ts.length → fnGo ts mk d i = fnG ts ms d i := by
  intro d
  induction d with
  | zero => intro i _ _; rfl
  | succ d ih =>
    intro i h0 h1
    rw [fnGo, fnG, ih (i + 1) (by omega) (by omega), made_mk h]
    cases c : (rd_T44 ts i).f2
    · have : isB ts i = true := by unfold isB; rw [c]; simp; omega
      rw [this]
      simp
    · simp
theorem fnG_none (ts : List S44) (ms : List S50) : ∀ (d : Nat) (i : Int), fnG ts ms d i = none ↔ ∀ j, i ≤ j → j < i + d → (rd_T44 ts j).f2 = true ∨ madeB ts ms j ms.length = true := by
  intro d
  induction d with
  | zero => intro i; exact ⟨fun _ j a b => by omega, fun _ => rfl⟩
  | succ d ih =>
    intro i
    rw [fnG]
    by_cases c : (rd_T44 ts i).f2 = false ∧ madeB ts ms i ms.length = false
    · rw [if_pos c]
      refine ⟨fun h => (nomatch h), fun h => ?_⟩
      rcases h i (Int.le_refl _) (by omega) with g | g
      · rw [c.1] at g; cases g
      · rw [c.2] at g; cases g
    · rw [if_neg c, ih]
      refine ⟨fun h j a b => ?_, fun h j a b => h j (by omega) (by omega)⟩
      by_cases e : j = i
      · rw [e]
        cases c1 : (rd_T44 ts i).f2
        · cases c2 : madeB ts ms i ms.length
          · exact absurd ⟨c1, c2⟩ c
          · exact .inr rfl
        · exact .inl rfl
      · exact h j (by omega) (by omega)
/-- What is well formed. -/
def WF (ts : List S44) (ms : List S50) : Prop := WM ts ms ∧ ∀ j, 0 ≤ j → j < (ts.length : Int) → (rd_T44 ts j).f2 = true ∨ madeB ts ms j ms.length = true
/-- No error is told just of what is well formed. -/
theorem chk_zero {ts : List S44} {ms : List S50} {x : Int × Int × Int} (h : chk ts ms = some x) (hx : x.2.2 = 0) : WF ts ms := by
  unfold chk at h
  by_cases c1 : 4096 < (ts.length : Int)
  · rw [if_pos c1] at h; injection h with h; rw [← h] at hx; cases hx
  rw [if_neg c1] at h
  by_cases c2 : 4096 < (ms.length : Int)
  · rw [if_pos c2] at h; injection h with h; rw [← h] at hx; cases hx
  rw [if_neg c2] at h
  cases ht : tkGo ts ts.length 0 (fun _ => none) with
  | inl p =>
    obtain ⟨j, e⟩ := p
    rw [ht] at h
    injection h with h; rw [← h] at hx
    exact absurd hx (tk_err ts _ _ _ _ _ ht)
  | inr I =>
    obtain ⟨hI, g3⟩ := tk_inr ts ts.length 0 _ I (Int.le_refl _) (by omega) (idOk_zero ts) ht
    rw [ht] at h
    simp only at h
    unfold chkI at h
    by_cases c : alpGo ts I 256 0 < 256
    · rw [if_pos c] at h
      injection h with h; rw [← h] at hx; cases hx
    · rw [if_neg c] at h
      have ha := (alp_iff ts I 256 0 (by omega)).1 c
      rcases mg_iff ts ms ms.length 0 _ (Int.le_refl _) (by omega) (mkOk_zero ts ms) (fun h => by omega) with ⟨j, e, b1, b2⟩ | ⟨mk, b1, b2, b3⟩
      · rw [b1] at h
        injection h with h; rw [← h] at hx
        exact absurd hx (mg_err ts ms _ _ _ _ _ b1)
      · rw [b1] at h
        simp only [Option.bind_some] at h
        unfold chkM at h
        rw [fnG_eq b2 _ 0 (by omega) (by omega)] at h
        refine ⟨⟨by omega, by omega, fun j a b => (g3 j a b).1, fun i j a b d => (g3 j (by omega) d).2 i a b, fun x a b => (noShort_iff ts I hI x).1 (ha x a b), b3⟩, ?_⟩
        cases hf : fnG ts ms ts.length 0 with
        | none =>
          have := (fnG_none ts ms _ 0).1 hf
          exact fun j a b => this j a (by omega)
        | some j =>
          rw [hf] at h
          injection h with h; rw [← h] at hx; cases hx
end Go.Proofs.Ytlgagppdipdkeaa.Pk
