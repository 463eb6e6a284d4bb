/- The plain statement of VocabChanges: vocab.Changes tells the document's changes. No condition. -/
import Derived.Test.YtlgagppdipdkeaaPgX
import Derived.Test.YtlgagppdipdkeaaOpsX
import Derived.Test.YtlgagppdipdkeaaKChg3X
section
namespace Go.Proofs.Ytlgagppdipdkeaa.Pure
open Go.RowKit Go.Proofs.YtlgagppdipdkeaaW.PrintWords Go.Proofs.Ytlgagppdipdkeaa.Q Go.Proofs.Ytlgagppdipdkeaa.X Go.Proofs.Ytlgagppdipdkeaa.R Go.Proofs.Ytlgagppdipdkeaa.K Go.Proofs.Ytlgagppdipdkeaa.Pk
theorem good_at {ts : List S44} (h : ∀ y ∈ ts, Ops.good44 y) (j : Int) (h0 : 0 ≤ j) (h1 : j < (ts.length : Int)) : Ops.good44 (rd_T44 ts j) := by
  unfold rd_T44
  rw [List.getD_eq_getElem?_getD, List.getElem?_eq_getElem (by omega)]
  exact h _ (List.getElem_mem _)
theorem VocabChecks : ∀ (s0 : S25), Ops.good25 s0 → ∃ k, imprimaturlaw11_VocabChecks.f k s0.f0 s0.f1 = some true := by
  rintro ⟨ts, ms⟩ ⟨⟨g1, g2⟩, g3, g4⟩
  simp only at g1 g2 g3 g4 ⊢
  have hn : Lens ts := fun j h0 h1 => by have := (good_at g1 j h0 h1).1.2; omega
  obtain ⟨b, hb, hs⟩ := great_ev ts ms (by omega) (by omega) hn
  cases b with
  | true =>
    refine ⟨ts.length + 301, ?_⟩
    unfold imprimaturlaw11_VocabChecks.f
    rw [hb _ (by omega), Option.bind_some, if_pos rfl, known_ev _ (by omega)]
    rfl
  | false =>
    have hle := hs rfl
    have ok : Ok44 ts := ⟨by omega, fun j h0 h1 => ⟨(good_at g1 j h0 h1).2, hn j h0 h1⟩⟩
    obtain ⟨x, hx, K, hK⟩ := check_eq ts ms ok (by omega)
    have hv : vocab_Check.f ts ms = some x := by unfold vocab_Check.f; rw [if_pos ⟨by omega, by omega⟩, hx]
    obtain ⟨a, c, e⟩ := x
    have hK' : imprimaturref11_Check.f (K + ts.length + 301) ts ms = some (a, c, e) := hK _ (by omega)
    refine ⟨K + ts.length + 301, ?_⟩
    unfold imprimaturlaw11_VocabChecks.f imprimaturlaw11_is.f
    rw [hb _ (by omega), Option.bind_some, if_neg (by simp), hv, Option.bind_some, hK', Option.bind_some, Option.bind_some, known_ev _ (by omega)]
    simp
end Go.Proofs.Ytlgagppdipdkeaa.Pure

end
namespace Go.Proofs.Ytlgagppdipdkeaa.Pk
set_option linter.unusedVariables false
set_option linter.unusedSimpArgs false
open Go.RowKit Go.Proofs.YtlgagppdipdkeaaW.PrintWords Go.Proofs.Ytlgagppdipdkeaa.Q Go.Proofs.Ytlgagppdipdkeaa.X Go.Proofs.Ytlgagppdipdkeaa.R Go.Proofs.Ytlgagppdipdkeaa.K Go.Proofs.Ytlgagppdipdkeaa.KChg
def cv (x : S63) : S64 := ⟨x.f0, x.f1, x.f2⟩
theorem cd_inj {a b : Nat} (ha : a < 18446744073709551616) (hb : b < 18446744073709551616) (va : M.vld a = true) (vb : M.vld b = true) (h : M.cd a = M.cd b) : a = b := by
  have fa := vld_fin va
  have fb := vld_fin vb
  have e : ∀ c : Nat, c % 9223372036854775808 ≤ 9218868437227405312 → M.cd c = if c < 9223372036854775808 then 9223372036854775808 + c else 18446744073709551615 - c := fun c hc => by
    unfold M.cd; rw [if_neg (by omega)]
  rw [e a fa, e b fb] at h
  by_cases c1 : a < 9223372036854775808 <;> by_cases c2 : b < 9223372036854775808
  · rw [if_pos c1, if_pos c2] at h; omega
  · rw [if_pos c1, if_neg c2] at h; omega
  · rw [if_neg c1, if_pos c2] at h; omega
  · rw [if_neg c1, if_neg c2] at h; omega
theorem kind_eq (x y : S44) (f t : Int) (hx : x.f1 < 18446744073709551616) (hy : y.f1 < 18446744073709551616) (vx : X.vld x.f1 = true) (vy : X.vld y.f1 = true) :
    vocab_kind.f x.f0 x.f1 x.f2 y.f0 y.f1 y.f2 f t = some (if (x.f2 != y.f2) = true then 3 else if x.f1 = y.f1 then (if f = t then 0 else 5) else 4) := by
  unfold vocab_kind.f
  by_cases c : (x.f2 != y.f2) = true
  · rw [if_pos c, if_pos c]
  · rw [if_neg c, if_neg c, M.cmp_p _ _ hx hy, Option.bind_some]
    rw [vld_eq _ hx] at vx
    rw [vld_eq _ hy] at vy
    by_cases e : x.f1 = y.f1
    · rw [if_pos e, e, if_pos (by simp)]
      split <;> rfl
    · rw [if_neg e, if_neg]
      intro h
      refine e (cd_inj hx hy vx vy ?_)
      split at h
      · cases h
      · split at h
        · cases h
        · omega
theorem l0_chg (ts us : List S44) (ms ns : List S50) (J : Ids) (hts : ts.length ≤ 4096) (hus : us.length ≤ 4096) (hJ : IdOk us J us.length) : ∀ (d : Nat) (i : Int) (out : List S63), 0 ≤ i → i + d = ts.length → (out.length : Int) ≤ i →
    ((chA ts J d i out).length : Int) ≤ ts.length ∧ ∀ r, Ev (fun k => imprimaturref11_Changes.l1 k ((chA ts J d i out).map cv) 0 ts ms us ns) r → Ev (fun k => imprimaturref11_Changes.l0 k (out.map cv) i ts ms us ns) r := by
  intro d
  induction d with
  | zero =>
    intro i out h0 h1 h2
    refine ⟨by rw [chA]; omega, fun r hr => ?_⟩
    refine Ev.step (f := fun k => imprimaturref11_Changes.l1 k (out.map cv) 0 ts ms us ns) (fun k => ?_) hr
    rw [imprimaturref11_Changes.l0, if_neg (by omega)]
  | succ d ih =>
    intro i out h0 h1 h2
    have hw : wrap64 (i + 1) = i + 1 := w64 h0 (by omega)
    have hg := idOk_get hJ (strOfNums (rd_T44 ts i).f0)
    have hstep : ∀ k, us.length + 1 ≤ k → imprimaturref11_Changes.l0 (k + 1) (out.map cv) i ts ms us ns = imprimaturref11_Changes.l0 k ((if (J (strOfNums (rd_T44 ts i).f0)).isSome = true then out else out ++ [⟨1, i, -1⟩]).map cv) (i + 1) ts ms us ns := by
      intro k hk
      rw [imprimaturref11_Changes.l0, if_pos (by omega), if_pos h0, find_eq us ns _ hus k hk, Option.bind_some, hg, hw]
      by_cases c : 0 ≤ fnd us (strOfNums (rd_T44 ts i).f0) us.length 0
      · rw [if_neg (by omega), if_pos c]
        rfl
      · rw [if_pos (by omega), if_neg c, if_pos (by rw [List.length_map]; omega)]
        simp [cv]
    obtain ⟨g1, g2⟩ := ih (i + 1) (if (J (strOfNums (rd_T44 ts i).f0)).isSome = true then out else out ++ [⟨1, i, -1⟩]) (by omega) (by omega) (by split <;> (try rw [List.length_append, List.length_singleton]) <;> omega)
    rw [chA]
    refine ⟨g1, fun r hr => ?_⟩
    obtain ⟨K, hK⟩ := g2 r hr
    refine ⟨K + us.length + 2, fun k hk => ?_⟩
    obtain ⟨k, rfl⟩ : ∃ k', k = k' + 1 := ⟨k - 1, by omega⟩
    show imprimaturref11_Changes.l0 (k + 1) (out.map cv) i ts ms us ns = _
    rw [hstep k (by omega)]
    exact hK k (by omega)
def Scs (ts : List S44) : Prop := ∀ j, 0 ≤ j → j < (ts.length : Int) → (rd_T44 ts j).f1 < 18446744073709551616 ∧ X.vld (rd_T44 ts j).f1 = true
theorem l1_chg (ts us : List S44) (ms ns : List S50) (I : Ids) (hts : ts.length ≤ 4096) (hus : us.length ≤ 4096) (hI : IdOk ts I ts.length) (st : Scs ts) (su : Scs us) : ∀ (d : Nat) (i : Int) (out : List S63), 0 ≤ i → i + d = us.length → (out.length : Int) ≤ ts.length + i →
    ∃ l, chB ts us I d i out = some l ∧ l.length ≤ 10000 ∧ Ev (fun k => imprimaturref11_Changes.l1 k (out.map cv) i ts ms us ns) (l.map cv) := by
  intro d
  induction d with
  | zero =>
    intro i out h0 h1 h2
    refine ⟨out, rfl, by omega, 1, fun k hk => ?_⟩
    obtain ⟨k, rfl⟩ : ∃ k', k = k' + 1 := ⟨k - 1, by omega⟩
    show imprimaturref11_Changes.l1 (k + 1) (out.map cv) i ts ms us ns = _
    rw [imprimaturref11_Changes.l1, if_neg (by omega)]
  | succ d ih =>
    intro i out h0 h1 h2
    have hw : wrap64 (i + 1) = i + 1 := w64 h0 (by omega)
    have hg := idOk_get hI (strOfNums (rd_T44 us i).f0)
    rcases fnd_cases ts (strOfNums (rd_T44 us i).f0) ts.length 0 with ⟨a1, -⟩ | ⟨a1, a2, -, -⟩
    · rw [a1, if_neg (by omega)] at hg
      obtain ⟨l, e1, e2, K, hK⟩ := ih (i + 1) (out ++ [⟨2, -1, i⟩]) (by omega) (by omega) (by simp; omega)
      refine ⟨l, by rw [chB, hg]; exact e1, e2, K + ts.length + 2, fun k hk => ?_⟩
      obtain ⟨k, rfl⟩ : ∃ k', k = k' + 1 := ⟨k - 1, by omega⟩
      show imprimaturref11_Changes.l1 (k + 1) (out.map cv) i ts ms us ns = _
      rw [imprimaturref11_Changes.l1, if_pos (by omega), if_pos h0, find_eq ts ms _ hts k (by omega), Option.bind_some, a1, if_pos (by omega), if_pos (by rw [List.length_map]; omega), hw]
      have := hK k (by omega)
      simpa [cv] using this
    · rw [if_pos a1] at hg
      obtain ⟨j, hj⟩ : ∃ j, j = fnd ts (strOfNums (rd_T44 us i).f0) ts.length 0 := ⟨_, rfl⟩
      rw [← hj] at hg a1 a2
      have j0 := st j a1 (by omega)
      have i0 := su i h0 (by omega)
      obtain ⟨kk, hkk⟩ : ∃ kk : Int, kk = (if ((rd_T44 ts j).f2 != (rd_T44 us i).f2) = true then 3 else if (rd_T44 ts j).f1 = (rd_T44 us i).f1 then (if j = i then 0 else 5) else 4) := ⟨_, rfl⟩
      have hk0 := kind_eq (rd_T44 ts j) (rd_T44 us i) j i j0.1 i0.1 j0.2 i0.2
      rw [← hkk] at hk0
      obtain ⟨l, e1, e2, K, hK⟩ := ih (i + 1) (if 0 < kk then out ++ [⟨kk, j, i⟩] else out) (by omega) (by omega) (by split <;> (try rw [List.length_append, List.length_singleton]) <;> omega)
      refine ⟨l, by rw [chB, hg]; simp only; rw [hk0, Option.bind_some]; exact e1, e2, K + ts.length + 4, fun k hk => ?_⟩
      obtain ⟨k, rfl⟩ : ∃ k', k = k' + 3 := ⟨k - 3, by omega⟩
      show imprimaturref11_Changes.l1 (k + 3) (out.map cv) i ts ms us ns = _
      have hj3 : ∀ q, imprimaturref11_Changes.j3 (k + 1) (out.map cv) i j ts ms us ns q j i = imprimaturref11_Changes.l1 k ((if 0 < (if ((rd_T44 ts j).f2 != (rd_T44 us i).f2) = true then 3 else q) then out ++ [⟨(if ((rd_T44 ts j).f2 != (rd_T44 us i).f2) = true then 3 else q), j, i⟩] else out).map cv) (i + 1) ts ms us ns := by
        intro q
        rw [imprimaturref11_Changes.j3, if_pos a1, if_pos (by omega), if_pos h0, if_pos (by omega), hw]
        by_cases c : ((rd_T44 ts j).f2 != (rd_T44 us i).f2) = true
        · simp only [if_pos c]
          rw [if_pos (by omega), if_pos (by rw [List.length_map]; omega), if_pos (by omega)]
          simp [cv]
        · simp only [if_neg c]
          by_cases c2 : 0 < q
          · rw [if_pos c2, if_pos c2, if_pos (by rw [List.length_map]; omega)]
            simp [cv]
          · rw [if_neg c2, if_neg c2]
      have hj2 : ∀ q, imprimaturref11_Changes.j2 (k + 2) (out.map cv) i j ts ms us ns q j i = imprimaturref11_Changes.j3 (k + 1) (out.map cv) i j ts ms us ns (if (rd_T44 ts j).f1 = (rd_T44 us i).f1 then q else 4) j i := by
        intro q
        rw [imprimaturref11_Changes.j2, if_pos a1, if_pos (by omega), if_pos h0, if_pos (by omega)]
        unfold imprimaturref01_Same.f
        rw [Option.bind_some]
        by_cases c : (rd_T44 ts j).f1 = (rd_T44 us i).f1
        · rw [if_pos c, if_pos (by rw [c]; simp)]
        · rw [if_neg c, if_neg (by simp; omega)]
      rw [imprimaturref11_Changes.l1, if_pos (by omega), if_pos h0, find_eq ts ms _ hts (k + 2) (by omega), Option.bind_some, ← hj, if_neg (by omega)]
      have hfin : (if j = i then imprimaturref11_Changes.j2 (k + 2) (out.map cv) i j ts ms us ns 0 j i else imprimaturref11_Changes.j2 (k + 2) (out.map cv) i j ts ms us ns 5 j i) = imprimaturref11_Changes.l1 k ((if 0 < kk then out ++ [⟨kk, j, i⟩] else out).map cv) (i + 1) ts ms us ns := by
        rw [hj2, hj2, hj3, hj3, hkk]
        by_cases c1 : ((rd_T44 ts j).f2 != (rd_T44 us i).f2) = true
        · simp only [if_pos c1]; split <;> rfl
        · simp only [if_neg c1]
          by_cases c2 : (rd_T44 ts j).f1 = (rd_T44 us i).f1
          · simp only [if_pos c2]; split <;> rfl
          · simp only [if_neg c2]; split <;> rfl
      rw [hfin]
      exact hK k (by omega)
theorem scs_of {ts : List S44} (hb : ∀ j, 0 ≤ j → j < (ts.length : Int) → (rd_T44 ts j).f1 < 18446744073709551616) (h : TkOk ts) : Scs ts := fun j a b => ⟨hb j a b, by
  have h := h j a b
  cases c : X.vld (rd_T44 ts j).f1
  · exfalso
    unfold tokEr at h
    rw [c] at h
    simp only [if_true] at h
    by_cases c1 : ((rd_T44 ts j).f0.length : Int) < 1
    · rw [if_pos c1] at h; exact absurd h (by decide)
    rw [if_neg c1] at h
    by_cases c2 : 32 < ((rd_T44 ts j).f0.length : Int)
    · rw [if_pos c2] at h; exact absurd h (by decide)
    rw [if_neg c2] at h
    by_cases c3 : (rd_T44 ts j).f2 = true ∧ (((rd_T44 ts j).f0.length : Int) < 3 ∨ rd (rd_T44 ts j).f0 0 ≠ 60 ∨ rd (rd_T44 ts j).f0 (((rd_T44 ts j).f0.length : Int) - 1) ≠ 62)
    · rw [if_pos c3] at h; exact absurd h (by decide)
    · rw [if_neg c3] at h; exact absurd h (by decide)
  · rfl⟩
/-- Of two well formed ones the changes are the document's. -/
theorem chgs_ev {ts us : List S44} {ms ns : List S50} (wt : WF ts ms) (wu : WF us ns) (ot : Ok44 ts) (ou : Ok44 us) : ∃ l, chgs ts us = some l ∧ l.length ≤ 10000 ∧ Ev (fun k => imprimaturref11_Changes.f k ts ms us ns) (l.map cv) := by
  obtain ⟨I, hI, oI⟩ := tk_of ts wt.1.2.2.1 wt.1.2.2.2.1 ts.length 0 (fun _ => none) (by omega) (by omega) (idOk_zero ts)
  obtain ⟨J, hJ, oJ⟩ := tk_of us wu.1.2.2.1 wu.1.2.2.2.1 us.length 0 (fun _ => none) (by omega) (by omega) (idOk_zero us)
  obtain ⟨g1, g2⟩ := l0_chg ts us ms ns J ot.1 ou.1 oJ ts.length 0 [] (Int.le_refl _) (by omega) (by simp)
  obtain ⟨l, e1, e2, e3⟩ := l1_chg ts us ms ns I ot.1 ou.1 oI (scs_of (fun j a b => (ot.2 j a b).1) wt.1.2.2.1) (scs_of (fun j a b => (ou.2 j a b).1) wu.1.2.2.1) us.length 0 (chA ts J ts.length 0 []) (Int.le_refl _) (by omega) (by omega)
  refine ⟨l, ?_, e2, ?_⟩
  · unfold chgs; rw [hI, hJ]; exact e1
  · exact g2 _ e3
theorem law_l0 (l : List S63) (hl : l.length ≤ 10000) : ∀ (d : Nat) (i : Int), 0 ≤ i → i + d = l.length → ∀ k, d + 301 ≤ k → imprimaturlaw11_VocabChanges.l0 k l (l.map cv) i = some true := by
  intro d
  induction d with
  | zero =>
    intro i h0 h1 k hk
    obtain ⟨k, rfl⟩ : ∃ k', k = k' + 1 := ⟨k - 1, by omega⟩
    rw [imprimaturlaw11_VocabChanges.l0, if_neg (by omega), known_ev k (by omega)]
    rfl
  | succ d ih =>
    intro i h0 h1 k hk
    obtain ⟨k, rfl⟩ : ∃ k', k = k' + 1 := ⟨k - 1, by omega⟩
    have e : rd_T64 (l.map cv) i = cv (rd_T63 l i) := by
      unfold rd_T64 rd_T63
      rw [List.getD_eq_getElem?_getD, List.getD_eq_getElem?_getD, List.getElem?_map, List.getElem?_eq_getElem (by omega)]
      rfl
    rw [imprimaturlaw11_VocabChanges.l0, if_pos (by omega), if_pos h0, if_pos (by rw [List.length_map]; omega), e, if_neg (by simp [cv]), w64 h0 (by omega)]
    exact ih (i + 1) (by omega) (by omega) k (by omega)
end Go.Proofs.Ytlgagppdipdkeaa.Pk
namespace Go.Proofs.Ytlgagppdipdkeaa.Pure
open Go.RowKit Go.Proofs.YtlgagppdipdkeaaW.PrintWords Go.Proofs.Ytlgagppdipdkeaa.Q Go.Proofs.Ytlgagppdipdkeaa.X Go.Proofs.Ytlgagppdipdkeaa.R Go.Proofs.Ytlgagppdipdkeaa.K Go.Proofs.Ytlgagppdipdkeaa.KChg Go.Proofs.Ytlgagppdipdkeaa.Pk
theorem VocabChanges : ∀ (s0 : S25) (s1 : S25), Ops.good25 s0 → Ops.good25 s1 → ∃ k, imprimaturlaw11_VocabChanges.f k s0.f0 s0.f1 s1.f0 s1.f1 = some true := by
  rintro ⟨ts, ms⟩ ⟨us, ns⟩ ⟨⟨g1, g2⟩, g3, g4⟩ ⟨⟨u1, u2⟩, u3, u4⟩
  simp only at g1 g2 g3 g4 u1 u2 u3 u4 ⊢
  have hn : Lens ts := fun j h0 h1 => by have := (good_at g1 j h0 h1).1.2; omega
  have hm : Lens us := fun j h0 h1 => by have := (good_at u1 j h0 h1).1.2; omega
  obtain ⟨b, hb, hs⟩ := great_ev ts ms (by omega) (by omega) hn
  obtain ⟨c, hc, hs2⟩ := great_ev us ns (by omega) (by omega) hm
  have hj0 : ∀ k, 301 ≤ k → imprimaturlaw11_VocabChanges.j0 k true ts ms us ns = some true := fun k hk => by
    obtain ⟨k, rfl⟩ : ∃ k', k = k' + 1 := ⟨k - 1, by omega⟩
    rw [imprimaturlaw11_VocabChanges.j0, if_pos rfl, known_ev k (by omega)]; rfl
  cases b with
  | true =>
    refine ⟨ts.length + 301, ?_⟩
    unfold imprimaturlaw11_VocabChanges.f
    rw [hb _ (by omega), Option.bind_some, if_pos rfl, hj0 _ (by omega)]
  | false =>
  cases c with
  | true =>
    refine ⟨ts.length + us.length + 301, ?_⟩
    unfold imprimaturlaw11_VocabChanges.f
    rw [hb _ (by omega), Option.bind_some, if_neg (by simp), hc _ (by omega), Option.bind_some, hj0 _ (by omega)]
  | false =>
    have hle := hs rfl
    have hle2 := hs2 rfl
    have ok : Ok44 ts := ⟨by omega, fun j h0 h1 => ⟨(good_at g1 j h0 h1).2, hn j h0 h1⟩⟩
    have ok2 : Ok44 us := ⟨by omega, fun j h0 h1 => ⟨(good_at u1 j h0 h1).2, hm j h0 h1⟩⟩
    obtain ⟨x, hx, K1, hK1⟩ := check_eq ts ms ok (by omega)
    obtain ⟨y, hy, K2, hK2⟩ := check_eq us ns ok2 (by omega)
    have hj : ∀ (l : List S63) (e : Int) k, K1 + K2 + 1 ≤ k → vocab_Changes.f ts ms us ns = some (l, e) → imprimaturlaw11_VocabChanges.j0 k false ts ms us ns = imprimaturlaw11_VocabChanges.j1 (k - 1) l e (if x.2.2 = 0 then y.2.2 else x.2.2) ts ms us ns := fun l e k hk hv => by
      obtain ⟨k, rfl⟩ : ∃ k', k = k' + 1 := ⟨k - 1, by omega⟩
      rw [imprimaturlaw11_VocabChanges.j0, if_neg (by simp), hv, Option.bind_some]
      have e1 : imprimaturref11_Check.f k ts ms = some x := hK1 k (by omega)
      have e2 : imprimaturref11_Check.f k us ns = some y := hK2 k (by omega)
      rw [e1, Option.bind_some, e2, Option.bind_some]
      by_cases c : x.2.2 = 0
      · rw [if_pos c, if_pos c]; rfl
      · rw [if_neg c, if_neg c]; rfl
    have hstart : ∀ k, ts.length + us.length + 1 ≤ k → imprimaturlaw11_VocabChanges.f k ts ms us ns = imprimaturlaw11_VocabChanges.j0 k false ts ms us ns := fun k hk => by
      unfold imprimaturlaw11_VocabChanges.f
      rw [hb _ (by omega), Option.bind_some, if_neg (by simp), hc _ (by omega), Option.bind_some]
    have hlen : ts.length ≤ 1000000000000 ∧ ms.length ≤ 1000000000000 ∧ us.length ≤ 1000000000000 ∧ ns.length ≤ 1000000000000 := ⟨by omega, by omega, by omega, by omega⟩
    have hbad : ∀ e, e ≠ 0 → e = (if x.2.2 = 0 then y.2.2 else x.2.2) → vocab_Changes.f ts ms us ns = some ([], e) → ∃ k, imprimaturlaw11_VocabChanges.f k ts ms us ns = some true := fun e he h1 h2 => by
      refine ⟨K1 + K2 + ts.length + us.length + 303, ?_⟩
      rw [hstart _ (by omega), hj [] e _ (by omega) h2, ← h1]
      obtain ⟨k, hk⟩ : ∃ k', K1 + K2 + ts.length + us.length + 303 - 1 = k' + 1 := ⟨K1 + K2 + ts.length + us.length + 301, by omega⟩
      rw [hk, imprimaturlaw11_VocabChanges.j1, if_neg he, if_pos rfl, if_pos (show (([] : List S63).length : Int) = 0 from rfl), known_ev k (by omega)]
      rfl
    by_cases cx : x.2.2 = 0
    · by_cases cy : y.2.2 = 0
      · obtain ⟨l, e1, e2, K3, hK3⟩ := chgs_ev (chk_zero hx cx) (chk_zero hy cy) ok ok2
        have hv : vocab_Changes.f ts ms us ns = some (l, 0) := by unfold vocab_Changes.f; rw [if_pos hlen, hx, Option.bind_some, if_pos cx, hy, Option.bind_some, if_pos cy, e1, Option.bind_some]
        refine ⟨K1 + K2 + K3 + ts.length + us.length + l.length + 310, ?_⟩
        rw [hstart _ (by omega), hj l 0 _ (by omega) hv, if_pos cx, cy]
        obtain ⟨k, hk⟩ : ∃ k', K1 + K2 + K3 + ts.length + us.length + l.length + 310 - 1 = k' + 2 := ⟨K1 + K2 + K3 + ts.length + us.length + l.length + 307, by omega⟩
        have e3 : imprimaturref11_Changes.f (k + 1) ts ms us ns = some (l.map cv) := hK3 (k + 1) (by omega)
        rw [hk, imprimaturlaw11_VocabChanges.j1, if_pos rfl, e3, Option.bind_some, if_pos rfl, imprimaturlaw11_VocabChanges.j2, List.length_map, if_neg (by simp)]
        exact law_l0 l e2 l.length 0 (Int.le_refl _) (by omega) k (by omega)
      · refine hbad y.2.2 cy (by rw [if_pos cx]) ?_
        unfold vocab_Changes.f; rw [if_pos hlen, hx, Option.bind_some, if_pos cx, hy, Option.bind_some, if_neg cy]
    · refine hbad x.2.2 cx (by rw [if_neg cx]) ?_
      unfold vocab_Changes.f; rw [if_pos hlen, hx, Option.bind_some, if_neg cx]
end Go.Proofs.Ytlgagppdipdkeaa.Pure
