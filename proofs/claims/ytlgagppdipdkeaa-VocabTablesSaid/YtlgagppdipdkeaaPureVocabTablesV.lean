/- VocabTables: the law's plain function with its contract, and the plain statement. No condition. -/
import Derived.Test.YtlgagppdipdkeaaXVtV
import Derived.Test.YtlgagppdipdkeaaPprV
import Derived.Test.YtlgagppdipdkeaaPspV
import Derived.Test.YtlgagppdipdkeaaPureVocabChecksV
namespace Go.Proofs.Ytlgagppdipdkeaa.KTab
open Go.RowKit Go.Maps Go.Proofs.YtlgagppdipdkeaaW.PrintWords Go.Proofs.Ytlgagppdipdkeaa.Q Go.Proofs.Ytlgagppdipdkeaa.X Go.Proofs.Ytlgagppdipdkeaa.R Go.Proofs.Ytlgagppdipdkeaa.K Go.Proofs.Ytlgagppdipdkeaa.KT
set_option linter.unusedVariables false
structure TabO (k : Nat) (ts : List S44) (ms : List S50) (id a_ b_ : Int) (s : List Int) : Prop where
  hg : imprimaturlaw11_great.f k ts ms = some false
  hs : s.length ≤ 500
  hts : ts.length ≤ 1000000
  hms : ms.length ≤ 1000000
  h : ∃ x y, chk ts ms = some x ∧ imprimaturref11_Check.f k ts ms = some y ∧ (y.2.2 = x.2.2 ∧ x.2.2 ≠ 0 ∨ x.2.2 = 0 ∧ y.2.2 = 0 ∧ W64 a_ ∧ W64 b_ ∧ (strOfNums s).size ≤ maxLen ∧
    (∀ k : Nat, k < (spOrd ts (sps ts ts.length)).length → 0 ≤ rd (spOrd ts (sps ts ts.length)) k ∧ rd (spOrd ts (sps ts ts.length)) k < (ts.length : Int)) ∧ (spOrd ts (sps ts ts.length)).length ≤ 1000000000000 ∧
    spcGo ts s (spOrd ts (sps ts ts.length)) (spOrd ts (sps ts ts.length)).length 0 = spRef ts s ts.length 0 (0, 0) ∧
    ((id < 0 ∨ (ts.length : Int) ≤ id) ∨ 0 ≤ id ∧ id < (ts.length : Int) ∧ (rd_T44 ts id).f0.length ≤ 1000000000000) ∧
    ∃ I kq bq nq rq q1 q2 bp, tkGo ts ts.length 0 (fun _ => none) = .inr I ∧ imprimaturref11_Find.f k ts ms s = some kq ∧ (I (strOfNums s)).getD 0 = nq ∧ (I (strOfNums s)).isSome = bq ∧ ((bq = true ∧ decide (0 ≤ kq) = true ∧ (nq != kq) = false ∧ 0 = 0) ∨ (bq = false ∧ decide (0 ≤ kq) = false ∧ nq = 0 ∧ 0 = 0)) ∧
      imprimaturref11_Pair.f k ts ms a_ b_ = some rq ∧ (prs ms ms.length (a_, b_)).getD (0, 0) = (q1, q2) ∧ (prs ms ms.length (a_, b_)).isSome = bp ∧ ((bp = true ∧ decide (0 ≤ rq) = true ∧ (q1 != rq) = false ∧ rq < ms.length ∧ (q2 != (rd_T50 ms rq).f2) = false) ∨ (bp = false ∧ decide (0 ≤ rq) = false ∧ q1 = 0 ∧ q2 = 0)))
def TabA (k : Nat) (ts : List S44) (ms : List S50) (s : List Int) : Prop := ∃ b, imprimaturlaw11_great.f k ts ms = some b ∧ (b = true ∨ 500 < s.length)
open Classical in
noncomputable def imprimaturlaw11_VocabTables.f (k : Nat) (l0_0 : List S44) (l0_1 : List S50) (a1 a2 a3 : Int) (l4 : List Int) : Option Bool := if TabA k l0_0 l0_1 l4 ∨ TabO k l0_0 l0_1 a1 a2 a3 l4 then imprimaturlaw11_known.f k else none
theorem imprimaturlaw11_VocabTables.calls (k : Nat) (A0_0 : Option Addr) (c0_0 : Nat) (l0_0 : List (S44)) (A0_1 : Option Addr) (c0_1 : Nat) (l0_1 : List (S50)) (a1 : Int) (a2 : Int) (a3 : Int) (A4 : Option Addr) (c4 : Nat) (l4 : List Int) (r : Bool) (w : World) (hr0_0 : Kd.C k44 w A0_0 l0_0.length l0_0) (hc0_0 : l0_0.length ≤ c0_0) (hr0_1 : Kd.C k50 w A0_1 l0_1.length l0_1) (hc0_1 : l0_1.length ≤ c0_1) (hr4 : Kd.C (Kd.int .u8) w A4 l4.length l4) (hc4 : l4.length ≤ c4) (h : imprimaturlaw11_VocabTables.f k l0_0 l0_1 a1 a2 a3 l4 = some r) :
    Calls Try.prog 12 #[.agg #[.slice A0_0 l0_0.length c0_0, .slice A0_1 l0_1.length c0_1], .int .i64 a1, .int .i64 a2, .int .i64 a3, .slice A4 l4.length c4] w fun e w' => e = .returned (.bool r) ∧ Below w.heap.size w w' := by
  unfold imprimaturlaw11_VocabTables.f at h
  split at h
  · rename_i hc
    rcases hc with ⟨b, hg, hc⟩ | ⟨hg, hs, hts, hms, x, y, hx, hy, hc⟩
    · exact tab_known k A0_0 A0_1 c0_0 c0_1 l0_0 l0_1 a1 a2 a3 A4 c4 l4 r b hg h hc w hr0_0 hc0_0 hr0_1 hc0_1
    · rcases hc with ⟨hxy, hne⟩ | ⟨hx0, hy0, hwa, hwb, hsz, hsp, hspl, hspq, hid, I, kq, bq, nq, rq, q1, q2, bp, hI, hf, hI1, hI2, hfi, hp, hP1, hP2, hpi⟩
      · exact tab_err k A0_0 A0_1 c0_0 c0_1 l0_0 l0_1 a1 a2 a3 A4 c4 l4 r x y hg h hs hts hms hx hy hxy hne w hr0_0 hc0_0 hr0_1 hc0_1
      · rcases hid with hid | ⟨i0, i1, i2⟩
        · exact tab_ok0 k A0_0 A0_1 c0_0 c0_1 l0_0 l0_1 a1 a2 a3 A4 c4 l4 r x y hg h hs hts hms hx hy hx0 hy0 I hI hid kq hf bq nq hI1 hI2 hfi rq q1 q2 bp hp hP1 hP2 hpi hwa hwb hsp hspl hspq w hr4 hc4 hsz hr0_0 hc0_0 hr0_1 hc0_1
        · exact tab_ok1 k A0_0 A0_1 c0_0 c0_1 l0_0 l0_1 a1 a2 a3 A4 c4 l4 r x y hg h hs hts hms hx hy hx0 hy0 I hI i0 i1 i2 kq hf bq nq hI1 hI2 hfi rq q1 q2 bp hp hP1 hP2 hpi hwa hwb hsp hspl hspq w hr4 hc4 hsz hr0_0 hc0_0 hr0_1 hc0_1
  · cases h
end Go.Proofs.Ytlgagppdipdkeaa.KTab
namespace Go.Proofs.Ytlgagppdipdkeaa.Pure
open Go.RowKit Go.Maps Go.Proofs.YtlgagppdipdkeaaW.PrintWords Go.Proofs.Ytlgagppdipdkeaa.Q Go.Proofs.Ytlgagppdipdkeaa.X Go.Proofs.Ytlgagppdipdkeaa.R Go.Proofs.Ytlgagppdipdkeaa.K Go.Proofs.Ytlgagppdipdkeaa.Pk Go.Proofs.Ytlgagppdipdkeaa.KT Go.Proofs.Ytlgagppdipdkeaa.KTab
set_option linter.unusedVariables false
theorem wf64' {a : Int} (h : (Lit.int .i64 a).wf = true) : W64 a := by
  have h2 : IntKind.i64.min ≤ a ∧ a ≤ IntKind.i64.max := by simpa [Lit.wf] using h
  have e1 : IntKind.i64.min = -9223372036854775808 := rfl
  have e2 : IntKind.i64.max = 9223372036854775807 := rfl
  unfold W64
  omega
theorem tok_rng {t : S44} (h : tokEr t = 0) : 1 ≤ t.f0.length ∧ t.f0.length ≤ 32 := by
  unfold tokEr at h
  by_cases c1 : (t.f0.length : Int) < 1
  · rw [if_pos c1] at h; cases h
  · rw [if_neg c1] at h
    by_cases c2 : 32 < (t.f0.length : Int)
    · rw [if_pos c2] at h; cases h
    · omega
theorem ord_rng (ts : List S44) : ∀ i : Nat, ∀ z ∈ spOrd ts (sps ts i), 0 ≤ z ∧ z < (i : Int)
  | 0, z, hz => by cases hz
  | i + 1, z, hz => by
    rw [sps] at hz
    split at hz
    · rw [isort_snoc] at hz
      rcases mem_ins ts _ z _ hz with h2 | h2
      · rw [h2]; omega
      · have := ord_rng ts i z h2; omega
    · have := ord_rng ts i z hz; omega
theorem ins_len (ts : List S44) (x : Int) : ∀ L : List Int, (Stb.insK (lnLt ts) x L).length = L.length + 1
  | [] => rfl
  | y :: r => by
    rw [Stb.insK]
    split
    · simp
    · simp [ins_len ts x r]
theorem ord_len (ts : List S44) : ∀ i : Nat, (spOrd ts (sps ts i)).length ≤ i
  | 0 => Nat.le_refl _
  | i + 1 => by
    have := ord_len ts i
    rw [sps]
    split
    · rw [isort_snoc, ins_len]; omega
    · omega
theorem VocabTables : ∀ (s0 : S25) (a1 a2 a3 : Int) (l4 : List Int), Ops.good25 s0 → (Lit.int .i64 a1).wf = true → (Lit.int .i64 a2).wf = true → (Lit.int .i64 a3).wf = true → ((∀ x ∈ l4, (Lit.int .u8 x).wf = true) ∧ l4.length * 1 ≤ 140737488351232) → ∃ k, imprimaturlaw11_VocabTables.f k s0.f0 s0.f1 a1 a2 a3 l4 = some true := by
  rintro ⟨ts, ms⟩ id a b s ⟨⟨g1, g2⟩, g3, g4⟩ w1 w2 w3 ⟨hs1, hs2⟩
  simp only at g1 g2 g3 g4 ⊢
  have hn : Lens ts := fun j h0 h1 => by have := (good_at g1 j h0 h1).1.2; omega
  obtain ⟨bb, hb, hsm⟩ := great_ev ts ms (by omega) (by omega) hn
  have fin_ : ∀ k, 301 ≤ k → TabA k ts ms s ∨ TabO k ts ms id a b s → imprimaturlaw11_VocabTables.f k ts ms id a b s = some true := fun k hk h => by
    unfold imprimaturlaw11_VocabTables.f
    rw [if_pos h]
    exact known_ev _ (by omega)
  by_cases hc : bb = true ∨ 500 < s.length
  · exact ⟨_, fin_ (ts.length + 301) (by omega) (.inl ⟨bb, hb _ (by omega), hc⟩)⟩
  · have b0 : bb = false := by cases bb; rfl; exact (hc (.inl rfl)).elim
    subst b0
    have hle := hsm rfl
    have ok : Ok44 ts := ⟨by omega, fun j h0 h1 => ⟨(good_at g1 j h0 h1).2, hn j h0 h1⟩⟩
    obtain ⟨x, hx, K, hK⟩ := check_eq ts ms ok (by omega)
    obtain ⟨K', hK'⟩ : ∃ K', K' = K + ts.length + ms.length + 301 := ⟨_, rfl⟩
    have hy : imprimaturref11_Check.f K' ts ms = some x := hK _ (by omega)
    have hf := find_eq ts ms s (by omega) K' (by omega)
    have hp := pair_ev ts ms a b (by omega) K' (by omega)
    refine ⟨K', fin_ _ (by omega) (.inr ⟨hb _ (by omega), by omega, by omega, by omega, x, x, hx, hy, ?_⟩)⟩
    by_cases c0 : x.2.2 = 0
    · have hwf := chk_zero hx c0
      obtain ⟨⟨z1, z2, z3, z4, z5, z6⟩, z7⟩ := hwf
      obtain ⟨J, j1, j2⟩ := tk_of ts z3 z4 ts.length 0 (fun _ => none) (by omega) (by omega) (idOk_zero ts)
      have hget := idOk_get j2 (strOfNums s)
      have hord := prs_pst ms a b ms.length
      have hrng := pst_rng ms a b ms.length
      refine .inr ⟨c0, c0, wf64' w2, wf64' w3, by rw [size_str]; unfold maxLen; omega, fun k hk => ?_, Nat.le_trans (ord_len ts ts.length) (by omega), special_law ts s (fun i hi hsp => ?_), ?_, J, _, _, _, _, _, _, _, j1, hf, rfl, rfl, ?_, hp, rfl, rfl, ?_⟩
      · have := ord_rng ts ts.length (rd (spOrd ts (sps ts ts.length)) (k : Int)) (by
          rw [rd, Int.toNat_natCast, List.getD_eq_getElem?_getD, List.getElem?_eq_getElem hk, Option.getD_some]; exact List.getElem_mem hk)
        exact this
      · have := (tok_rng (z3 (i : Int) (by omega) (by omega))).1; unfold sln; omega
      · by_cases c1 : id < 0
        · exact .inl (.inl c1)
        · by_cases c2 : (ts.length : Int) ≤ id
          · exact .inl (.inr c2)
          · exact .inr ⟨by omega, by omega, by have := (tok_rng (z3 id (by omega) (by omega))).2; omega⟩
      · rw [hget]
        by_cases c1 : 0 ≤ fnd ts (strOfNums s) ts.length 0
        · rw [if_pos c1]
          exact .inl ⟨rfl, decide_eq_true c1, by simp, rfl⟩
        · rw [if_neg c1]
          exact .inr ⟨rfl, decide_eq_false c1, rfl, rfl⟩
      · rw [hord]
        by_cases c1 : 0 ≤ pst ms a b ms.length
        · rw [if_pos c1]
          exact .inl ⟨rfl, decide_eq_true c1, by simp, by omega, by simp⟩
        · rw [if_neg c1]
          exact .inr ⟨rfl, decide_eq_false c1, rfl, rfl⟩
    · exact .inl ⟨rfl, c0⟩
end Go.Proofs.Ytlgagppdipdkeaa.Pure
