/- The plain statement of VocabNeeds, but for the walk. No condition. -/
import Derived.Test.YtlgagppdipdkeaaPlessV
import Derived.Test.YtlgagppdipdkeaaXNeedV
import Derived.OpenShut
import Derived.Test.YtlgagppdipdkeaaQ11V
namespace Go.Proofs.Ytlgagppdipdkeaa.Pk
set_option linter.unusedVariables false
set_option linter.unusedSimpArgs false
open Go.RowKit Go.Proofs.YtlgagppdipdkeaaW.PrintWords Go.Proofs.Ytlgagppdipdkeaa.Q Go.Proofs.Ytlgagppdipdkeaa.X Go.Proofs.Ytlgagppdipdkeaa.R
/-- A token twice: it is told. -/
theorem chk_twice {ts : List S44} {ms : List S50} {q : Int} (h0 : 0 ≤ q) (h1 : q < (ts.length : Int)) {x : Int × Int × Int} (hx : chk (ts ++ [rd_T44 ts q]) ms = some x) : x.2.2 ≠ 0 := by
  intro e
  have hD := (chk_zero hx e).1.2.2.2.1
  refine hD q ts.length h0 h1 (by rw [List.length_append, List.length_singleton]; omega) ?_
  unfold str
  have e1 : rd_T44 (ts ++ [rd_T44 ts q]) q = rd_T44 ts q := by
    unfold rd_T44
    rw [List.getD_eq_getElem?_getD, List.getElem?_append_left (by omega), ← List.getD_eq_getElem?_getD]
  have e2 : rd_T44 (ts ++ [rd_T44 ts q]) (ts.length : Int) = rd_T44 ts q := by
    rw [show rd_T44 (ts ++ [rd_T44 ts q]) (ts.length : Int) = (ts ++ [rd_T44 ts q]).getD ts.length z44 from rfl, List.getD_eq_getElem?_getD, List.getElem?_append_right (Nat.le_refl _)]
    simp
  rw [e1, e2]
/-- The tokens without one. -/
def wo (ts : List S44) (n : Nat) : List S44 := ts.take n ++ ts.drop (n + 1)
theorem wo_len (ts : List S44) (n : Nat) (h : n < ts.length) : (wo ts n).length + 1 = ts.length := by unfold wo; rw [List.length_append, List.length_take, List.length_drop]; omega
def up (n : Nat) (j : Int) : Int := if j < n then j else j + 1
theorem wo_at (ts : List S44) (n : Nat) (h : n < ts.length) (j : Int) (h0 : 0 ≤ j) (h1 : j < ((wo ts n).length : Int)) : rd_T44 (wo ts n) j = rd_T44 ts (up n j) := by
  have hl := wo_len ts n h
  unfold up wo rd_T44
  by_cases c : j < n
  · rw [if_pos c, List.getD_eq_getElem?_getD, List.getElem?_append_left (by rw [List.length_take]; omega), List.getElem?_take, if_pos (by omega), List.getD_eq_getElem?_getD]
  · rw [if_neg c, List.getD_eq_getElem?_getD, List.getElem?_append_right (by rw [List.length_take]; omega), List.getElem?_drop, List.length_take, List.getD_eq_getElem?_getD, show n + 1 + (j.toNat - min n ts.length) = (j + 1).toNat by omega]
theorem chk_without {ts : List S44} {ms : List S50} (w : WF ts ms) {q : Int} (h0 : 0 ≤ q) (h1 : q < (ts.length : Int)) (hs : shortB (rd_T44 ts q) = true) (hb : 0 ≤ rd (rd_T44 ts q).f0 0 ∧ rd (rd_T44 ts q).f0 0 < 256) :
    ∃ c, chk (wo ts q.toNat) ms = some (2, c, 91) := by
  obtain ⟨⟨a1, a2, a3, a4, a5, a6⟩, a7⟩ := w
  have hq : q.toNat < ts.length := by omega
  have hl := wo_len ts q.toNat hq
  have hup : ∀ j, 0 ≤ j → j < ((wo ts q.toNat).length : Int) → 0 ≤ up q.toNat j ∧ up q.toNat j < ts.length ∧ up q.toNat j ≠ q := fun j b0 b1 => by unfold up; split <;> omega
  have hT : TkOk (wo ts q.toNat) := fun j b0 b1 => by rw [wo_at ts _ hq j b0 b1]; exact a3 _ (hup j b0 b1).1 (hup j b0 b1).2.1
  have hD : Diff (wo ts q.toNat) := fun i j b0 b1 b2 => by
    unfold str
    rw [wo_at ts _ hq i b0 (by omega), wo_at ts _ hq j (by omega) b2]
    refine a4 _ _ (hup i b0 (by omega)).1 ?_ (hup j (by omega) b2).2.1
    unfold up
    split <;> split <;> omega
  obtain ⟨J, g1, g2⟩ := tk_of (wo ts q.toNat) hT hD (wo ts q.toNat).length 0 (fun _ => none) (by omega) (by omega) (idOk_zero _)
  obtain ⟨c, hc⟩ : ∃ c, c = rd (rd_T44 ts q).f0 0 := ⟨_, rfl⟩
  rw [← hc] at hb
  have hf0 : (rd_T44 ts q).f0 = [c] := by
    unfold shortB at hs
    simp only [Bool.and_eq_true, beq_iff_eq] at hs
    have hl1 : (rd_T44 ts q).f0.length = 1 := by omega
    rw [hc]
    generalize (rd_T44 ts q).f0 = l at hl1 ⊢
    match l, hl1 with
    | [x], _ => rfl
  have hno : noShort (wo ts q.toNat) J c = true := by
    cases e : noShort (wo ts q.toNat) J c
    · obtain ⟨j, b0, b1, b2, -⟩ := (noShort_iff _ J g2 c).1 e
      exfalso
      unfold str at b2
      rw [wo_at ts _ hq j b0 b1, ← hf0] at b2
      obtain ⟨u0, u1, u2⟩ := hup j b0 b1
      rcases Int.lt_or_gt_of_ne u2 with d | d
      · exact a4 _ _ u0 d h1 b2
      · exact a4 _ _ h0 d u1 b2.symm
    · rfl
  have hal : alpGo (wo ts q.toNat) J 256 0 < 256 := by
    rcases Int.lt_or_le (alpGo (wo ts q.toNat) J 256 0) 256 with d | d
    · exact d
    · have := (alp_iff (wo ts q.toNat) J 256 0 (by omega)).1 (by omega) c hb.1 hb.2
      rw [hno] at this
      cases this
  refine ⟨alpGo (wo ts q.toNat) J 256 0, ?_⟩
  unfold chk
  rw [if_neg (by omega), if_neg (by omega), g1]
  simp only
  unfold chkI
  rw [if_pos hal]
theorem among_rng (a : Int) (n : Nat) (h0 : 0 < n) (h1 : n ≤ 10000) : ∃ q, imprimaturref01_Among.f a n = some q ∧ 0 ≤ q ∧ q < n := by
  have b1 : Int.tmod a n < n := Int.tmod_lt_of_pos a (by omega)
  have b2 : -(n : Int) < Int.tmod a n := Int.lt_tmod_of_pos a (by omega)
  unfold imprimaturref01_Among.f
  rw [if_neg (by omega), if_neg (by omega)]
  by_cases c : Int.tmod a n < 0
  · rw [if_pos c]
    refine ⟨_, rfl, ?_, ?_⟩ <;> unfold wrap64 <;> omega
  · rw [if_neg c]
    exact ⟨_, rfl, by omega, b1⟩
end Go.Proofs.Ytlgagppdipdkeaa.Pk
namespace Go.Proofs.Ytlgagppdipdkeaa.Pure
set_option linter.unusedSimpArgs false
open Go.RowKit Go.Proofs.YtlgagppdipdkeaaW.PrintWords Go.Proofs.Ytlgagppdipdkeaa.Q Go.Proofs.Ytlgagppdipdkeaa.X Go.Proofs.Ytlgagppdipdkeaa.R Go.Proofs.Ytlgagppdipdkeaa.K Go.Proofs.Ytlgagppdipdkeaa.KNeed Go.Proofs.Ytlgagppdipdkeaa.Pk
theorem VocabNeeds : ∀ (s0 : S25) (a1 : Int), Ops.good25 s0 → (fun n => (Lit.int .i64 n).wf = true) a1 → ∃ k, imprimaturlaw11_VocabNeeds.f k s0.f0 s0.f1 a1 = some true := by
  rintro ⟨ts, ms⟩ a1 ⟨⟨g1, g2⟩, g3, g4⟩ -
  simp only at g1 g2 g3 g4 ⊢
  have hn : Lens ts := fun j h0 h1 => by have := (good_at g1 j h0 h1).1.2; omega
  obtain ⟨b, hb, hs⟩ := great_ev ts ms (by omega) (by omega) hn
  refine ⟨ts.length + 301, ?_⟩
  unfold imprimaturlaw11_VocabNeeds.f
  rw [hb _ (by omega), Option.bind_some, known_ev _ (by omega)]
  by_cases c : b = true ∨ ts.length = 0 ∨ 390 < ts.length
  · rw [if_pos c]
  rw [if_neg c]
  obtain rfl : b = false := by
    cases b
    · rfl
    · exact absurd (.inl rfl) c
  have hle := hs rfl
  obtain ⟨q, hq, q0, q1⟩ := among_rng a1 ts.length (by omega) (by omega)
  rw [hq, Option.bind_some, if_pos ⟨q0, q1⟩]
  have hg := good_at g1 q q0 q1
  have ok : Ok44 ts := ⟨by omega, fun j h0 h1 => ⟨(good_at g1 j h0 h1).2, hn j h0 h1⟩⟩
  have okl : ∀ l : List S44, l.length ≤ 4096 → (∀ y ∈ l, y ∈ ts) → Ok44 l := fun l hl hm => ⟨hl, fun j h0 h1 => by
    have hmem : rd_T44 l j ∈ l := by
      unfold rd_T44
      rw [List.getD_eq_getElem?_getD, List.getElem?_eq_getElem (by omega)]
      exact List.getElem_mem _
    have := g1 _ (hm _ hmem)
    exact ⟨this.2, by have := this.1.2; omega⟩⟩
  have hmq : rd_T44 ts q ∈ ts := by
    unfold rd_T44
    rw [List.getD_eq_getElem?_getD, List.getElem?_eq_getElem (by omega)]
    exact List.getElem_mem _
  have l1 : (ts ++ [rd_T44 ts q]).length ≤ 4096 := by rw [List.length_append, List.length_singleton]; omega
  have l2 : (wo ts q.toNat).length ≤ 4096 := by have := wo_len ts q.toNat (by omega); omega
  obtain ⟨x, hx, -⟩ := check_eq (ts ++ [rd_T44 ts q]) ms (okl _ l1 (fun y hy => by
    rcases List.mem_append.1 hy with h | h
    · exact h
    · rw [List.mem_singleton.1 h]; exact hmq)) (by omega)
  obtain ⟨y, hy, -⟩ := check_eq (wo ts q.toNat) ms (okl _ l2 (fun y hy => by
    unfold wo at hy
    rcases List.mem_append.1 hy with h | h
    · exact List.mem_of_mem_take h
    · exact List.mem_of_mem_drop h)) (by omega)
  obtain ⟨z, hz, -⟩ := check_eq ts ms ok (by omega)
  have hv : ∀ (a : List S44) (t : Int × Int × Int), a.length ≤ 4096 → chk a ms = some t → vocab_Check.f a ms = some t := fun a t h1 h2 => by unfold vocab_Check.f; rw [if_pos ⟨by omega, by omega⟩, h2]
  rw [hv _ _ l1 hx, Option.bind_some, show ts.take q.toNat ++ ts.drop (q.toNat + 1) = wo ts q.toNat from rfl, hv _ _ l2 hy, Option.bind_some, hv _ _ (by omega) hz, Option.bind_some, short_r, Option.bind_some, if_pos]
  refine ⟨chk_twice q0 q1 hx, ?_⟩
  by_cases cz : z.2.2 = 0
  · cases hsb : shortB (rd_T44 ts q)
    · exact .inr (.inl rfl)
    · refine .inr (.inr ?_)
      have hl : (rd_T44 ts q).f0.length = 1 := by
        unfold shortB at hsb
        simp only [Bool.and_eq_true, beq_iff_eq] at hsb
        omega
      have hr : 0 ≤ rd (rd_T44 ts q).f0 0 ∧ rd (rd_T44 ts q).f0 0 < 256 := by
        have hm : ∀ y ∈ (rd_T44 ts q).f0, 0 ≤ y ∧ y ≤ 255 := fun y hy => bounds_u8 (hg.1.1 y hy)
        generalize (rd_T44 ts q).f0 = l at hl hm
        match l, hl, hm with
        | [a], _, hm => have := hm a (by simp); exact ⟨this.1, by show a < 256; omega⟩
      obtain ⟨c, hc⟩ := chk_without (chk_zero hz cz) q0 q1 hsb hr
      rw [hy] at hc
      rw [Option.some.inj hc]
  · exact .inl cz
end Go.Proofs.Ytlgagppdipdkeaa.Pure
