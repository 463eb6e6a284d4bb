/- The plain statement of VocabLess: without the last merge. No condition. -/
import Derived.Test.YtlgagppdipdkeaaPgV
import Derived.Test.YtlgagppdipdkeaaOpsV
import Derived.Test.YtlgagppdipdkeaaPfV
import Derived.Test.YtlgagppdipdkeaaKLess3V
section
namespace Go.Proofs.Ytlgagppdipdkeaa.Pure
open Go.RowKit Go.Proofs.YtlgagppdipdkeaaW.PrintWords Go.Proofs.Ytlgagppdipdkeaa.Q Go.Proofs.Ytlgagppdipdkeaa.X Go.Proofs.Ytlgagppdipdkeaa.R Go.Proofs.Ytlgagppdipdkeaa.K Go.Proofs.Ytlgagppdipdkeaa.Pk
theorem good_at {ts : List S44} (h : ∀ y ∈ ts, Ops.good44 y) (j : Int) (h0 : 0 ≤ j) (h1 : j < (ts.length : Int)) : Ops.good44 (rd_T44 ts j) := by
  unfold rd_T44
  rw [List.getD_eq_getElem?_getD, List.getElem?_eq_getElem (by omega)]
  exact h _ (List.getElem_mem _)
theorem VocabChecks : ∀ (s0 : S25), Ops.good25 s0 → ∃ k, imprimaturlaw11_VocabChecks.f k s0.f0 s0.f1 = some true := by
  rintro ⟨ts, ms⟩ ⟨⟨g1, g2⟩, g3, g4⟩
  simp only at g1 g2 g3 g4 ⊢
  have hn : Lens ts := fun j h0 h1 => by have := (good_at g1 j h0 h1).1.2; omega
  obtain ⟨b, hb, hs⟩ := great_ev ts ms (by omega) (by omega) hn
  cases b with
  | true =>
    refine ⟨ts.length + 301, ?_⟩
    unfold imprimaturlaw11_VocabChecks.f
    rw [hb _ (by omega), Option.bind_some, if_pos rfl, known_ev _ (by omega)]
    rfl
  | false =>
    have hle := hs rfl
    have ok : Ok44 ts := ⟨by omega, fun j h0 h1 => ⟨(good_at g1 j h0 h1).2, hn j h0 h1⟩⟩
    obtain ⟨x, hx, K, hK⟩ := check_eq ts ms ok (by omega)
    have hv : vocab_Check.f ts ms = some x := by unfold vocab_Check.f; rw [if_pos ⟨by omega, by omega⟩, hx]
    obtain ⟨a, c, e⟩ := x
    have hK' : imprimaturref11_Check.f (K + ts.length + 301) ts ms = some (a, c, e) := hK _ (by omega)
    refine ⟨K + ts.length + 301, ?_⟩
    unfold imprimaturlaw11_VocabChecks.f imprimaturlaw11_is.f
    rw [hb _ (by omega), Option.bind_some, if_neg (by simp), hv, Option.bind_some, hK', Option.bind_some, Option.bind_some, known_ev _ (by omega)]
    simp
end Go.Proofs.Ytlgagppdipdkeaa.Pure

end
namespace Go.Proofs.Ytlgagppdipdkeaa.Pk
set_option linter.unusedVariables false
set_option linter.unusedSimpArgs false
open Go.RowKit Go.Proofs.YtlgagppdipdkeaaW.PrintWords Go.Proofs.Ytlgagppdipdkeaa.Q Go.Proofs.Ytlgagppdipdkeaa.X Go.Proofs.Ytlgagppdipdkeaa.R
theorem rd44_take (ts : List S44) (n : Nat) (j : Int) (h0 : 0 ≤ j) (h1 : j < n) : rd_T44 (ts.take n) j = rd_T44 ts j := by
  unfold rd_T44
  rw [List.getD_eq_getElem?_getD, List.getD_eq_getElem?_getD, List.getElem?_take, if_pos (by omega)]
theorem rd50_take (ms : List S50) (n : Nat) (j : Int) (h0 : 0 ≤ j) (h1 : j < n) : rd_T50 (ms.take n) j = rd_T50 ms j := by
  unfold rd_T50
  rw [List.getD_eq_getElem?_getD, List.getD_eq_getElem?_getD, List.getElem?_take, if_pos (by omega)]
theorem mdl_take (ms : List S50) (n : Nat) (id : Int) (r : Nat) (hr : r ≤ n) : mdl (ms.take n) id r 0 = mdl ms id r 0 := by
  rw [Bool.eq_iff_iff, mdl_iff, mdl_iff]
  constructor
  · rintro ⟨j, h1, h2, h3⟩; exact ⟨j, h1, h2, by rw [rd50_take ms n j h1 (by omega)] at h3; exact h3⟩
  · rintro ⟨j, h1, h2, h3⟩; exact ⟨j, h1, h2, by rw [rd50_take ms n j h1 (by omega)]; exact h3⟩
theorem madeB_take (ts : List S44) (ms : List S50) (n : Nat) (id r : Int) (hr : r ≤ n) : madeB ts (ms.take n) id r = madeB ts ms id r := by
  unfold madeB
  rw [mdl_take ms n id r.toNat (by omega)]
theorem mdl_mono {ms : List S50} {id : Int} {a b : Nat} (h : a ≤ b) (hm : mdl ms id a 0 = true) : mdl ms id b 0 = true := by
  rw [mdl_iff] at hm ⊢
  obtain ⟨j, h1, h2, h3⟩ := hm
  exact ⟨j, h1, by omega, h3⟩
theorem madeB_mono {ts : List S44} {ms : List S50} {id a b : Int} (h : a ≤ b) (hm : madeB ts ms id a = true) : madeB ts ms id b = true := by
  unfold madeB at hm ⊢
  simp only [Bool.and_eq_true, Bool.or_eq_true] at hm ⊢
  refine ⟨hm.1, hm.2.imp (fun h => h) fun g => mdl_mono (by omega) g⟩
theorem madeB_isB {ts : List S44} {ms : List S50} {id a : Int} (hm : madeB ts ms id a = true) : isB ts id = true := by
  unfold madeB at hm
  simp only [Bool.and_eq_true] at hm
  exact hm.1
theorem mgOk_take {ts : List S44} {ms : List S50} {n : Nat} {r : Int} (h0 : 0 ≤ r) (h1 : r < n) (h : MgOk ts ms r) : MgOk ts (ms.take n) r := by
  unfold MgOk at h ⊢
  rw [rd50_take ms n r h0 h1, madeB_take _ _ _ _ _ (by omega), madeB_take _ _ _ _ _ (by omega), madeB_take _ _ _ _ _ (by omega)]
  refine ⟨h.1, h.2.1, h.2.2.1, h.2.2.2.1, h.2.2.2.2.1, fun c => ?_⟩
  rw [rd50_take ms n (r - 1) (by omega) (by omega)]
  exact h.2.2.2.2.2 c
/-- Without its last merge: what that made is not made. -/
theorem chk_less {ts : List S44} {ms : List S50} (h : WF ts ms) (n : Nat) (hn : ms.length = n + 1) : chk ts (ms.take n) = some (1, (rd_T50 ms n).f2, 90) := by
  obtain ⟨⟨h1, h2, h3, h4, h5, h6⟩, h7⟩ := h
  have hl : (ms.take n).length = n := by rw [List.length_take]; omega
  have hw : WM ts (ms.take n) := ⟨h1, by omega, h3, h4, h5, fun r a b => mgOk_take a (by omega) (h6 r a (by omega))⟩
  have hk := h6 n (by omega) (by omega)
  have hb := isB_ok hk.2.2.1
  have hx : fnG ts (ms.take n) ts.length 0 = some (rd_T50 ms n).f2 := by
    refine fnG_some _ _ _ ⟨hb.2.2, ?_⟩ _ _ hb.1 (by omega) fun j a b => ?_
    · rw [hl, madeB_take _ _ _ _ _ (Int.le_refl _)]; exact hk.2.2.2.1
    · rcases h7 j a (by omega) with g | g
      · exact .inl g
      · refine .inr ?_
        rw [hl, madeB_take _ _ _ _ _ (Int.le_refl _)]
        unfold madeB at g ⊢
        simp only [Bool.and_eq_true, Bool.or_eq_true] at g ⊢
        refine ⟨g.1, g.2.imp (fun h => h) fun g2 => ?_⟩
        rw [mdl_iff] at g2 ⊢
        obtain ⟨q, q1, q2, q3⟩ := g2
        refine ⟨q, q1, ?_, q3⟩
        by_cases e : q = n
        · rw [e] at q3; omega
        · omega
  rw [chk_wm _ _ hw, hx]
theorem isB_take {ts : List S44} {n : Nat} {id : Int} (h : isB ts id = true) (hn : id < n) : isB (ts.take n) id = true := by
  have hb := isB_ok h
  unfold isB
  rw [rd44_take ts n id hb.1 hn, hb.2.2, List.length_take]
  simp
  omega
theorem madeB_takeT {ts : List S44} {ms : List S50} {n : Nat} {id r : Int} (h0 : 0 ≤ id) (hn : id < n) : madeB (ts.take n) ms id r = madeB ts ms id r := by
  unfold madeB isB
  rw [rd44_take ts n id h0 hn, List.length_take]
  congr 3
  rw [Bool.eq_iff_iff]
  simp
  omega
/-- Without its last merge and the last token, which that made. -/
theorem wf_less {ts : List S44} {ms : List S50} (h : WF ts ms) (n : Nat) (hn : ms.length = n + 1) (m : Nat) (hm : ts.length = m + 1) (he : (rd_T50 ms n).f2 = m) : WF (ts.take m) (ms.take n) := by
  obtain ⟨⟨h1, h2, h3, h4, h5, h6⟩, h7⟩ := h
  have hl : (ms.take n).length = n := by rw [List.length_take]; omega
  have hlt : (ts.take m).length = m := by rw [List.length_take]; omega
  have hk := h6 n (by omega) (by omega)
  unfold MgOk at hk
  rw [he] at hk
  have hno : ∀ r : Int, r ≤ n → madeB ts ms m r = false := fun r hr => by
    cases c : madeB ts ms m r
    · rfl
    · have := madeB_mono hr c
      rw [hk.2.2.2.1] at this
      cases this
  have hlow : ∀ (id r : Int), r ≤ n → madeB ts ms id r = true → 0 ≤ id ∧ id < m := fun id r hr c => by
    have hb := isB_ok (madeB_isB c)
    refine ⟨hb.1, ?_⟩
    by_cases e : id = m
    · rw [e, hno r hr] at c; cases c
    · omega
  have htk : ∀ j, 0 ≤ j → j < (m : Int) → str (ts.take m) j = str ts j := fun j a b => by unfold str; rw [rd44_take ts m j a b]
  refine ⟨⟨by omega, by omega, fun j a b => ?_, fun i j a b c => ?_, fun c a b => ?_, fun r a b => ?_⟩, fun j a b => ?_⟩
  · rw [hlt] at b; rw [rd44_take ts m j a b]; exact h3 j a (by omega)
  · rw [hlt] at c; rw [htk i a (by omega), htk j (by omega) c]; exact h4 i j a b (by omega)
  · obtain ⟨j, j0, j1, j2, j3⟩ := h5 c a b
    have hj : j < m := by
      by_cases e : j = m
      · exfalso
        have hs : shortB (rd_T44 ts j) = true := by
          have := len_of_str (a := (rd_T44 ts j).f0) (b := [c]) j2
          unfold shortB
          rw [this, j3]
          rfl
        have : madeB ts ms m 0 = true := by
          unfold madeB
          rw [hk.2.2.1, ← e, hs]
          rfl
        rw [hno 0 (by omega)] at this
        cases this
      · omega
    exact ⟨j, j0, by omega, by rw [htk j j0 hj]; exact j2, by rw [rd44_take ts m j j0 hj]; exact j3⟩
  · rw [hl] at b
    have g := mgOk_take a b (h6 r a (by omega))
    have g0 := h6 r a (by omega)
    have e := rd50_take ms n r a b
    have l0 := hlow _ r (by omega) g0.1
    have l1 := hlow _ r (by omega) g0.2.1
    have l2 : 0 ≤ (rd_T50 ms r).f2 ∧ (rd_T50 ms r).f2 < m := by
      refine hlow _ (r + 1) (by omega) ?_
      unfold madeB
      rw [g0.2.2.1]
      have : mdl ms (rd_T50 ms r).f2 (r + 1).toNat 0 = true := by rw [mdl_iff]; exact ⟨r, a, by omega, rfl⟩
      rw [this]
      simp
    unfold MgOk at g ⊢
    rw [e] at g ⊢
    rw [madeB_takeT l0.1 l0.2, madeB_takeT l1.1 l1.2, madeB_takeT l2.1 l2.2, htk _ l0.1 l0.2, htk _ l1.1 l1.2, htk _ l2.1 l2.2, rd44_take ts m _ l2.1 l2.2]
    refine ⟨g.1, g.2.1, isB_take g.2.2.1 l2.2, g.2.2.2.1, g.2.2.2.2.1, fun c => ?_⟩
    have l3 : 0 ≤ (rd_T50 ms (r - 1)).f2 ∧ (rd_T50 ms (r - 1)).f2 < m := by
      refine hlow _ r (by omega) ?_
      unfold madeB
      rw [(h6 (r - 1) (by omega) (by omega)).2.2.1]
      have : mdl ms (rd_T50 ms (r - 1)).f2 r.toNat 0 = true := by rw [mdl_iff]; exact ⟨r - 1, by omega, by omega, rfl⟩
      rw [this]
      simp
    have g5 := g.2.2.2.2.2 c
    rw [rd50_take ms n (r - 1) (by omega) (by omega)] at g5 ⊢
    rw [rd44_take ts m _ l3.1 l3.2]
    exact g5
  · rw [hlt] at b
    rw [rd44_take ts m j a b, hl, madeB_takeT a b, madeB_take _ _ _ _ _ (Int.le_refl _)]
    rcases h7 j a (by omega) with g | g
    · exact .inl g
    · refine .inr ?_
      unfold madeB at g ⊢
      simp only [Bool.and_eq_true, Bool.or_eq_true] at g ⊢
      refine ⟨g.1, g.2.imp (fun h => h) fun g2 => ?_⟩
      rw [mdl_iff] at g2 ⊢
      obtain ⟨q, q1, q2, q3⟩ := g2
      refine ⟨q, q1, ?_, q3⟩
      by_cases e : q = n
      · rw [e, he] at q3; omega
      · omega
end Go.Proofs.Ytlgagppdipdkeaa.Pk
namespace Go.Proofs.Ytlgagppdipdkeaa.Pure
open Go.RowKit Go.Proofs.YtlgagppdipdkeaaW.PrintWords Go.Proofs.Ytlgagppdipdkeaa.Q Go.Proofs.Ytlgagppdipdkeaa.X Go.Proofs.Ytlgagppdipdkeaa.R Go.Proofs.Ytlgagppdipdkeaa.K Go.Proofs.Ytlgagppdipdkeaa.KLess Go.Proofs.Ytlgagppdipdkeaa.Pk
theorem VocabLess : ∀ (s0 : S25), Ops.good25 s0 → ∃ k, imprimaturlaw11_VocabLess.f k s0.f0 s0.f1 = some true := by
  rintro ⟨ts, ms⟩ ⟨⟨g1, g2⟩, g3, g4⟩
  simp only at g1 g2 g3 g4 ⊢
  have hn : Lens ts := fun j h0 h1 => by have := (good_at g1 j h0 h1).1.2; omega
  obtain ⟨b, hb, hs⟩ := great_ev ts ms (by omega) (by omega) hn
  have hj0 : ∀ k, 300 ≤ k → imprimaturlaw11_VocabLess.j0 (k + 1) true ts ms = some true := fun k hk => by
    rw [imprimaturlaw11_VocabLess.j0, if_pos rfl, known_ev k hk]; rfl
  refine ⟨ts.length + 302 + 1, ?_⟩
  unfold imprimaturlaw11_VocabLess.f
  rw [hb _ (by omega), Option.bind_some]
  cases b with
  | true => rw [if_pos rfl, hj0 _ (by omega)]
  | false =>
    rw [if_neg (by simp)]
    have hle := hs rfl
    have ok : Ok44 ts := ⟨by omega, fun j h0 h1 => ⟨(good_at g1 j h0 h1).2, hn j h0 h1⟩⟩
    by_cases c0 : (ms.length : Int) = 0
    · rw [c0]; exact hj0 _ (by omega)
    obtain ⟨x, hx, -⟩ := check_eq ts ms ok (by omega)
    have hv : ∀ (a : List S44) (b : List S50) y, a.length ≤ 4096 → b.length ≤ 4096 → chk a b = some y → vocab_Check.f a b = some y := fun a b y h1 h2 h => by unfold vocab_Check.f; rw [if_pos ⟨by omega, by omega⟩, h]
    obtain ⟨n, hnl⟩ : ∃ n, ms.length = n + 1 := ⟨ms.length - 1, by omega⟩
    have hw : wrap64 ((ms.length : Int) - 1) = n := by unfold wrap64; omega
    have hw2 : wrap64 ((ts.length : Int) - 1) = (ts.length : Int) - 1 := by unfold wrap64; omega
    rw [imprimaturlaw11_VocabLess.j0, if_neg (by simpa using c0), hv _ _ _ (by omega) (by omega) hx, Option.bind_some]
    by_cases c1 : x.2.2 = 0
    · rw [if_pos c1]
      have wf := chk_zero hx c1
      rw [hw, if_pos (by omega), if_pos (by omega), if_pos (by omega), Option.bind_some]
      have hlt : (ms.take n).length = n := by rw [List.length_take]; omega
      rw [show (n : Int).toNat = n from rfl, hv _ _ _ (by omega) (by omega) (chk_less wf n hnl), Option.bind_some]
      simp only [if_true, beq_self_eq_true, Bool.not_true, Bool.or_false]
      rw [imprimaturlaw11_VocabLess.j1, if_neg (by simp), hw2]
      by_cases c2 : (rd_T50 ms n).f2 = (ts.length : Int) - 1
      · have hb2 := isB_ok (wf.1.2.2.2.2.2 n (by omega) (by omega)).2.2.1
        obtain ⟨m, hm⟩ : ∃ m, ts.length = m + 1 := ⟨ts.length - 1, by omega⟩
        have he : (rd_T50 ms n).f2 = m := by omega
        rw [if_pos c2, if_pos (by omega), if_pos (by omega), he, show (m : Int).toNat = m from rfl]
        have hlt2 : (ts.take m).length = m := by rw [List.length_take]; omega
        rw [hv _ _ _ (by omega) (by omega) (chk_wf (wf_less wf n hnl m hm he)), Option.bind_some]
        simp only [if_true]
        rw [known_ev _ (by omega)]
        rfl
      · rw [if_neg c2, known_ev _ (by omega)]
        rfl
    · rw [if_neg c1, known_ev _ (by omega)]
      rfl
end Go.Proofs.Ytlgagppdipdkeaa.Pure
