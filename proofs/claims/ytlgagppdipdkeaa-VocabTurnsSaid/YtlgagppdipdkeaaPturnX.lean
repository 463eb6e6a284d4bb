/- The plain statement of VocabTurns: changes turned round. No condition. -/
import Derived.Test.YtlgagppdipdkeaaPchgX
import Derived.Test.YtlgagppdipdkeaaXTurnX
namespace Go.Proofs.Ytlgagppdipdkeaa.Pk
set_option linter.unusedVariables false
set_option linter.unusedSimpArgs false
open Go.RowKit Go.Proofs.YtlgagppdipdkeaaW.PrintWords Go.Proofs.Ytlgagppdipdkeaa.Q Go.Proofs.Ytlgagppdipdkeaa.X Go.Proofs.Ytlgagppdipdkeaa.R Go.Proofs.Ytlgagppdipdkeaa.K Go.Proofs.Ytlgagppdipdkeaa.KTurn
def sm (f : Nat → Nat) : Nat → Nat
  | 0 => 0
  | n + 1 => sm f n + f n
theorem sm_zero : ∀ n, sm (fun _ => 0) n = 0
  | 0 => rfl
  | n + 1 => by rw [sm, sm_zero n]
theorem sm_add (f g : Nat → Nat) : ∀ n, sm (fun i => f i + g i) n = sm f n + sm g n
  | 0 => rfl
  | n + 1 => by rw [sm, sm, sm, sm_add f g n]; omega
theorem sm_swap (f : Nat → Nat → Nat) (m : Nat) : ∀ n, sm (fun i => sm (fun j => f i j) m) n = sm (fun j => sm (fun i => f i j) n) m
  | 0 => by simp only [sm]; rw [sm_zero]
  | n + 1 => by
    simp only [sm]
    rw [sm_swap f m n, ← sm_add]
theorem sm_congr {f g : Nat → Nat} : ∀ n, (∀ i, i < n → f i = g i) → sm f n = sm g n
  | 0, _ => rfl
  | n + 1, h => by rw [sm, sm, sm_congr n (fun i hi => h i (by omega)), h n (by omega)]
/-- One of them counts, or none. -/
theorem sm_one (f : Nat → Nat) (j : Nat) : ∀ n, (∀ i, i < n → i ≠ j → f i = 0) → sm f n = if j < n then f j else 0
  | 0, _ => by rw [if_neg (by omega)]; rfl
  | n + 1, h => by
    rw [sm, sm_one f j n (fun i hi hn => h i (by omega) hn)]
    by_cases c : j = n
    · subst c; rw [if_neg (by omega), if_pos (by omega)]; omega
    · rw [h n (by omega) (fun e => c e.symm)]
      by_cases c2 : j < n
      · rw [if_pos c2, if_pos (by omega)]; rfl
      · rw [if_neg c2, if_neg (by omega)]
def kd (x y : S44) (f t : Int) : Int := if (x.f2 != y.f2) = true then 3 else if x.f1 = y.f1 then (if f = t then 0 else 5) else 4
theorem kd_sym (x y : S44) (f t : Int) : kd x y f t = kd y x t f := by
  unfold kd
  have e1 : (x.f2 != y.f2) = (y.f2 != x.f2) := by cases x.f2 <;> cases y.f2 <;> rfl
  have e2 : (x.f1 = y.f1) = (y.f1 = x.f1) := propext ⟨fun h => h.symm, fun h => h.symm⟩
  have e3 : (f = t) = (t = f) := propext ⟨fun h => h.symm, fun h => h.symm⟩
  rw [e1]
  simp only [e2, e3]
theorem kd_rng (x y : S44) (f t : Int) (h : 0 < kd x y f t) : 3 ≤ kd x y f t ∧ kd x y f t ≤ 5 := by
  unfold kd at h ⊢
  repeat' split at h <;> simp_all
def gA (ts : List S44) (J : Ids) (i : Nat) : Nat := if (J (str ts i)).isSome = true then 0 else 1
def gK (ts us : List S44) (I : Ids) (q : Int) (i : Nat) : Nat := match I (str us i) with
  | none => 0
  | some j => if kd (rd_T44 ts j) (rd_T44 us i) j i = q then 1 else 0
def Kinds (l : List S63) : Prop := ∀ x ∈ l, 1 ≤ x.f0 ∧ x.f0 ≤ 5
theorem kinds_snoc {l : List S63} {x : S63} (h : Kinds l) (hx : 1 ≤ x.f0 ∧ x.f0 ≤ 5) : Kinds (l ++ [x]) := by
  intro y hy
  rcases List.mem_append.1 hy with g | g
  · exact h y g
  · rw [List.mem_singleton.1 g]; exact hx
theorem cnA (ts : List S44) (J : Ids) : ∀ (d i : Nat) (out : List S63), Kinds out → (∀ q, cn out q = if q = 1 then sm (gA ts J) i else 0) →
    Kinds (chA ts J d i out) ∧ ∀ q, cn (chA ts J d i out) q = if q = 1 then sm (gA ts J) (i + d) else 0 := by
  intro d
  induction d with
  | zero => intro i out hk h; exact ⟨hk, h⟩
  | succ d ih =>
    intro i out hk h
    rw [chA]
    have e : ((i : Int) + 1) = ((i + 1 : Nat) : Int) := by omega
    rw [e, show i + (d + 1) = (i + 1) + d by omega]
    refine ih (i + 1) _ ?_ fun q => ?_
    · split
      · exact hk
      · exact kinds_snoc hk ⟨by simp, by simp⟩
    · rw [sm]
      unfold gA str
      by_cases c : (J (strOfNums (rd_T44 ts (i : Int)).f0)).isSome = true
      · rw [if_pos c, if_pos c, h q]; rfl
      · rw [if_neg c, if_neg c, cn_snoc, h q]
        by_cases cq : q = 1
        · rw [if_pos cq, if_pos cq, if_pos (by rw [cq])]; rfl
        · rw [if_neg cq, if_neg cq, if_neg (fun e => cq e.symm)]
theorem cnB (ts us : List S44) (I : Ids) (st : Scs ts) (su : Scs us) (hI : IdOk ts I ts.length) (B : Int → Nat) : ∀ (d i : Nat) (out l : List S63), i + d = us.length → Kinds out → (∀ q, 1 ≤ q → cn out q = B q + (if q = 2 then sm (gA us I) i else 0) + sm (gK ts us I q) i) → chB ts us I d i out = some l →
    Kinds l ∧ ∀ q, 1 ≤ q → cn l q = B q + (if q = 2 then sm (gA us I) us.length else 0) + sm (gK ts us I q) us.length := by
  intro d
  induction d with
  | zero =>
    intro i out l hd hk h hl
    rw [chB] at hl
    obtain rfl := Option.some.inj hl
    rw [show us.length = i by omega]
    exact ⟨hk, h⟩
  | succ d ih =>
    intro i out l hd hk h hl
    have e : ((i : Int) + 1) = ((i + 1 : Nat) : Int) := by omega
    rw [chB, e] at hl
    cases c : I (strOfNums (rd_T44 us (i : Int)).f0) with
    | none =>
      rw [c] at hl
      refine ih (i + 1) _ l (by omega) (kinds_snoc hk ⟨by simp, by simp⟩) (fun q hq => ?_) hl
      rw [cn_snoc, h q hq, sm, sm]
      have g1 : gA us I i = 1 := by unfold gA str; rw [c]; rfl
      have g2 : gK ts us I q i = 0 := by unfold gK str; rw [c]
      rw [g1, g2]
      by_cases cq : q = 2
      · rw [if_pos cq, if_pos cq, if_pos (by rw [cq])]; omega
      · rw [if_neg cq, if_neg cq, if_neg (fun e => cq e.symm)]; omega
    | some j =>
      obtain ⟨a1, a2, -⟩ := hI.2 _ j c
      have j0 := st j a1 a2
      have i0 := su i (by omega) (by omega)
      have hk0 := kind_eq (rd_T44 ts j) (rd_T44 us i) j i j0.1 i0.1 j0.2 i0.2
      rw [c] at hl
      simp only at hl
      rw [hk0, Option.bind_some] at hl
      have g1 : gA us I i = 0 := by unfold gA str; rw [c]; rfl
      have g2 : ∀ q, gK ts us I q i = if kd (rd_T44 ts j) (rd_T44 us i) j i = q then 1 else 0 := fun q => by unfold gK str; rw [c]
      change chB ts us I d ((i + 1 : Nat) : Int) (if 0 < kd (rd_T44 ts j) (rd_T44 us i) j i then out ++ [⟨kd (rd_T44 ts j) (rd_T44 us i) j i, j, i⟩] else out) = some l at hl
      have hr := kd_rng (rd_T44 ts j) (rd_T44 us i) j i
      generalize kd (rd_T44 ts j) (rd_T44 us i) j i = z at hl g2 hr
      refine ih (i + 1) _ l (by omega) ?_ (fun q hq => ?_) hl
      · by_cases cz : 0 < z
        · rw [if_pos cz]; have := hr cz; exact kinds_snoc hk ⟨by show 1 ≤ z; omega, by show z ≤ 5; omega⟩
        · rw [if_neg cz]; exact hk
      · rw [sm, sm, g1, g2]
        by_cases cz : 0 < z
        · rw [if_pos cz, cn_snoc, h q hq]; simp only [Nat.add_zero]; omega
        · rw [if_neg cz, h q hq, if_neg (show ¬ z = q by omega)]; simp only [Nat.add_zero]
/-- What is matched from one side is matched from the other. -/
theorem match_sym (ts us : List S44) (I J : Ids) (hI : IdOk ts I ts.length) (hJ : IdOk us J us.length) (q : Int) : sm (gK ts us I q) us.length = sm (gK us ts J q) ts.length := by
  have key : ∀ (a b : List S44) (A B : Ids), IdOk a A a.length → IdOk b B b.length → ∀ i, i < b.length → gK a b A q i = sm (fun j => if A (str b i) = some (j : Int) ∧ kd (rd_T44 a j) (rd_T44 b i) j i = q then 1 else 0) a.length := by
    intro a b A B hA hB i hi
    unfold gK
    cases c : A (str b i) with
    | none => rw [sm_congr (g := fun _ => 0) _ (fun j _ => by rw [if_neg (by rintro ⟨h, _⟩; cases h)]), sm_zero]
    | some j =>
      obtain ⟨a1, a2, -⟩ := hA.2 _ j c
      rw [sm_one _ j.toNat _ (fun x hx hn => by rw [if_neg]; rintro ⟨h, _⟩; have := Option.some.inj h; omega), if_pos (by omega)]
      simp only
      rw [show ((j.toNat : Nat) : Int) = j by omega]
      by_cases ck : kd (rd_T44 a j) (rd_T44 b i) j i = q
      · rw [if_pos ck, if_pos ⟨rfl, ck⟩]
      · rw [if_neg ck, if_neg (fun h => ck h.2)]
  rw [sm_congr _ (key ts us I J hI hJ), sm_congr _ (key us ts J I hJ hI), sm_swap]
  refine sm_congr _ fun j hj => sm_congr _ fun i hi => ?_
  have h1 : I (str us i) = some (j : Int) ↔ J (str ts j) = some (i : Int) := by
    constructor
    · intro h
      have e := (hI.2 _ _ h).2.2
      have g := hJ.1 i (by omega) (by omega)
      unfold str at e ⊢
      rw [e]; exact g
    · intro h
      have e := (hJ.2 _ _ h).2.2
      have g := hI.1 j (by omega) (by omega)
      unfold str at e ⊢
      rw [e]; exact g
  rw [kd_sym]
  simp only [h1]
theorem ids_of {ts : List S44} {ms : List S50} (w : WF ts ms) : ∃ I, tkGo ts ts.length 0 (fun _ => none) = .inr I ∧ IdOk ts I ts.length :=
  tk_of ts w.1.2.2.1 w.1.2.2.2.1 ts.length 0 (fun _ => none) (by omega) (by omega) (idOk_zero ts)
theorem chgs_cn {ts us : List S44} {ms ns : List S50} (wt : WF ts ms) (wu : WF us ns) (ot : Ok44 ts) (ou : Ok44 us) {I J : Ids} (hI : tkGo ts ts.length 0 (fun _ => none) = .inr I) (oI : IdOk ts I ts.length) (hJ : tkGo us us.length 0 (fun _ => none) = .inr J) :
    ∃ l, chgs ts us = some l ∧ l.length ≤ 10000 ∧ Kinds l ∧ ∀ q, 1 ≤ q → cn l q = (if q = 1 then sm (gA ts J) ts.length else 0) + (if q = 2 then sm (gA us I) us.length else 0) + sm (gK ts us I q) us.length := by
  obtain ⟨l, h1, h2, -⟩ := chgs_ev wt wu ot ou
  refine ⟨l, h1, h2, ?_⟩
  unfold chgs at h1
  rw [hI, hJ] at h1
  simp only at h1
  obtain ⟨a1, a2⟩ := cnA ts J ts.length 0 [] (fun x hx => by cases hx) (fun q => by simp [cn, sm])
  rw [Nat.zero_add] at a2
  exact cnB ts us I (scs_of (fun j a b => (ot.2 j a b).1) wt.1.2.2.1) (scs_of (fun j a b => (ou.2 j a b).1) wu.1.2.2.1) oI (fun q => if q = 1 then sm (gA ts J) ts.length else 0) us.length 0 _ l (by omega) a1 (fun q hq => by rw [a2]; simp [sm]) h1
/-- From one to itself nothing changes. -/
theorem chA_self (ts : List S44) (I : Ids) (oI : IdOk ts I ts.length) : ∀ (d : Nat) (i : Int), 0 ≤ i → i + d = ts.length → chA ts I d i [] = [] := by
  intro d
  induction d with
  | zero => intro i _ _; rfl
  | succ d ih =>
    intro i h0 h1
    rw [chA, oI.1 i h0 (by omega)]
    exact ih (i + 1) (by omega) (by omega)
theorem chB_self (ts : List S44) (I : Ids) (oI : IdOk ts I ts.length) (st : Scs ts) : ∀ (d : Nat) (i : Int), 0 ≤ i → i + d = ts.length → chB ts ts I d i [] = some [] := by
  intro d
  induction d with
  | zero => intro i _ _; rfl
  | succ d ih =>
    intro i h0 h1
    have i0 := st i h0 (by omega)
    rw [chB, oI.1 i h0 (by omega)]
    simp only
    rw [kind_eq _ _ i i i0.1 i0.1 i0.2 i0.2, Option.bind_some, if_neg (by simp)]
    exact ih (i + 1) (by omega) (by omega)
end Go.Proofs.Ytlgagppdipdkeaa.Pk
namespace Go.Proofs.Ytlgagppdipdkeaa.Pure
open Go.RowKit Go.Proofs.YtlgagppdipdkeaaW.PrintWords Go.Proofs.Ytlgagppdipdkeaa.Q Go.Proofs.Ytlgagppdipdkeaa.X Go.Proofs.Ytlgagppdipdkeaa.R Go.Proofs.Ytlgagppdipdkeaa.K Go.Proofs.Ytlgagppdipdkeaa.KTurn Go.Proofs.Ytlgagppdipdkeaa.Pk
set_option linter.unusedSimpArgs false
theorem VocabTurns : ∀ (s0 : S25) (s1 : S25), Ops.good25 s0 → Ops.good25 s1 → ∃ k, imprimaturlaw11_VocabTurns.f k s0.f0 s0.f1 s1.f0 s1.f1 = some true := by
  rintro ⟨ts, ms⟩ ⟨us, ns⟩ ⟨⟨g1, g2⟩, g3, g4⟩ ⟨⟨u1, u2⟩, u3, u4⟩
  simp only at g1 g2 g3 g4 u1 u2 u3 u4 ⊢
  have hn : Lens ts := fun j h0 h1 => by have := (good_at g1 j h0 h1).1.2; omega
  have hm : Lens us := fun j h0 h1 => by have := (good_at u1 j h0 h1).1.2; omega
  obtain ⟨b, hb, hs⟩ := great_ev ts ms (by omega) (by omega) hn
  obtain ⟨c, hc, hs2⟩ := great_ev us ns (by omega) (by omega) hm
  refine ⟨ts.length + us.length + 301, ?_⟩
  unfold imprimaturlaw11_VocabTurns.f
  rw [hb _ (by omega), Option.bind_some, hc _ (by omega), Option.bind_some, known_ev _ (by omega)]
  cases b with
  | true => rw [if_pos rfl]
  | false =>
  rw [if_neg (by simp)]
  cases c with
  | true => rw [if_pos rfl]
  | false =>
    rw [if_neg (by simp)]
    have hle := hs rfl
    have hle2 := hs2 rfl
    have ok : Ok44 ts := ⟨by omega, fun j h0 h1 => ⟨(good_at g1 j h0 h1).2, hn j h0 h1⟩⟩
    have ok2 : Ok44 us := ⟨by omega, fun j h0 h1 => ⟨(good_at u1 j h0 h1).2, hm j h0 h1⟩⟩
    obtain ⟨x, hx, -⟩ := check_eq ts ms ok (by omega)
    obtain ⟨y, hy, -⟩ := check_eq us ns ok2 (by omega)
    have hv : ∀ (a : List S44) (p : List S50) (b : List S44) (q : List S50) (z t : Int × Int × Int), a.length ≤ 4096 → p.length ≤ 4096 → b.length ≤ 4096 → q.length ≤ 4096 → chk a p = some z → chk b q = some t →
        vocab_Changes.f a p b q = if z.2.2 = 0 then (if t.2.2 = 0 then (chgs a b).bind fun l => some (l, 0) else some ([], t.2.2)) else some ([], z.2.2) := fun a p b q z t h1 h2 h3 h4 e1 e2 => by
      unfold vocab_Changes.f
      rw [if_pos ⟨by omega, by omega, by omega, by omega⟩, e1, Option.bind_some, e2, Option.bind_some]
    rw [hv ts ms us ns x y (by omega) (by omega) (by omega) (by omega) hx hy, hv us ns ts ms y x (by omega) (by omega) (by omega) (by omega) hy hx, hv ts ms ts ms x x (by omega) (by omega) (by omega) (by omega) hx hx]
    by_cases cx : x.2.2 = 0
    · have wt := chk_zero hx cx
      obtain ⟨I, hI, oI⟩ := ids_of wt
      have en : chgs ts ts = some [] := by
        unfold chgs
        rw [hI]
        simp only
        rw [chA_self ts I oI _ 0 (Int.le_refl _) (by omega)]
        exact chB_self ts I oI (scs_of (fun j a b => (ok.2 j a b).1) wt.1.2.2.1) _ 0 (Int.le_refl _) (by omega)
      rw [if_pos cx, if_pos cx, if_pos cx, if_pos cx, en, Option.bind_some]
      by_cases cy : y.2.2 = 0
      · have wu := chk_zero hy cy
        obtain ⟨J, hJ, oJ⟩ := ids_of wu
        rw [if_pos cy, if_pos cy]
        obtain ⟨l, l1, l2, l3, l4⟩ := chgs_cn wt wu ok ok2 hI oI hJ
        obtain ⟨m, m1, m2, m3, m4⟩ := chgs_cn wu wt ok2 ok hJ oJ hI
        rw [l1, m1]
        simp only [Option.bind_some]
        rw [if_neg (by simp), if_pos]
        refine ⟨trivial, trivial, trivial, ?_⟩
        unfold turnsB
        simp only [Bool.and_eq_true, decide_eq_true_eq]
        have ha : ∀ {z : List S63}, Kinds z → (z.all fun x => decide (1 ≤ x.f0 ∧ x.f0 ≤ 5)) = true := fun h => List.all_eq_true.mpr fun x hx => by simpa using h x hx
        have hz : ∀ (a b : List S44) (A : Ids) (q : Int), (q = 1 ∨ q = 2) → sm (gK a b A q) b.length = 0 := fun a b A q hq => by
          rw [sm_congr (g := fun _ => 0) _ (fun i _ => ?_), sm_zero]
          unfold gK
          cases A (str b i) with
          | none => rfl
          | some j =>
            simp only
            rw [if_neg]
            intro e
            have := kd_rng (rd_T44 a j) (rd_T44 b i) j i (by omega)
            omega
        have e1 := l4 1 (by omega)
        have e2 := l4 2 (by omega)
        have e3 := l4 3 (by omega)
        have e4 := l4 4 (by omega)
        have e5 := l4 5 (by omega)
        have f1 := m4 1 (by omega)
        have f2 := m4 2 (by omega)
        have f3 := m4 3 (by omega)
        have f4 := m4 4 (by omega)
        have f5 := m4 5 (by omega)
        have s3 := match_sym ts us I J oI oJ 3
        have s4 := match_sym ts us I J oI oJ 4
        have s5 := match_sym ts us I J oI oJ 5
        rw [hz ts us I 1 (.inl rfl)] at e1
        rw [hz ts us I 2 (.inr rfl)] at e2
        rw [hz us ts J 1 (.inl rfl)] at f1
        rw [hz us ts J 2 (.inr rfl)] at f2
        simp only [if_pos, if_neg, show ¬ (2 : Int) = 1 by decide, show ¬ (1 : Int) = 2 by decide, show ¬ (3 : Int) = 1 by decide, show ¬ (3 : Int) = 2 by decide, show ¬ (4 : Int) = 1 by decide, show ¬ (4 : Int) = 2 by decide, show ¬ (5 : Int) = 1 by decide, show ¬ (5 : Int) = 2 by decide, if_true, if_false, Nat.add_zero, Nat.zero_add] at e1 e2 e3 e4 e5 f1 f2 f3 f4 f5
        exact ⟨⟨⟨⟨⟨ha l3, ha m3⟩, by omega⟩, by omega⟩, rfl⟩, by omega, by omega, by omega, by omega, by omega⟩
      · rw [if_neg cy, if_neg cy]
        simp only [Option.bind_some]
        rw [if_pos ⟨cy, cy, rfl, rfl⟩]
    · rw [if_neg cx, if_neg cx, if_neg cx]
      by_cases cy : y.2.2 = 0
      · rw [if_pos cy]
        simp only [Option.bind_some]
        rw [if_pos ⟨cx, cx, rfl, rfl⟩]
      · rw [if_neg cy]
        simp only [Option.bind_some]
        rw [if_pos ⟨cx, cy, rfl, rfl⟩]
end Go.Proofs.Ytlgagppdipdkeaa.Pure
