/- What the learner's last state is: fewer merges, well formed, orders: plain. No condition. -/
import Derived.Test.YtkdegcpfjfgajaaPlW
namespace Go.Proofs.Ytkdegcpfjfgajaa.X
open Go Go.RowKit Go.Proofs.YtkdegcpfjfgajaaW.PrintWords Go.Proofs.Ytkdegcpfjfgajaa.Mg Go.Proofs.Ytkdegcpfjfgajaa.Pt Go.Proofs.Ytkdegcpfjfgajaa.Q
set_option linter.unusedVariables false
set_option linter.unusedSimpArgs false
/-! ### by more merges -/
theorem lst_none {ns : List Int} {s : Lst} (h : nx (wt ns (cps s.ps)) s.ts s.T = none) : ∀ n, lst ns n s = s
  | 0 => rfl
  | n + 1 => by rw [lst, h]
theorem lst_some {ns : List Int} {s : Lst} {k : Int × Int} (h : nx (wt ns (cps s.ps)) s.ts s.T = some k) (n : Nat) : lst ns (n + 1) s = lst ns n (lmrg s k) := by rw [lst, h]
theorem lst_add (ns : List Int) : ∀ (m d : Nat) (s : Lst), lst ns (m + d) s = lst ns d (lst ns m s)
  | 0, d, s => by rw [Nat.zero_add]; rfl
  | m + 1, d, s => by
    rw [show m + 1 + d = (m + d) + 1 by omega]
    cases h : nx (wt ns (cps s.ps)) s.ts s.T with
    | none => rw [lst_none h, lst_none h, lst_none h]
    | some k => rw [lst_some h, lst_some h, lst_add ns m d _]
theorem lst_ext (ns : List Int) : ∀ (n : Nat) (s : Lst), ∃ a b, (lst ns n s).ts = s.ts ++ a ∧ (lst ns n s).ms = s.ms ++ b ∧ a.length = b.length ∧ b.length ≤ n ∧ (b.length < n → ∀ d, lst ns d (lst ns n s) = lst ns n s)
  | 0, s => ⟨[], [], by rw [List.append_nil]; rfl, by rw [List.append_nil]; rfl, rfl, Nat.le_refl _, fun h => absurd h (by simp)⟩
  | n + 1, s => by
    cases h : nx (wt ns (cps s.ps)) s.ts s.T with
    | none =>
      refine ⟨[], [], by rw [lst_none h, List.append_nil], by rw [lst_none h, List.append_nil], rfl, Nat.zero_le _, fun _ d => ?_⟩
      rw [lst_none h, lst_none h]
    | some k =>
      obtain ⟨a, b, h1, h2, h3, h4, h5⟩ := lst_ext ns n (lmrg s k)
      rw [lst_some h]
      refine ⟨_ :: a, _ :: b, by rw [h1]; exact List.append_assoc .., by rw [h2]; exact List.append_assoc .., by simp [h3], by simp; omega, fun hl => h5 (by simp at hl; omega)⟩
/-! ### well formed -/
structure Lw (sp : List (List Int)) (s : Lst) : Prop where
  len : s.ts.length = 256 + s.ms.length
  lt : ∀ c : Nat, c < 256 → rd_T43 s.ts c = ⟨[(c : Int)], 0, false⟩
  mg : ∀ j : Nat, j < s.ms.length → ∃ a b : Int, rd_T38 s.ms j = ⟨a, b, 256 + j⟩ ∧ 0 ≤ a ∧ a < 256 + j ∧ 0 ≤ b ∧ b < 256 + j ∧ rd_T43 s.ts (256 + j) = ⟨(rd_T43 s.ts a).f0 ++ (rd_T43 s.ts b).f0, (floatBits .sub .f64 0 (floatOfInt .f64 (j : Int))).getD 0, false⟩ ∧ (rd_T43 s.ts (256 + j)).f0.length ≤ 32
  T : ∀ x, (s.T x).isSome = true ↔ (∃ j : Nat, j < s.ts.length ∧ strOfNums (rd_T43 s.ts j).f0 = x) ∨ ∃ t ∈ sp, strOfNums t = x
  un : ∀ i j : Nat, i < j → j < s.ts.length → strOfNums (rd_T43 s.ts i).f0 ≠ strOfNums (rd_T43 s.ts j).f0
  sp : ∀ j : Nat, j < s.ts.length → ∀ t ∈ sp, strOfNums (rd_T43 s.ts j).f0 ≠ strOfNums t
theorem rd38_snoc (ms : List S38) (t : S38) (i : Int) : rd_T38 (ms ++ [t]) i = if i.toNat < ms.length then rd_T38 ms i else if i.toNat = ms.length then t else z38 := by
  rw [rd_T38, rd_T38, List.getD_eq_getElem?_getD, List.getD_eq_getElem?_getD]
  by_cases h : i.toNat < ms.length
  · rw [if_pos h, List.getElem?_append_left h]
  · rw [if_neg h, List.getElem?_append_right (by omega)]
    by_cases e : i.toNat = ms.length
    · rw [if_pos e, e, Nat.sub_self]; rfl
    · rw [if_neg e, List.getElem?_eq_none (by simp; omega)]; rfl
/-- The next pair: its tokens are there, theirs together is new. -/
theorem nx_some {ns : List Int} {s : Lst} {k : Int × Int} (h : LOk ns s) (hk : nx (wt ns (cps s.ps)) s.ts s.T = some k) : ∃ n, BInv (wt ns (cps s.ps)) s.ts s.T (fun _ => false) k n true := by
  unfold nx at hk
  split at hk
  · rename_i he
    cases hk
    exact he.choose_spec
  · cases hk
theorem Lw.mrg {ns : List Int} {sp : List (List Int)} {s : Lst} (ho : LOk ns s) (h : Lw sp s) {k : Int × Int} (hk : nx (wt ns (cps s.ps)) s.ts s.T = some k) : Lw sp (lmrg s k) := by
  obtain ⟨n, hb⟩ := nx_some ho hk
  obtain ⟨-, h2, -, h4, -⟩ := hb.2 rfl
  obtain ⟨a0, a1, b0, b1⟩ := ho.key (x := k) (by rw [h2]; rfl)
  have hl := h.len
  have h5 : (tabOf s.ts k).length ≤ 32 ∧ s.T (strOfNums (tabOf s.ts k)) = none := by
    unfold mayb at h4
    simp only [Bool.and_eq_true, Bool.not_eq_true', Bool.or_eq_false_iff, decide_eq_false_iff_not, Option.isNone_iff_eq_none] at h4
    refine ⟨?_, h4.2⟩
    rw [tabOf, List.length_append]
    omega
  have ex : (lmrg s k).ts = s.ts ++ [⟨tabOf s.ts k, scOf s.ms, false⟩] := rfl
  have em : (lmrg s k).ms = s.ms ++ [⟨k.1, k.2, s.ts.length⟩] := rfl
  have lx : (lmrg s k).ts.length = s.ts.length + 1 := by rw [ex, List.length_append]; rfl
  have lm : (lmrg s k).ms.length = s.ms.length + 1 := by rw [em, List.length_append]; rfl
  have old : ∀ i : Int, i < s.ts.length → rd_T43 (lmrg s k).ts i = rd_T43 s.ts i := fun i hi => by rw [ex, rd_snoc, if_pos (by omega)]
  have new : rd_T43 (lmrg s k).ts (s.ts.length : Nat) = ⟨tabOf s.ts k, scOf s.ms, false⟩ := by rw [ex, rd_snoc, if_neg (by omega), if_pos (by omega)]
  have hno : ¬ ((∃ j : Nat, j < s.ts.length ∧ strOfNums (rd_T43 s.ts j).f0 = strOfNums (tabOf s.ts k)) ∨ ∃ t ∈ sp, strOfNums t = strOfNums (tabOf s.ts k)) := fun hx => by
    have := (h.T _).2 hx
    rw [h5.2] at this
    cases this
  refine ⟨by rw [lx, lm, hl]; omega, fun c hc => by rw [old c (by omega)]; exact h.lt c hc, fun j hj => ?_, fun x => ?_, fun i j hi hj => ?_, fun j hj t ht => ?_⟩
  · by_cases c : j < s.ms.length
    · obtain ⟨a, b, g1, g2, g3, g4, g5, g6, g7⟩ := h.mg j c
      refine ⟨a, b, ?_, g2, g3, g4, g5, ?_, ?_⟩
      · rw [em, rd38_snoc, if_pos (by omega)]; exact g1
      · rw [old _ (by omega), old a (by omega), old b (by omega)]; exact g6
      · rw [old _ (by omega)]; exact g7
    · have hj2 : j = s.ms.length := by omega
      subst hj2
      have e : (256 : Int) + (s.ms.length : Nat) = ((s.ts.length : Nat) : Int) := by omega
      rw [e]
      refine ⟨k.1, k.2, ?_, a0, by omega, b0, by omega, ?_, ?_⟩
      · rw [em, rd38_snoc, if_neg (by omega), if_pos (by omega)]
      · rw [new, old _ a1, old _ b1]; rfl
      · rw [new]; exact h5.1
  · show (upd s.T (strOfNums (tabOf s.ts k)) (some (s.ts.length : Int)) x).isSome = true ↔ _
    by_cases e : x = strOfNums (tabOf s.ts k)
    · rw [e, upd_same]
      refine ⟨fun _ => .inl ⟨s.ts.length, by omega, by rw [new]⟩, fun _ => rfl⟩
    · rw [upd_other _ _ e, h.T x, lx]
      constructor
      · rintro (⟨j, j1, j2⟩ | g)
        · exact .inl ⟨j, by omega, by rw [old _ (by omega)]; exact j2⟩
        · exact .inr g
      · rintro (⟨j, j1, j2⟩ | g)
        · by_cases c : j < s.ts.length
          · exact .inl ⟨j, c, by rw [old _ (by omega)] at j2; exact j2⟩
          · have : j = s.ts.length := by omega
            subst this
            rw [new] at j2
            exact (e j2.symm).elim
        · exact .inr g
  · rw [lx] at hj
    rw [old i (by omega)]
    by_cases c : j < s.ts.length
    · rw [old j (by omega)]; exact h.un i j hi c
    · have : j = s.ts.length := by omega
      subst this
      rw [new]
      exact fun hx => hno (.inl ⟨i, hi, hx⟩)
  · rw [lx] at hj
    by_cases c : j < s.ts.length
    · rw [old j (by omega)]; exact h.sp j c t ht
    · have : j = s.ts.length := by omega
      subst this
      rw [new]
      exact fun hx => hno (.inr ⟨t, ht, hx.symm⟩)
theorem lst_all {ns : List Int} {sp : List (List Int)} : ∀ (n : Nat) (s : Lst), LOk ns s → Lw sp s → LOk ns (lst ns n s) ∧ Lw sp (lst ns n s)
  | 0, s, h, g => ⟨h, g⟩
  | n + 1, s, h, g => by
    cases e : nx (wt ns (cps s.ps)) s.ts s.T with
    | none => rw [lst_none e]; exact ⟨h, g⟩
    | some k =>
      rw [lst_some e]
      obtain ⟨m, hm⟩ := nx_some h e
      exact lst_all n _ (h.mrg hm) (g.mrg h e)
/-! ### orders -/
/-- Weighed sums over words. -/
def swt : List Int → List (List Int) → (List Int → Int) → Int
  | n :: ns, p :: ps, f => n * f p + swt ns ps f
  | _, _, _ => 0
theorem swt_map (g : List Int → List Int) (f : List Int → Int) : ∀ (ns : List Int) (ps : List (List Int)), swt ns (ps.map g) f = swt ns ps (fun p => f (g p))
  | [], ps => by cases ps <;> rfl
  | n :: ns, [] => rfl
  | n :: ns, p :: ps => by rw [List.map_cons, swt, swt, swt_map g f ns ps]
theorem swt_app (f : List Int → Int) : ∀ (a b : List Int) (c d : List (List Int)), a.length = c.length → swt (a ++ b) (c ++ d) f = swt a c f + swt b d f
  | [], b, [], d, _ => by simp [swt]
  | x :: a, b, y :: c, d, h => by
    have := swt_app f a b c d (by simpa using h)
    simp only [List.cons_append, swt, this]
    omega
theorem ws_swt (k : Int × Int) : ∀ (ns : List Int) (pre ps : List (List Int)), ns.length = ps.length → ws ns pre.length (cps (pre ++ ps)) k = swt ns ps (fun p => cp p k)
  | [], pre, [], _ => rfl
  | n :: ns, pre, p :: ps, h => by
    have ih := ws_swt k ns (pre ++ [p]) ps (by simpa using h)
    rw [List.length_append, List.length_singleton, List.append_assoc, List.singleton_append] at ih
    rw [ws, swt, ih]
    congr 2
    rw [cps, List.getD_eq_getElem?_getD, List.getElem?_append_right (Nat.le_refl _), Nat.sub_self]
    rfl
theorem wt_swt {ns : List Int} {ps : List (List Int)} (h : ns.length = ps.length) (k : Int × Int) : wt ns (cps ps) k = if swt ns ps (fun p => cp p k) = 0 then none else some (swt ns ps (fun p => cp p k)) := by
  have := ws_swt k ns [] ps h
  rw [List.length_nil, List.nil_append] at this
  rw [wt, this]
/-- Words of the same weighed sums: the same is learnt. -/
theorem lst_same {ns ns' : List Int} : ∀ (n : Nat) (s s' : Lst), ns.length = s.ps.length → ns'.length = s'.ps.length → s.ts = s'.ts → s.ms = s'.ms → s.T = s'.T → (∀ f, swt ns s.ps f = swt ns' s'.ps f) → (lst ns n s).ts = (lst ns' n s').ts ∧ (lst ns n s).ms = (lst ns' n s').ms
  | 0, s, s', _, _, h1, h2, _, _ => ⟨h1, h2⟩
  | n + 1, s, s', l1, l2, h1, h2, h3, h4 => by
    have e : wt ns (cps s.ps) = wt ns' (cps s'.ps) := by funext k; rw [wt_swt l1, wt_swt l2, h4]
    cases c : nx (wt ns (cps s.ps)) s.ts s.T with
    | none =>
      have c' : nx (wt ns' (cps s'.ps)) s'.ts s'.T = none := by rw [← e, ← h1, ← h3]; exact c
      rw [lst_none c, lst_none c']; exact ⟨h1, h2⟩
    | some k =>
      have c' : nx (wt ns' (cps s'.ps)) s'.ts s'.T = some k := by rw [← e, ← h1, ← h3]; exact c
      rw [lst_some c, lst_some c']
      refine lst_same n _ _ ?_ ?_ ?_ ?_ ?_ (fun f => ?_)
      · show ns.length = (s.ps.map _).length; rw [List.length_map]; exact l1
      · show ns'.length = (s'.ps.map _).length; rw [List.length_map]; exact l2
      · show s.ts ++ _ = s'.ts ++ _; rw [h1, h2]
      · show s.ms ++ _ = s'.ms ++ _; rw [h1, h2]
      · show upd s.T _ _ = upd s'.T _ _; rw [h1, h3]
      · show swt ns (s.ps.map _) f = swt ns' (s'.ps.map _) f
        rw [swt_map, swt_map, h1]
        exact h4 _
end Go.Proofs.Ytkdegcpfjfgajaa.X
