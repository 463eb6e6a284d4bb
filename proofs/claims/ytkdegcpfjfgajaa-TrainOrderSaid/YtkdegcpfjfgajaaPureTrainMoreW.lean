/- The plain statement of TrainMore: by more merges. No condition. -/
import Derived.Test.YtkdegcpfjfgajaaPgW
import Derived.Test.YtkdegcpfjfgajaaOpsW
import Derived.Test.YtkdegcpfjfgajaaL5W
namespace Go.Proofs.Ytkdegcpfjfgajaa.Pure
open Go Go.RowKit Go.Proofs.YtkdegcpfjfgajaaW.PrintWords Go.Proofs.Ytkdegcpfjfgajaa.Mg Go.Proofs.Ytkdegcpfjfgajaa.Pt Go.Proofs.Ytkdegcpfjfgajaa.Q Go.Proofs.Ytkdegcpfjfgajaa.L Go.Proofs.Ytkdegcpfjfgajaa.X
set_option linter.unusedVariables false
set_option linter.unusedSimpArgs false
def GL (l : List S53) : Prop := (∀ x ∈ l, Ops.good53 x) ∧ l.length * 32 ≤ 140737488351232
def GS (l : List (List Int)) : Prop := (∀ x ∈ l, (∀ y ∈ x, (Lit.int .u8 y).wf = true) ∧ x.length * 1 ≤ 140737488351232) ∧ l.length * 24 ≤ 140737488351232
theorem wf8 {y : Int} (h : (Lit.int .u8 y).wf = true) : 0 ≤ y ∧ y < 256 := by
  have h2 : IntKind.u8.min ≤ y ∧ y ≤ IntKind.u8.max := by simpa [Lit.wf] using h
  have e1 : IntKind.u8.min = 0 := rfl
  have e2 : IntKind.u8.max = 255 := rfl
  omega
theorem in_of {l : List S53} {sp : List (List Int)} (hl : GL l) (hs : GS sp) : In_ l sp := by
  obtain ⟨h1, h2⟩ := hl
  obtain ⟨h3, h4⟩ := hs
  refine ⟨by omega, fun i => ?_, by omega, fun i => ?_, fun x hx b hb => wf8 ((h1 x hx).1.1 b hb), fun x hx b hb => wf8 ((h3 x hx).1 b hb)⟩
  · rw [rd_T53, List.getD_eq_getElem?_getD]
    cases e : l[i.toNat]? with
    | none => exact Nat.zero_le _
    | some x => have := (h1 x (List.mem_of_getElem? e)).1.2; simp only [Option.getD_some]; omega
  · rw [rd_L1, List.getD_eq_getElem?_getD]
    cases e : sp[i.toNat]? with
    | none => exact Nat.zero_le _
    | some x => have := (h3 x (List.mem_of_getElem? e)).2; simp only [Option.getD_some]; omega
theorem few_ev (a : Int) : ∃ b, imprimaturlaw19_few.f a = some b ∧ (b = true → a ≤ 25 ∨ a > 4000) := by
  unfold imprimaturlaw19_few.f
  by_cases c : a ≤ 25
  · exact ⟨true, if_pos c, fun _ => .inl c⟩
  · exact ⟨_, if_neg c, fun h => .inr (by simpa using h)⟩
theorem among_ev (a n : Int) (hn : 1 ≤ n) (h2 : n ≤ 1000000) : ∃ t, imprimaturref01_Among.f a n = some t ∧ 0 ≤ t ∧ t < n := by
  unfold imprimaturref01_Among.f
  rw [if_neg (by omega), if_neg (by omega)]
  have h1 := Int.tmod_lt_of_pos a (show 0 < n by omega)
  have h3 : -n < Int.tmod a n := by
    have := Int.lt_tmod_of_pos a (show 0 < n by omega)
    exact this
  by_cases c : Int.tmod a n < 0
  · rw [if_pos c]
    exact ⟨_, rfl, by unfold wrap64; omega, by unfold wrap64; omega⟩
  · rw [if_neg c]
    exact ⟨_, rfl, by omega, h1⟩
theorem rd43_app (a b : List S43) (i : Int) (h : i.toNat < a.length) : rd_T43 (a ++ b) i = rd_T43 a i := by
  rw [rd_T43, rd_T43, List.getD_eq_getElem?_getD, List.getD_eq_getElem?_getD, List.getElem?_append_left h]
theorem rd38_app (a b : List S38) (i : Int) (h : i.toNat < a.length) : rd_T38 (a ++ b) i = rd_T38 a i := by
  rw [rd_T38, rd_T38, List.getD_eq_getElem?_getD, List.getD_eq_getElem?_getD, List.getElem?_append_left h]
theorem more_l0 (ts ts' : List S43) (ms ms' : List S38) (hm : ms.length ≤ 5000) (hl : ts.length = 256 + ms.length) (a b : List S43) (c : List S38) (e1 : ts' = ts ++ a) (e2 : ms' = ms ++ c) (S : List S43) : ∀ (d i : Nat), i + d = ms.length → ∀ k, d + 1 ≤ k → imprimaturlaw19_TrainMore.l0 k (i : Int) (ts ++ S) ms (ts' ++ S) ms' = some true := by
  intro d
  induction d with
  | zero =>
    intro i h1 k hk
    obtain ⟨k, rfl⟩ : ∃ k', k = k' + 1 := ⟨k - 1, by omega⟩
    rw [imprimaturlaw19_TrainMore.l0, if_neg (by omega), known_ev]; rfl
  | succ d ih =>
    intro i h1 k hk
    obtain ⟨k, rfl⟩ : ∃ k', k = k' + 1 := ⟨k - 1, by omega⟩
    have hw : wrap64 (256 + (i : Int)) = 256 + (i : Int) := by unfold wrap64; omega
    have l1 : (ts ++ S).length ≥ ts.length := by rw [List.length_append]; omega
    have l2 : (ts' ++ S).length ≥ ts.length := by rw [e1, List.length_append, List.length_append]; omega
    have l3 : ms'.length ≥ ms.length := by rw [e2, List.length_append]; omega
    have r1 : rd_T38 ms' (i : Int) = rd_T38 ms i := by rw [e2, rd38_app _ _ _ (by omega)]
    have r2 : rd_T43 (ts' ++ S) (256 + (i : Int)) = rd_T43 (ts ++ S) (256 + (i : Int)) := by rw [e1, List.append_assoc, rd43_app _ _ _ (by omega), rd43_app _ _ _ (by omega)]
    rw [imprimaturlaw19_TrainMore.l0, if_pos (by omega), if_pos (by omega), if_pos (by omega), r1, if_neg (by simp), hw, if_pos (by omega), if_pos (by omega), if_pos (by omega), r2, imprimaturref01_SameBytes.f, Option.bind_some, if_pos (by simp), w64 (by omega)]
    exact ih (i + 1) (by omega) k (by omega)
theorem TrainMore : ∀ (l0 : List S53) (a1 a2 : Int) (l3 : List (List Int)), GL l0 → (Lit.int .i64 a1).wf = true → (Lit.int .i64 a2).wf = true → GS l3 → ∃ k, imprimaturlaw19_TrainMore.f k l0 a1 a2 l3 = some true := by
  intro l0 a1 a2 l3 hl w1 w2 hs
  obtain ⟨b, hb, hsm⟩ := great_ev l0 l3 (in_of hl hs)
  obtain ⟨f, hf, hfew⟩ := few_ev a1
  obtain ⟨t, ht, t0, t1⟩ := among_ev a2 20 (by omega) (by omega)
  refine ⟨l0.length + l3.length + 10000, ?_⟩
  unfold imprimaturlaw19_TrainMore.f
  rw [hb _ (by omega), Option.bind_some]
  cases b with
  | true => rw [if_pos rfl, imprimaturlaw19_TrainMore.j0, if_pos rfl, known_ev]; rfl
  | false =>
    rw [if_neg (by simp), hf, Option.bind_some]
    cases f with
    | false => rw [imprimaturlaw19_TrainMore.j0, if_pos (by rfl), known_ev]; rfl
    | true =>
      have sm := hsm rfl
      have sl := sm.hl
      rw [show l0.length + l3.length + 10000 = (l0.length + l3.length + 9999) + 1 from rfl, imprimaturlaw19_TrainMore.j0, if_neg (by simp), own_ev l0 (by omega) _ (by omega), Option.bind_some]
      by_cases c1 : askE (l0.map (fun x => x.f1)) a1 l3 = 0
      · rw [learn_good l0 a1 l3 sm c1, Option.bind_some, ht]
        simp only [Option.bind_some]
        obtain ⟨a0, a4, -, -, -⟩ := askE_zero c1
        have hw : wrap64 (a1 + t) = a1 + t := by unfold wrap64; omega
        rw [hw]
        by_cases c2 : askE (l0.map (fun x => x.f1)) (a1 + t) l3 = 0
        · rw [learn_good l0 (a1 + t) l3 sm c2, Option.bind_some, if_pos trivial]
          simp only
          have en : (a1 + t).toNat = a1.toNat + t.toNat := by omega
          have ef : fin l0 (a1.toNat + t.toNat) l3 = lst (l0.map (fun x => x.f1)) t.toNat (fin l0 a1.toNat l3) := lst_add _ _ _ _
          have hok := (fin_ok l0 a1 a1.toNat l3 sm c1).1
          obtain ⟨xa, xb, x1, x2, x3, x4, x5⟩ := lst_ext (l0.map (fun x => x.f1)) a1.toNat (st0 (l0.map (fun x => x.f0)) l3)
          obtain ⟨ya, yb, y1, y2, y3, y4, y5⟩ := lst_ext (l0.map (fun x => x.f1)) t.toNat (fin l0 a1.toNat l3)
          have x2' : (fin l0 a1.toNat l3).ms = xb := x2
          rw [en, ef, y1, y2]
          have hm : (fin l0 a1.toNat l3).ms.length ≤ 5000 := by rw [x2']; omega
          have hl0 := more_l0 (fin l0 a1.toNat l3).ts _ (fin l0 a1.toNat l3).ms _ hm hok.len ya ya yb rfl rfl (l3.map (fun s => (⟨s, 0, true⟩ : S43))) (fin l0 a1.toNat l3).ms.length 0 (by omega)
          rw [show l0.length + l3.length + 9999 = (l0.length + l3.length + 9998) + 1 from rfl, imprimaturlaw19_TrainMore.j1, if_neg (by simp), if_neg (by rw [List.length_append]; omega)]
          have hj : ∀ z : Bool, z = false → imprimaturlaw19_TrainMore.j2 (l0.length + l3.length + 9998) z ((fin l0 a1.toNat l3).ts ++ l3.map (fun s => (⟨s, 0, true⟩ : S43))) (fin l0 a1.toNat l3).ms ((fin l0 a1.toNat l3).ts ++ ya ++ l3.map (fun s => (⟨s, 0, true⟩ : S43))) ((fin l0 a1.toNat l3).ms ++ yb) = some true := by
            intro z hz
            rw [hz, show l0.length + l3.length + 9998 = (l0.length + l3.length + 9997) + 1 from rfl, imprimaturlaw19_TrainMore.j2, if_neg (by simp)]
            exact hl0 _ (by omega)
          by_cases c3 : ((fin l0 a1.toNat l3).ms.length : Int) < a1
          · rw [if_pos c3]
            refine hj _ ?_
            have := x5 (by rw [x2'] at c3; omega) t.toNat
            have e : (lst (l0.map (fun x => x.f1)) t.toNat (fin l0 a1.toNat l3)).ms = (fin l0 a1.toNat l3).ms := congrArg Lst.ms this
            rw [y2] at e
            rw [e]; simp
          · rw [if_neg c3]
            exact hj _ rfl
        · rw [learn_bad l0 (a1 + t) l3 sm c2, Option.bind_some, if_pos trivial]
          simp only
          rw [show l0.length + l3.length + 9999 = (l0.length + l3.length + 9998) + 1 from rfl, imprimaturlaw19_TrainMore.j1, if_pos (by simpa using c2), known_ev]; rfl
      · have hx : ∃ z, train_Learn.f (ownS l0) (wrap64 (a1 + t)) l3 = some z := by
          by_cases c2 : askE (l0.map (fun x => x.f1)) (wrap64 (a1 + t)) l3 = 0
          · exact ⟨_, learn_good l0 _ l3 sm c2⟩
          · exact ⟨_, learn_bad l0 _ l3 sm c2⟩
        obtain ⟨z, hz⟩ := hx
        rw [learn_bad l0 a1 l3 sm c1, Option.bind_some, ht]
        simp only [Option.bind_some]
        rw [hz, Option.bind_some, if_neg c1, show l0.length + l3.length + 9999 = (l0.length + l3.length + 9998) + 1 from rfl, imprimaturlaw19_TrainMore.j1, if_pos rfl, known_ev]; rfl
end Go.Proofs.Ytkdegcpfjfgajaa.Pure
