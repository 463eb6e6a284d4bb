/- TrainOrder: the law's plain function with its contract, and the plain statement. No condition. -/
import Derived.Test.YtkdegcpfjfgajaaXToW
import Derived.Test.YtkdegcpfjfgajaaPureTrainMoreW
import Derived.Test.YtkdegcpfjfgajaaPsW
namespace Go.Proofs.Ytkdegcpfjfgajaa.L
open Go Go.RowKit Go.Proofs.YtkdegcpfjfgajaaW.PrintWords Go.Proofs.Ytkdegcpfjfgajaa.Q
set_option linter.unusedVariables false
def OrdX (k : Nat) (l : List S53) (am q : Int) (sp : List (List Int)) (ts : List S43) (ms : List S38) (x : Int) : Prop :=
  (q = l.length ∨ q < l.length ∧ ((rd_T53 l q).f1 < 2 ∨ (rd_T53 l q).f1 > 4294967296)) ∨ (q < l.length ∧ ¬ (rd_T53 l q).f1 < 2 ∧ ¬ (rd_T53 l q).f1 > 4294967296 ∧
      (x ≠ 0 ∨ x = 0 ∧ ∃ lx xs ys g, imprimaturlaw19_own.f k (((⟨(rd_T53 l q).f0, 1⟩ : S53) :: ((l.drop (q.toNat + 1)) ++ l.take q.toNat)) ++ [⟨(rd_T53 l q).f0, (rd_T53 l q).f1 - 1⟩]) = some lx ∧ train_Learn.f lx am sp = some (xs, ys, g) ∧ (g = 2 ∨ g = 0 ∧ imprimaturref11_Same.f k ts ms xs ys = some true)))
def OrdA (k : Nat) (l : List S53) (am at_ : Int) (sp : List (List Int)) : Prop := ∃ b fw, imprimaturlaw19_great.f k l sp = some b ∧ imprimaturlaw19_few.f am = some fw ∧ (b = true ∨ fw = false)
def OrdB (k : Nat) (l : List S53) (am at_ : Int) (sp : List (List Int)) : Prop := imprimaturlaw19_great.f k l sp = some false ∧ imprimaturlaw19_few.f am = some true ∧ l.length ≤ 400 ∧ ∃ q ls lm ts ms x, imprimaturref01_Among.f at_ ((l.length : Int) + 1) = some q ∧ 0 ≤ q ∧ q ≤ l.length ∧ imprimaturlaw19_own.f k l = some ls ∧ imprimaturlaw19_own.f k (l.drop q.toNat ++ l.take q.toNat) = some lm ∧ train_Learn.f ls am sp = some (ts, ms, x) ∧ train_Learn.f lm am sp = some (ts, ms, x) ∧ imprimaturref11_Same.f k ts ms ts ms = some true ∧ OrdX k l am q sp ts ms x
open Classical in
noncomputable def imprimaturlaw19_TrainOrder.f (k : Nat) (l0 : List S53) (a1 a2 : Int) (l3 : List (List Int)) : Option Bool := if OrdA k l0 a1 a2 l3 ∨ OrdB k l0 a1 a2 l3 then imprimaturlaw19_known.f else none
theorem imprimaturlaw19_TrainOrder.calls (k : Nat) (A0 : Option Addr) (c0 : Nat) (l0 : List (S53)) (a1 : Int) (a2 : Int) (A3 : Option Addr) (c3 : Nat) (l3 : List (List Int)) (r : Bool) (w : World) (hr0 : Kd.C k53 w A0 l0.length l0) (hc0 : l0.length ≤ c0) (hr3 : Kd.C (Kd.slice 5 (Kd.int .u8)) w A3 l3.length l3) (hc3 : l3.length ≤ c3) (h : imprimaturlaw19_TrainOrder.f k l0 a1 a2 l3 = some r) :
    Calls Try.prog 6 #[.slice A0 l0.length c0, .int .i64 a1, .int .i64 a2, .slice A3 l3.length c3] w fun e w' => e = .returned (.bool r) ∧ Below w.heap.size w w' := by
  unfold imprimaturlaw19_TrainOrder.f at h
  split at h
  · rename_i hc
    rcases hc with ⟨b, fw, hg, hf, hc⟩ | ⟨hg, hf, hl, q, ls, lm, ts, ms, x, hq, q0, q1, ho1, ho2, hv1, hv2, hs, hX⟩
    · exact order_known k A0 c0 l0 a1 a2 A3 c3 l3 r b fw hg hf hc h w hr0 hc0 hr3 hc3
    · exact order_ok k A0 c0 l0 a1 a2 A3 c3 l3 r hg hf h hl q hq q0 q1 ls lm ts ms x ho1 ho2 hv1 hv2 hs hX w hr0 hc0 hr3 hc3
  · cases h
end Go.Proofs.Ytkdegcpfjfgajaa.L
namespace Go.Proofs.Ytkdegcpfjfgajaa.Pure
open Go Go.RowKit Go.Proofs.YtkdegcpfjfgajaaW.PrintWords Go.Proofs.Ytkdegcpfjfgajaa.Mg Go.Proofs.Ytkdegcpfjfgajaa.Pt Go.Proofs.Ytkdegcpfjfgajaa.Q Go.Proofs.Ytkdegcpfjfgajaa.L Go.Proofs.Ytkdegcpfjfgajaa.X
set_option linter.unusedVariables false
set_option linter.unusedSimpArgs false
def sw (l : List S53) (f : List Int → Int) : Int := swt (l.map (fun x => x.f1)) (l.map (fun x => x.f0)) f
theorem sw_app (a b : List S53) (f : List Int → Int) : sw (a ++ b) f = sw a f + sw b f := by
  unfold sw
  rw [List.map_append, List.map_append, swt_app f _ _ _ _ (by simp)]
theorem sw_cons (x : S53) (l : List S53) (f : List Int → Int) : sw (x :: l) f = x.f1 * f x.f0 + sw l f := rfl
theorem okNs_iff (l : List S53) : okNs (l.map (fun x => x.f1)) = true ↔ ∀ x ∈ l, okN x.f1 = true := by
  rw [okNs, List.all_eq_true]
  simp only [List.mem_map, forall_exists_index, and_imp, forall_apply_eq_imp_iff₂]
theorem askE_eq {ns ns' : List Int} (m : Int) (sp : List (List Int)) (h : okNs ns = okNs ns') : askE ns m sp = askE ns' m sp := by unfold askE; rw [h]
theorem tot_app : ∀ (a b : List (List Int)), tot (a ++ b) = tot a + tot b
  | [], b => by simp [tot]
  | x :: a, b => by rw [List.cons_append, tot, tot, tot_app a b]; omega
/-- The learner of two corpora with the same weighed words. -/
theorem learn_same {l l' : List S53} {sp : List (List Int)} (m : Int) (hs : Small l sp) (hl : l'.length ≤ 600) (ht : tot (l'.map (fun x => x.f0)) ≤ 600) (hb : ∀ x ∈ l', ∀ b ∈ x.f0, 0 ≤ b ∧ b < 256) (ho : okNs (l.map (fun x => x.f1)) = okNs (l'.map (fun x => x.f1))) (hw : ∀ f, sw l f = sw l' f) (he : askE (l.map (fun x => x.f1)) m sp = 0) :
    train_Learn.f (ownS l') m sp = some ((fin l m.toNat sp).ts ++ sp.map (fun s => (⟨s, 0, true⟩ : S43)), (fin l m.toNat sp).ms, 0) := by
  have h2 := hs.hs
  obtain ⟨a1, a2, a3, a4, a5⟩ := askE_zero he
  have ha : train_asked.f 4000 (ownS l') m sp = some 0 := by
    rw [asked_ev (ownS l') m sp (by rw [ownS, List.length_map]; omega) (by rw [ws_own]; omega) (by omega) (fun i => by have := tot_mem sp i; omega), nsOf_own, ← askE_eq m sp ho, he]
  have hB : lrnB (ownS l') m sp := by
    refine ⟨a1, a2, a4, fun i => by have := tot_mem sp i; omega, by rw [ownS, List.length_map]; omega, by rw [ws_own]; omega, by rw [nsOf_own]; exact okNs_all (ho ▸ a3), fun x hx b hb' => ?_⟩
    rw [ownS, List.mem_map] at hx
    obtain ⟨y, hy, rfl⟩ := hx
    exact hb y hy b hb'
  have e : (lrn (ownS l') m.toNat sp).ts = (fin l m.toNat sp).ts ∧ (lrn (ownS l') m.toNat sp).ms = (fin l m.toNat sp).ms := by
    unfold lrn fin
    rw [nsOf_own, ws_own]
    have := lst_same (ns := l'.map (fun x : S53 => x.f1)) (ns' := l.map (fun x : S53 => x.f1)) m.toNat (st0 (l'.map (fun x : S53 => x.f0)) sp) (st0 (l.map (fun x : S53 => x.f0)) sp) (by simp [st0]) (by simp [st0]) rfl rfl rfl (fun f => (hw f).symm)
    exact this
  unfold train_Learn.f
  rw [ha, Option.bind_some, if_pos rfl, if_pos hB, e.1, e.2]
theorem learn_same_bad {l l' : List S53} {sp : List (List Int)} (m : Int) (hs : Small l sp) (hl : l'.length ≤ 600) (ht : tot (l'.map (fun x => x.f0)) ≤ 600) (ho : okNs (l.map (fun x => x.f1)) = okNs (l'.map (fun x => x.f1))) (he : askE (l.map (fun x => x.f1)) m sp ≠ 0) :
    train_Learn.f (ownS l') m sp = some ([], [], askE (l.map (fun x => x.f1)) m sp) := by
  have h2 := hs.hs
  unfold train_Learn.f
  rw [asked_ev (ownS l') m sp (by rw [ownS, List.length_map]; omega) (by rw [ws_own]; omega) (by omega) (fun i => by have := tot_mem sp i; omega), nsOf_own, ← askE_eq m sp ho, Option.bind_some, if_neg he]
theorem mem_turn {l : List S53} {n : Nat} {x : S53} : x ∈ l.drop n ++ l.take n ↔ x ∈ l := by
  rw [List.mem_append]
  constructor
  · rintro (h | h)
    · exact List.mem_of_mem_drop h
    · exact List.mem_of_mem_take h
  · intro h
    rw [← List.take_append_drop n l, List.mem_append] at h
    exact h.symm
theorem TrainOrder : ∀ (l0 : List S53) (a1 a2 : Int) (l3 : List (List Int)), GL l0 → (Lit.int .i64 a1).wf = true → (Lit.int .i64 a2).wf = true → GS l3 → ∃ k, imprimaturlaw19_TrainOrder.f k l0 a1 a2 l3 = some true := by
  intro l a1 a2 sp hl w1 w2 hs
  obtain ⟨b, hb, hsm⟩ := great_ev l sp (in_of hl hs)
  obtain ⟨f, hf, hfew⟩ := few_ev a1
  have fin_ : ∀ k, OrdA k l a1 a2 sp ∨ OrdB k l a1 a2 sp → imprimaturlaw19_TrainOrder.f k l a1 a2 sp = some true := fun k h => by
    unfold imprimaturlaw19_TrainOrder.f
    rw [if_pos h, known_ev]
  by_cases hc : b = true ∨ f = false
  · exact ⟨_, fin_ (l.length + sp.length + 1) (.inl ⟨b, f, hb _ (Nat.le_refl _), hf, hc⟩)⟩
  · have b0 : b = false := by cases b; rfl; exact (hc (.inl rfl)).elim
    have f1 : f = true := by cases f; exact (hc (.inr rfl)).elim; rfl
    subst b0
    subst f1
    have sm := hsm rfl
    have h1 := sm.hl
    obtain ⟨q, hq, q0, q1⟩ := among_ev a2 ((l.length : Int) + 1) (by omega) (by omega)
    -- the turned corpus
    have t1 : (l.drop q.toNat ++ l.take q.toNat).length = l.length := by rw [List.length_append, List.length_drop, List.length_take]; omega
    have t2 : tot ((l.drop q.toNat ++ l.take q.toNat).map (fun x => x.f0)) = tot (l.map (fun x => x.f0)) := by
      rw [List.map_append, tot_app, Nat.add_comm, ← tot_app, ← List.map_append, List.take_append_drop]
    have t3 : okNs (l.map (fun x => x.f1)) = okNs ((l.drop q.toNat ++ l.take q.toNat).map (fun x => x.f1)) := by
      rw [Bool.eq_iff_iff, okNs_iff, okNs_iff]
      exact ⟨fun h x hx => h x (mem_turn.1 hx), fun h x hx => h x (mem_turn.2 hx)⟩
    have t4 : ∀ f, sw l f = sw (l.drop q.toNat ++ l.take q.toNat) f := fun f => by
      rw [sw_app, Int.add_comm, ← sw_app, List.take_append_drop]
    have t5 : ∀ x ∈ l.drop q.toNat ++ l.take q.toNat, ∀ b ∈ x.f0, 0 ≤ b ∧ b < 256 := fun x hx => sm.by_ x (mem_turn.1 hx)
    have own_ := fun (m : List S53) (hm : m.length ≤ 1000) => own_ev m hm
    by_cases he : askE (l.map (fun x => x.f1)) a1 sp = 0
    · -- something is learnt
      have hL := learn_good l a1 sp sm he
      have hL2 := learn_same a1 sm (by omega) (by omega) t5 t3 t4 he
      obtain ⟨z1, z2, z3, z4, z5⟩ := askE_zero he
      have hsz : ((fin l a1.toNat sp).ts ++ sp.map (fun s => (⟨s, 0, true⟩ : S43))).length ≤ 1000000 ∧ (fin l a1.toNat sp).ms.length ≤ 1000000 := by
        have hok := (fin_ok l a1 a1.toNat sp sm he).1
        obtain ⟨xa, xb, x1, x2, x3, x4, x5⟩ := lst_ext (l.map (fun x => x.f1)) a1.toNat (st0 (l.map (fun x => x.f0)) sp)
        have x2' : (fin l a1.toNat sp).ms = xb := x2
        have := hok.len
        rw [List.length_append, List.length_map, x2'] at *
        omega
      obtain ⟨K, hK⟩ := same_evs _ _ hsz.1 hsz.2
      refine ⟨K + l.length + sp.length + 1000, fin_ _ (.inr ⟨hb _ (by omega), hf, by omega, q, _, _, _, _, _, hq, q0, by omega, own_ l (by omega) _ (by omega), own_ _ (by omega) _ (by omega), hL, hL2, hK _ (by omega), ?_⟩)⟩
      by_cases c1 : q = l.length
      · exact .inl (.inl c1)
      · have c2 : q < l.length := by omega
        by_cases c3 : (rd_T53 l q).f1 < 2
        · exact .inl (.inr ⟨c2, .inl c3⟩)
        · by_cases c4 : (rd_T53 l q).f1 > 4294967296
          · exact .inl (.inr ⟨c2, .inr c4⟩)
          · refine .inr ⟨c2, c3, c4, .inr ⟨rfl, ?_⟩⟩
            have hqn : q.toNat < l.length := by omega
            have e0 : rd_T53 l q = l[q.toNat] := by rw [rd_T53, List.getD_eq_getElem?_getD, List.getElem?_eq_getElem hqn, Option.getD_some]
            have e1 : l.drop q.toNat = rd_T53 l q :: l.drop (q.toNat + 1) := by rw [List.drop_eq_getElem_cons hqn, e0]
            have hmem : rd_T53 l q ∈ l := by rw [e0]; exact List.getElem_mem hqn
            generalize rd_T53 l q = t at c3 c4 e1 hmem ⊢
            rw [e1, List.cons_append] at t1 t2 t3 t4 t5
            generalize l.drop (q.toNat + 1) ++ l.take q.toNat = mt at t1 t2 t3 t4 t5 ⊢
            have u1 : ((⟨t.f0, 1⟩ : S53) :: mt ++ [(⟨t.f0, t.f1 - 1⟩ : S53)]).length ≤ 600 := by rw [List.length_append, List.length_cons, List.length_singleton]; rw [List.length_cons] at t1; omega
            have u2 : tot (((⟨t.f0, 1⟩ : S53) :: mt ++ [(⟨t.f0, t.f1 - 1⟩ : S53)]).map (fun x => x.f0)) ≤ 600 := by
              rw [List.map_append, tot_app, List.map_cons, tot]
              rw [List.map_cons, tot] at t2
              simp only [List.map_cons, List.map_nil, tot]
              omega
            have u3 : okNs (l.map (fun x => x.f1)) = okNs (((⟨t.f0, 1⟩ : S53) :: mt ++ [(⟨t.f0, t.f1 - 1⟩ : S53)]).map (fun x => x.f1)) := by
              rw [z3, eq_comm, okNs_iff]
              rw [z3, eq_comm, okNs_iff] at t3
              intro x hx
              rcases List.mem_append.1 hx with hx | hx
              · rcases List.mem_cons.1 hx with hx | hx
                · rw [hx]; simp [okN]
                · exact t3 x (List.mem_cons_of_mem _ hx)
              · rw [List.mem_singleton.1 hx]
                simp only [okN, decide_eq_true_eq]
                omega
            have u4 : ∀ f, sw l f = sw ((⟨t.f0, 1⟩ : S53) :: mt ++ [(⟨t.f0, t.f1 - 1⟩ : S53)]) f := fun f => by
              rw [t4 f, sw_cons, sw_app, sw_cons, sw_cons]
              have : sw [] f = 0 := rfl
              rw [this]
              simp only [Int.sub_mul, Int.one_mul]
              omega
            have u5 : ∀ x ∈ ((⟨t.f0, 1⟩ : S53) :: mt ++ [(⟨t.f0, t.f1 - 1⟩ : S53)]), ∀ b ∈ x.f0, 0 ≤ b ∧ b < 256 := fun x hx => by
              rcases List.mem_append.1 hx with hx | hx
              · rcases List.mem_cons.1 hx with hx | hx
                · rw [hx]; exact sm.by_ t hmem
                · exact t5 x (List.mem_cons_of_mem _ hx)
              · rw [List.mem_singleton.1 hx]; exact sm.by_ t hmem
            exact ⟨_, _, _, _, own_ _ (by omega) _ (by omega), learn_same a1 sm u1 u2 u5 u3 u4 he, .inr ⟨rfl, hK _ (by omega)⟩⟩
    · have hL := learn_bad l a1 sp sm he
      have hL2 := learn_same_bad a1 sm (by omega) (by omega) t3 he
      obtain ⟨K, hK⟩ := same_evs [] [] (by simp) (by simp)
      refine ⟨K + l.length + sp.length + 1000, fin_ _ (.inr ⟨hb _ (by omega), hf, by omega, q, _, _, _, _, _, hq, q0, by omega, own_ l (by omega) _ (by omega), own_ _ (by omega) _ (by omega), hL, hL2, hK _ (by omega), ?_⟩)⟩
      by_cases c1 : q = l.length
      · exact .inl (.inl c1)
      · have c2 : q < l.length := by omega
        by_cases c3 : (rd_T53 l q).f1 < 2
        · exact .inl (.inr ⟨c2, .inl c3⟩)
        · by_cases c4 : (rd_T53 l q).f1 > 4294967296
          · exact .inl (.inr ⟨c2, .inr c4⟩)
          · exact .inr ⟨c2, c3, c4, .inl he⟩
end Go.Proofs.Ytkdegcpfjfgajaa.Pure
