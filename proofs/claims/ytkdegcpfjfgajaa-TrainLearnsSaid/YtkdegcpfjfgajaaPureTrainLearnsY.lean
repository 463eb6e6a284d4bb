/- The plain statement of TrainLearns: the document's learning is the program's. No condition. -/
import Derived.Test.YtkdegcpfjfgajaaPnY
import Derived.Test.YtkdegcpfjfgajaaPureTrainMoreY
import Derived.Test.YtkdegcpfjfgajaaL6aY
namespace Go.Proofs.Ytkdegcpfjfgajaa.X
open Go Go.RowKit Go.Proofs.YtkdegcpfjfgajaaW.PrintWords Go.Proofs.Ytkdegcpfjfgajaa.Mg Go.Proofs.Ytkdegcpfjfgajaa.Pt Go.Proofs.Ytkdegcpfjfgajaa.Q
set_option linter.unusedVariables false
set_option linter.unusedSimpArgs false
/-! ### merged -/
theorem merged_ev (a b w c : Int) : ∀ (n : Nat) (p : List Int), p.length = n → n ≤ 1000000 → ∀ k, 2 * n + 1 ≤ k → imprimaturref19_merged.f k p a b w c = some (mgd p a b c) := by
  intro n
  induction n using Nat.strongRecOn with
  | ind n ih =>
    intro p hp hn k hk
    obtain ⟨k, rfl⟩ : ∃ m, k = m + 1 := ⟨k - 1, by omega⟩
    match p, hp with
    | [], hp => rw [imprimaturref19_merged.f, if_pos (by simp)]; rfl
    | [x], hp =>
      simp only [List.length_singleton] at hp
      obtain ⟨k, rfl⟩ : ∃ m, k = m + 1 := ⟨k - 1, by omega⟩
      obtain ⟨k, rfl⟩ : ∃ m, k = m + 1 := ⟨k - 1, by omega⟩
      have e := ih 0 (by omega) [] rfl (by omega) (k + 1) (by omega)
      rw [imprimaturref19_merged.f, if_neg (by simp), if_neg (by simp), imprimaturref19_merged.j0, if_neg (by simp), if_pos (by simp), Option.bind_some, if_pos (by simp), show [x].drop 1 = [] from rfl, e, Option.bind_some, if_pos (by simp [mgd])]
      rfl
    | x :: y :: t, hp =>
      simp only [List.length_cons] at hp
      obtain ⟨k, rfl⟩ : ∃ m, k = m + 1 := ⟨k - 1, by omega⟩
      have e1 := ih t.length (by omega) t rfl (by omega) k (by omega)
      have e2 := ih (t.length + 1) (by omega) (y :: t) rfl (by omega) k (by omega)
      have l1 := mgd_len a b c t
      have l2 := mgd_len a b c (y :: t)
      simp only [List.length_cons] at l2
      have hr0 : rd (x :: y :: t) 0 = x := rfl
      have hr1 : rd (x :: y :: t) 1 = y := rfl
      have jt : imprimaturref19_merged.j0 (k + 1) (x :: y :: t) c true a b w = some (c :: mgd t a b c) := by
        rw [imprimaturref19_merged.j0, if_pos rfl, Option.bind_some, if_pos (by simp only [List.length_cons]; omega), show (x :: y :: t).drop 2 = t from rfl, e1, Option.bind_some, if_pos (by simp only [List.length_singleton]; omega)]
        rfl
      have jf : imprimaturref19_merged.j0 (k + 1) (x :: y :: t) c false a b w = some (x :: mgd (y :: t) a b c) := by
        rw [imprimaturref19_merged.j0, if_neg (by simp), if_pos (by simp only [List.length_cons]; omega), Option.bind_some, if_pos (by simp only [List.length_cons]; omega), show (x :: y :: t).drop 1 = y :: t from rfl, e2, Option.bind_some, if_pos (by simp only [List.length_singleton]; omega), hr0]
        rfl
      rw [imprimaturref19_merged.f, if_neg (by simp only [List.length_cons]; omega), if_pos (by simp only [List.length_cons]; omega), if_pos (by simp only [List.length_cons]; omega), hr0, hr1]
      by_cases c1 : x = a
      · rw [if_pos c1, if_pos (by simp only [List.length_cons]; omega)]
        by_cases c2 : y = b
        · rw [show (y == b) = true by simp [c2], jt, c1, c2, mgd_hit]
        · rw [show (y == b) = false by simp [c2], jf, mgd_miss t c (fun h => c2 h.2)]
      · rw [if_neg c1, jf, mgd_miss t c (fun h => c1 h.1)]
/-! ### the learning -/
abbrev V3 := List S43 × List S38 × Int
theorem rl6 (l2 : List (List Int)) (ms : List S38) (hl : l2.length ≤ 1000) : ∀ (d i : Nat) (ts : List S43), i + d = l2.length → ts.length + d ≤ 1000000 → Ev (fun k => imprimaturref19_Learn.l6 k l2 (i : Int) ts ms) ((ts ++ (l2.drop i).map (fun s => (⟨s, 0, true⟩ : S43)), ms, 0) : V3) := by
  intro d
  induction d with
  | zero =>
    intro i ts h1 h2
    refine Ev.of fun k => ?_
    rw [imprimaturref19_Learn.l6, if_neg (by omega), List.drop_eq_nil_of_le (by omega), List.map_nil, List.append_nil]
  | succ d ih =>
    intro i ts h1 h2
    have e := ih (i + 1) (ts ++ [⟨rd_L1 l2 (i : Int), 0, true⟩]) (by omega) (by simp; omega)
    rw [rdL1_drop l2 i (by omega), List.map_cons]
    rw [List.append_assoc, List.singleton_append] at e
    refine Ev.step (fun k => ?_) e
    rw [imprimaturref19_Learn.l6, if_pos (by omega), if_pos (by omega), if_pos (by omega), w64 (by omega)]
theorem rl5 (x0 : List S53) (x1 : Int) (x2 : List (List Int)) (x16 x19 : Int) (ts : List S43) (ms : List S38) (a b w : Int) (R : V3) (ps : List (List Int)) (hp : ps.length ≤ 1000) (hps : ∀ i : Nat, (ps.getD i []).length ≤ 1000000)
    (hR : Ev (fun k => imprimaturref19_Learn.l4 k x0 x1 x2 (ps.map (fun p => mgd p a b x19)) (wrap64 (x16 + 1)) ts ms) R) : ∀ (d i : Nat), i + d = ps.length →
    Ev (fun k => imprimaturref19_Learn.l5 k x0 x1 x2 ((ps.take i).map (fun p => mgd p a b x19) ++ ps.drop i) x16 x19 (i : Int) ts ms a b w) R := by
  intro d
  induction d with
  | zero =>
    intro i h1
    have hlen : ((ps.take i).map (fun p => mgd p a b x19) ++ ps.drop i).length = ps.length := by rw [List.length_append, List.length_map, List.length_take, List.length_drop]; omega
    have e : (ps.take i).map (fun p => mgd p a b x19) ++ ps.drop i = ps.map (fun p => mgd p a b x19) := by rw [List.take_of_length_le (by omega), List.drop_eq_nil_of_le (by omega), List.append_nil]
    refine Ev.step (fun k => ?_) hR
    rw [imprimaturref19_Learn.l5, if_neg (by rw [hlen]; omega), e]
  | succ d ih =>
    intro i h1
    have hi : i < ps.length := by omega
    have hlen : ((ps.take i).map (fun p => mgd p a b x19) ++ ps.drop i).length = ps.length := by rw [List.length_append, List.length_map, List.length_take, List.length_drop]; omega
    have l1 : ((ps.take i).map (fun p => mgd p a b x19)).length = i := by rw [List.length_map, List.length_take]; omega
    have hrd : rd_L9 ((ps.take i).map (fun p => mgd p a b x19) ++ ps.drop i) (i : Int) = ps[i] := by
      rw [rd_L9, Int.toNat_natCast, List.getD_eq_getElem?_getD, List.getElem?_append_right (by omega), l1, Nat.sub_self, List.getElem?_drop, Nat.add_zero, List.getElem?_eq_getElem hi, Option.getD_some]
    have hpl : ps[i].length ≤ 1000000 := by
      have := hps i
      rwa [List.getD_eq_getElem?_getD, List.getElem?_eq_getElem hi, Option.getD_some] at this
    have hset : ((ps.take i).map (fun p => mgd p a b x19) ++ ps.drop i).set i (mgd ps[i] a b x19) = (ps.take (i + 1)).map (fun p => mgd p a b x19) ++ ps.drop (i + 1) := by
      rw [List.set_append_right _ _ (by omega), l1, Nat.sub_self, List.drop_eq_getElem_cons hi, List.set_cons_zero, List.take_succ_eq_append_getElem hi, List.map_append, List.append_assoc]
      rfl
    have e := ih (i + 1) (by omega)
    rw [← hset] at e
    refine Ev.step (f := fun k => (imprimaturref19_merged.f k ps[i] a b w x19).bind fun t286 => imprimaturref19_Learn.l5 k x0 x1 x2 (((ps.take i).map (fun p => mgd p a b x19) ++ ps.drop i).set i t286) x16 x19 ((i + 1 : Nat) : Int) ts ms a b w) (fun k => ?_) (Ev.bind (Ev.le (2 * ps[i].length + 1) (fun k hk => merged_ev a b w x19 _ ps[i] rfl hpl k hk)) e)
    rw [imprimaturref19_Learn.l5, if_pos (by rw [hlen]; omega), if_pos (by omega), hrd, w64 (by omega), Int.toNat_natCast]
theorem sc_some : ∀ n : Nat, n ≤ 25 → (floatBits .sub .f64 0 (floatOfInt .f64 (n : Int))).isSome = true := by decide +kernel
theorem rl4 (x0 : List S53) (m : Nat) (hm : m ≤ 25) (sp : List (List Int)) (ns : List Int) (hns : x0.map (fun x => x.f1) = ns) (hl : x0.length ≤ 1000) (hsp : sp.length ≤ 1000) : ∀ (d : Nat) (s : Lst), s.ms.length + d = m → LOk ns s → Lw sp s →
    Ev (fun k => imprimaturref19_Learn.l4 k x0 (m : Int) sp s.ps (s.ms.length : Int) s.ts s.ms) (((lst ns d s).ts ++ sp.map (fun s => (⟨s, 0, true⟩ : S43)), (lst ns d s).ms, 0) : V3) := by
  have hend : ∀ s : Lst, s.ts.length ≤ 10000 → Ev (fun k => imprimaturref19_Learn.j7 k sp s.ts s.ms) ((s.ts ++ sp.map (fun s => (⟨s, 0, true⟩ : S43)), s.ms, 0) : V3) := fun s hs => by
    have := rl6 sp s.ms hsp sp.length 0 s.ts (by omega) (by omega)
    rw [List.drop_zero] at this
    exact Ev.step (fun k => by rw [imprimaturref19_Learn.j7]; rfl) this
  intro d
  induction d with
  | zero =>
    intro s h1 ho hw
    have hlen := ho.len
    refine Ev.step (fun k => ?_) (hend s (by omega))
    rw [imprimaturref19_Learn.l4, if_neg (by omega)]
  | succ d ih =>
    intro s h1 ho hw
    have hlen := ho.len
    obtain ⟨a, b, w, fd, g1, g2⟩ := next_ev ho hw (by omega) (by omega) x0 hns hl
    have hstep : ∀ k, imprimaturref19_Learn.l4 (k + 1) x0 (m : Int) sp s.ps (s.ms.length : Int) s.ts s.ms = ((imprimaturref19_next.f k s.ts s.ms x0 s.ps sp).bind fun bt271 => (if bt271.2.2.2 = true then ((imprimaturref19_both.f s.ts s.ms bt271.1 bt271.2.1 bt271.2.2.1).bind fun t276 => (if (floatBits .sub .f64 0 (floatOfInt .f64 (s.ms.length : Int))).isSome = true then (if s.ts.length < 3518437208883 then (if s.ms.length < 5864062014805 then (imprimaturref19_Learn.l5 k x0 (m : Int) sp s.ps (s.ms.length : Int) (s.ts.length : Int) 0 (s.ts ++ [(⟨t276, (floatBits .sub .f64 0 (floatOfInt .f64 (s.ms.length : Int))).getD 0, false⟩ : S43)]) (s.ms ++ [(⟨bt271.1, bt271.2.1, (s.ts.length : Int)⟩ : S38)]) bt271.1 bt271.2.1 bt271.2.2.1) else (none)) else (none)) else (none))) else (imprimaturref19_Learn.j7 k sp s.ts s.ms))) := fun k => by
      rw [imprimaturref19_Learn.l4, if_pos (by omega)]
    cases fd with
    | false =>
      rw [if_neg (by simp)] at g2
      rw [lst_none g2]
      refine Ev.step hstep (Ev.bind g1 ?_)
      simp only [Bool.false_eq_true, if_false]
      exact hend s (by omega)
    | true =>
      rw [if_pos rfl] at g2
      rw [lst_some g2]
      obtain ⟨n, hB⟩ := nx_some ho g2
      obtain ⟨k0, k1, k2, k3⟩ := ho.key (x := (a, b)) (by rw [(hB.2 rfl).2.1]; rfl)
      have hbo := both_ev s.ts s.ms a b w ho.tok k0 k1 k2 k3
      have hsc := sc_some s.ms.length (by omega)
      have hi := ih (lmrg s (a, b)) (by show (s.ms ++ _).length + d = m; rw [List.length_append, List.length_singleton]; omega) (ho.mrg hB) (hw.mrg ho g2)
      have e1 : ((lmrg s (a, b)).ms.length : Int) = wrap64 ((s.ms.length : Int) + 1) := by
        show ((s.ms ++ _).length : Int) = _
        rw [List.length_append, List.length_singleton, w64 (by omega)]
      rw [e1] at hi
      have hr := rl5 x0 (m : Int) sp (s.ms.length : Int) (s.ts.length : Int) (lmrg s (a, b)).ts (lmrg s (a, b)).ms a b w _ s.ps (by rw [ho.ps, ← hns, List.length_map]; exact hl) (fun i => by have := tot_get s.ps i; have := ho.tot; omega) hi s.ps.length 0 (by omega)
      rw [List.take_zero, List.map_nil, List.nil_append, List.drop_zero] at hr
      refine Ev.step hstep (Ev.bind g1 ?_)
      simp only [if_true, hbo, Option.bind_some, if_pos hsc, if_pos (show s.ts.length < 3518437208883 by omega), if_pos (show s.ms.length < 5864062014805 by omega)]
      exact hr
theorem rl3 (x0 : List S53) (x1 : Int) (x2 : List (List Int)) (ps : List (List Int)) (i : Nat) (ts : List S43) (R : V3) (hi : i < x0.length) (hil : i ≤ 1000) (hps : ps.length ≤ 1000) (hw : (rd_T53 x0 (i : Int)).f0.length ≤ 1000) (hb : ∀ b ∈ (rd_T53 x0 (i : Int)).f0, 0 ≤ b ∧ b < 256)
    (hR : Ev (fun k => imprimaturref19_Learn.l2 k x0 x1 x2 (ps ++ [(rd_T53 x0 (i : Int)).f0]) ((i + 1 : Nat) : Int) ts) R) : ∀ (d j : Nat), j + d = (rd_T53 x0 (i : Int)).f0.length →
    Ev (fun k => imprimaturref19_Learn.l3 k x0 x1 x2 ps (i : Int) ((rd_T53 x0 (i : Int)).f0.take j) (j : Int) ts) R := by
  intro d
  induction d with
  | zero =>
    intro j h1
    refine Ev.step (fun k => ?_) hR
    have et : (rd_T53 x0 (i : Int)).f0.take j = (rd_T53 x0 (i : Int)).f0 := List.take_of_length_le (by omega)
    rw [imprimaturref19_Learn.l3, if_pos (by omega), if_pos (by omega), if_neg (by omega), if_pos (by omega), w64 (by omega), et]
  | succ d ih =>
    intro j h1
    refine Ev.step (fun k => ?_) (ih (j + 1) (by omega))
    rw [imprimaturref19_Learn.l3, if_pos (by omega), if_pos (by omega), if_pos (by omega), if_pos (by omega), if_pos (by rw [List.length_take]; omega), rd_byte hb (i := j) (by omega), w64 (by omega), take_rd (tb := (rd_T53 x0 (i : Int)).f0) (i := j) (by omega)]
theorem rl2 (x0 : List S53) (x1 : Int) (x2 : List (List Int)) (ts : List S43) (R : V3) (hl : x0.length ≤ 1000) (hw : ∀ i : Nat, i < x0.length → (rd_T53 x0 (i : Int)).f0.length ≤ 1000) (hb : ∀ i : Nat, i < x0.length → ∀ b ∈ (rd_T53 x0 (i : Int)).f0, 0 ≤ b ∧ b < 256)
    (hR : Ev (fun k => imprimaturref19_Learn.l4 k x0 x1 x2 (x0.map (fun x => x.f0)) 0 ts []) R) : ∀ (d i : Nat), i + d = x0.length →
    Ev (fun k => imprimaturref19_Learn.l2 k x0 x1 x2 ((x0.take i).map (fun x => x.f0)) (i : Int) ts) R := by
  intro d
  induction d with
  | zero =>
    intro i h1
    refine Ev.step (fun k => ?_) hR
    rw [imprimaturref19_Learn.l2, if_neg (by omega), List.take_of_length_le (by omega)]
  | succ d ih =>
    intro i h1
    have hi : i < x0.length := by omega
    have e := ih (i + 1) (by omega)
    have e2 : (x0.take (i + 1)).map (fun x => x.f0) = (x0.take i).map (fun x => x.f0) ++ [(rd_T53 x0 (i : Int)).f0] := by
      rw [List.take_succ_eq_append_getElem hi, List.map_append, rd_T53, Int.toNat_natCast, List.getD_eq_getElem?_getD, List.getElem?_eq_getElem hi, Option.getD_some]
      rfl
    rw [e2] at e
    have := rl3 x0 x1 x2 ((x0.take i).map (fun x => x.f0)) i ts R hi (by omega) (by rw [List.length_map, List.length_take]; omega) (hw i hi) (hb i hi) e (rd_T53 x0 (i : Int)).f0.length 0 (by omega)
    rw [List.take_zero] at this
    refine Ev.step (fun k => ?_) this
    rw [imprimaturref19_Learn.l2, if_pos (by omega)]
    rfl
theorem rl1 (x0 : List S53) (x1 : Int) (x2 : List (List Int)) (R : V3) (hR : Ev (fun k => imprimaturref19_Learn.l2 k x0 x1 x2 [] 0 (lett 256)) R) : ∀ (d c : Nat), c + d = 256 → Ev (fun k => imprimaturref19_Learn.l1 k x0 x1 x2 (c : Int) (lett c)) R := by
  intro d
  induction d with
  | zero =>
    intro c h1
    have : c = 256 := by omega
    subst this
    refine Ev.step (fun k => ?_) hR
    rw [imprimaturref19_Learn.l1, if_neg (by omega)]
  | succ d ih =>
    intro c h1
    refine Ev.step (fun k => ?_) (ih (c + 1) (by omega))
    rw [imprimaturref19_Learn.l1, if_pos (by omega), if_pos (by rw [lett_len]; omega), w64 (by omega), lett, show ((c : Int) % 256) = (c : Int) by omega]
theorem rl0 (x0 : List S53) (x1 : Int) (sp : List (List Int)) (R : V3) (hs : sp.length ≤ 1000) (hsl : ∀ i : Int, (rd_L1 sp i).length ≤ 1000) (hR : spGo sp sp.length 0 = 0 → Ev (fun k => imprimaturref19_Learn.l1 k x0 x1 sp 0 []) R) : ∀ (d i : Nat), i + d = sp.length → (∀ x, spGo sp d i = x → x = 0 → spGo sp sp.length 0 = 0) →
    Ev (fun k => imprimaturref19_Learn.l0 k x0 x1 sp (i : Int)) (if spGo sp d i = 0 then R else ([], [], 90)) := by
  intro d
  induction d with
  | zero =>
    intro i h1 h2
    rw [if_pos (show spGo sp 0 i = 0 from rfl)]
    refine Ev.step (fun k => ?_) (hR (h2 _ rfl rfl))
    rw [imprimaturref19_Learn.l0, if_neg (by omega)]
  | succ d ih =>
    intro i h1 h2
    by_cases c : spB (rd_L1 sp (i : Int)) = true
    · have ham := ramong_ev (rd_L1 sp (i : Int)) (sp.take i) (by rw [List.length_take]; omega)
      have hstep : ∀ k, imprimaturref19_Learn.l0 (k + 1) x0 x1 sp (i : Int) = ((imprimaturref19_among.f k (rd_L1 sp (i : Int)) (sp.take i)).bind fun t254 => (if t254 = true then (some (([] : List (S43)), ([] : List (S38)), 90)) else (imprimaturref19_Learn.l0 k x0 x1 sp ((i + 1 : Nat) : Int)))) := fun k => by
        rw [imprimaturref19_Learn.l0, if_pos (by omega), if_pos (by omega), rspecial_ev _ (by have := hsl i; omega), Option.bind_some, if_pos c, if_pos (by omega), Int.toNat_natCast, w64 (by omega)]
      cases c2 : amB (rd_L1 sp (i : Int)) (sp.take i) with
      | true =>
        rw [c2] at ham
        have e9 : spGo sp (d + 1) i = 90 := by rw [spGo, if_neg (fun h => by rw [c2] at h; cases h.2)]
        rw [e9, if_neg (by decide)]
        refine Ev.step hstep (Ev.bind ham ?_)
        simp only [if_true]
        exact Ev.const
      | false =>
        rw [c2] at ham
        have e : spGo sp (d + 1) i = spGo sp d (i + 1) := by rw [spGo, if_pos ⟨c, c2⟩]
        rw [e]
        refine Ev.step hstep (Ev.bind ham ?_)
        simp only [Bool.false_eq_true, if_false]
        exact ih (i + 1) (by omega) (fun x hx => h2 x (e.trans hx))
    · have e9 : spGo sp (d + 1) i = 90 := by rw [spGo, if_neg (fun h => c h.1)]
      rw [e9, if_neg (by decide)]
      refine Ev.of fun k => ?_
      rw [imprimaturref19_Learn.l0, if_pos (by omega), if_pos (by omega), rspecial_ev _ (by have := hsl i; omega), Option.bind_some, if_neg c]
/-- The document's learning of a small corpus. -/
theorem rlearn_ev (l : List S53) (m : Int) (sp : List (List Int)) (h : Small l sp) (hm : m ≤ 25 ∨ m > 4000) :
    Ev (fun k => imprimaturref19_Learn.f k l m sp) (if askE (l.map (fun x => x.f1)) m sp = 0 then ((fin l m.toNat sp).ts ++ sp.map (fun s => (⟨s, 0, true⟩ : S43)), (fin l m.toNat sp).ms, 0) else ([], [], askE (l.map (fun x => x.f1)) m sp)) := by
  have hl := h.hl
  have hs := h.hs
  by_cases c0 : m < 0
  · have e : askE (l.map (fun x => x.f1)) m sp = 1 := by unfold askE; rw [if_pos c0]
    rw [e, if_neg (by decide)]
    exact Ev.le 0 fun k _ => by unfold imprimaturref19_Learn.f; rw [if_pos c0]
  have hc := rcorpus_ev l (by omega) (by omega)
  have hw : wrap64 (3840 - (sp.length : Int)) = 3840 - (sp.length : Int) := by unfold wrap64; omega
  have hstep : ∀ k, imprimaturref19_Learn.f k l m sp = ((imprimaturref19_Corpus.f k l).bind fun t245 => (if t245 = 0 then (if (sp.length : Int) > 64 then (imprimaturref19_Learn.j0 k l m sp true) else (imprimaturref19_Learn.j0 k l m sp (decide (m > 3840 - (sp.length : Int))))) else (some (([] : List (S43)), ([] : List (S38)), t245)))) := fun k => by
    unfold imprimaturref19_Learn.f
    rw [if_neg c0, hw]
  refine (show ∀ R, Ev (fun k => ((imprimaturref19_Corpus.f k l).bind fun t245 => (if t245 = 0 then (if (sp.length : Int) > 64 then (imprimaturref19_Learn.j0 k l m sp true) else (imprimaturref19_Learn.j0 k l m sp (decide (m > 3840 - (sp.length : Int))))) else (some (([] : List (S43)), ([] : List (S38)), t245))))) R → Ev (fun k => imprimaturref19_Learn.f k l m sp) R from fun R hR => by
    obtain ⟨K, hK⟩ := hR
    exact ⟨K, fun k hk => (hstep k).trans (hK k hk)⟩) _ (Ev.bind hc ?_)
  by_cases c1 : okNs (l.map (fun x => x.f1)) = true
  · simp only [if_pos c1, if_true]
    by_cases c2 : (sp.length : Int) > 64 ∨ m > 3840 - (sp.length : Int)
    · have e : askE (l.map (fun x => x.f1)) m sp = 2 := by unfold askE; rw [if_neg c0, if_pos c1, if_pos c2]
      rw [e, if_neg (by decide)]
      have hj : Ev (fun k => imprimaturref19_Learn.j0 k l m sp true) (([], [], 2) : V3) := Ev.of fun k => by rw [imprimaturref19_Learn.j0, if_pos rfl]
      by_cases c3 : (sp.length : Int) > 64
      · simp only [if_pos c3]; exact hj
      · simp only [if_neg c3, decide_eq_true (show m > 3840 - (sp.length : Int) by omega)]; exact hj
    · have e : askE (l.map (fun x => x.f1)) m sp = spGo sp sp.length 0 := by unfold askE; rw [if_neg c0, if_pos c1, if_neg c2]
      simp only [if_neg (show ¬ (sp.length : Int) > 64 by omega), decide_eq_false (show ¬ m > 3840 - (sp.length : Int) by omega)]
      have hmm : m.toNat ≤ 25 := by omega
      have hr : spGo sp sp.length 0 = 0 → Ev (fun k => imprimaturref19_Learn.l1 k l m sp 0 []) (((fin l m.toNat sp).ts ++ sp.map (fun s => (⟨s, 0, true⟩ : S43)), (fin l m.toNat sp).ms, 0) : V3) := fun hz => by
        have hwd : ∀ i : Nat, i < l.length → rd_T53 l (i : Int) ∈ l := fun i hi => by
          rw [rd_T53, Int.toNat_natCast, List.getD_eq_getElem?_getD, List.getElem?_eq_getElem hi, Option.getD_some]
          exact List.getElem_mem hi
        have h4 := rl4 l m.toNat hmm sp _ rfl (by omega) (by omega) m.toNat (st0 (l.map (fun x : S53 => x.f0)) sp) (by simp [st0]) (fin_ok l m 0 sp h (e.trans hz)).1 (fin_ok l m 0 sp h (e.trans hz)).2
        rw [show ((m.toNat : Nat) : Int) = m by omega] at h4
        have h2 := rl2 l m sp (lett 256) _ (by omega) (fun i hi => by
          have := tot_get (l.map (fun x => x.f0)) i
          rw [List.getD_eq_getElem?_getD, List.getElem?_map, List.getElem?_eq_getElem hi] at this
          rw [rd_T53, Int.toNat_natCast, List.getD_eq_getElem?_getD, List.getElem?_eq_getElem hi, Option.getD_some]
          simp only [Option.map_some, Option.getD_some] at this
          omega) (fun i hi => h.by_ _ (hwd i hi)) h4 l.length 0 (by omega)
        rw [List.take_zero, List.map_nil] at h2
        exact rl1 l m sp _ h2 256 0 (by omega)
      have h0 := rl0 l m sp _ (by omega) (fun i => by have := tot_mem sp i; omega) hr sp.length 0 (by omega) (fun x hx h0 => hx.trans h0)
      rw [e]
      have hv := spGo_vals sp sp.length 0
      have hR : (if spGo sp sp.length 0 = 0 then (((fin l m.toNat sp).ts ++ sp.map (fun s => (⟨s, 0, true⟩ : S43)), (fin l m.toNat sp).ms, 0) : V3) else ([], [], spGo sp sp.length 0)) = (if spGo sp sp.length 0 = 0 then (((fin l m.toNat sp).ts ++ sp.map (fun s => (⟨s, 0, true⟩ : S43)), (fin l m.toNat sp).ms, 0) : V3) else ([], [], 90)) := by
        rcases hv with hv | hv
        · rw [if_pos hv, if_pos hv]
        · rw [hv]
      rw [hR]
      exact Ev.step (fun k => by rw [imprimaturref19_Learn.j0, if_neg (by simp)]; rfl) h0
  · have e : askE (l.map (fun x => x.f1)) m sp = 1 := by unfold askE; rw [if_neg c0, if_neg c1]
    rw [e]
    simp only [if_neg c1]
    exact Ev.const
/-! ### a vocabulary is itself -/
theorem same_l1 (ts : List S43) (ms : List S38) (hm : ms.length ≤ 1000000) : ∀ (d i : Nat), i + d = ms.length → Ev (fun k => imprimaturref11_Same.l1 k (i : Int) ts ms ts ms) true := by
  intro d
  induction d with
  | zero =>
    intro i h1
    refine Ev.of fun k => ?_
    rw [imprimaturref11_Same.l1, if_neg (by omega)]
  | succ d ih =>
    intro i h1
    refine Ev.step (fun k => ?_) (ih (i + 1) (by omega))
    rw [imprimaturref11_Same.l1, if_pos (by omega), if_pos (by omega), if_pos (by omega), if_neg (by simp), w64 (by omega)]
theorem same_l0 (ts : List S43) (ms : List S38) (ht : ts.length ≤ 1000000) (hm : ms.length ≤ 1000000) : ∀ (d i : Nat), i + d = ts.length → Ev (fun k => imprimaturref11_Same.l0 k (i : Int) ts ms ts ms) true := by
  intro d
  induction d with
  | zero =>
    intro i h1
    refine Ev.step (fun k => ?_) (same_l1 ts ms hm ms.length 0 (by omega))
    rw [imprimaturref11_Same.l0, if_neg (by omega)]
    rfl
  | succ d ih =>
    intro i h1
    refine Ev.step (fun k => ?_) (ih (i + 1) (by omega))
    rw [imprimaturref11_Same.l0, if_pos (by omega), if_pos (by omega), if_pos (by omega), if_pos rfl, imprimaturref01_Same.f, Option.bind_some, if_pos (by simp), if_neg (by simp), w64 (by omega)]
theorem same_ev (ts : List S43) (ms : List S38) (ht : ts.length ≤ 1000000) (hm : ms.length ≤ 1000000) : Ev (fun k => imprimaturref11_Same.f k ts ms ts ms) true := by
  refine Ev.step (f := fun k => imprimaturref11_Same.l0 k 0 ts ms ts ms) (fun k => ?_) (same_l0 ts ms ht hm ts.length 0 (by omega))
  unfold imprimaturref11_Same.f
  rw [if_pos rfl, imprimaturref11_Same.j0, if_neg (by simp)]
end Go.Proofs.Ytkdegcpfjfgajaa.X
namespace Go.Proofs.Ytkdegcpfjfgajaa.Pure
open Go Go.RowKit Go.Proofs.YtkdegcpfjfgajaaW.PrintWords Go.Proofs.Ytkdegcpfjfgajaa.Mg Go.Proofs.Ytkdegcpfjfgajaa.Pt Go.Proofs.Ytkdegcpfjfgajaa.Q Go.Proofs.Ytkdegcpfjfgajaa.L Go.Proofs.Ytkdegcpfjfgajaa.X
theorem learn_ev (l : List S53) (m : Int) (sp : List (List Int)) (h : Small l sp) : train_Learn.f (ownS l) m sp = some (if askE (l.map (fun x => x.f1)) m sp = 0 then ((fin l m.toNat sp).ts ++ sp.map (fun s => (⟨s, 0, true⟩ : S43)), (fin l m.toNat sp).ms, 0) else ([], [], askE (l.map (fun x => x.f1)) m sp)) := by
  by_cases c : askE (l.map (fun x => x.f1)) m sp = 0
  · rw [if_pos c]; exact learn_good l m sp h c
  · rw [if_neg c]; exact learn_bad l m sp h c
theorem fin_size (l : List S53) (m : Int) (sp : List (List Int)) (h : Small l sp) (he : askE (l.map (fun x => x.f1)) m sp = 0) : ((fin l m.toNat sp).ts ++ sp.map (fun s => (⟨s, 0, true⟩ : S43))).length ≤ 10000 ∧ (fin l m.toNat sp).ms.length ≤ m.toNat ∧ (fin l m.toNat sp).ms.length ≤ 3840 := by
  obtain ⟨a1, a2, a3, a4, a5⟩ := askE_zero he
  have hok := (fin_ok l m m.toNat sp h he).1
  obtain ⟨xa, xb, x1, x2, x3, x4, x5⟩ := lst_ext (l.map (fun x => x.f1)) m.toNat (st0 (l.map (fun x => x.f0)) sp)
  have x2' : (fin l m.toNat sp).ms = xb := x2
  have := hok.len
  rw [List.length_append, List.length_map, x2'] at *
  omega
theorem TrainLearns : ∀ (l0 : List S53) (a1 : Int) (l2 : List (List Int)), GL l0 → (Lit.int .i64 a1).wf = true → GS l2 → ∃ k, imprimaturlaw19_TrainLearns.f k l0 a1 l2 = some true := by
  intro l0 a1 l3 hl w1 hs
  obtain ⟨b, hb, hsm⟩ := great_ev l0 l3 (in_of hl hs)
  obtain ⟨f, hf, hfew⟩ := few_ev a1
  have hj : ∀ k, imprimaturlaw19_TrainLearns.j0 (k + 1) l0 a1 l3 true = some true := fun k => by rw [imprimaturlaw19_TrainLearns.j0, if_pos rfl, known_ev]; rfl
  cases b with
  | true =>
    refine ⟨l0.length + l3.length + 10000, ?_⟩
    unfold imprimaturlaw19_TrainLearns.f
    rw [hb _ (by omega), Option.bind_some, if_pos rfl, hj]
  | false =>
    have sm := hsm rfl
    have sl := sm.hl
    cases f with
    | false =>
      refine ⟨l0.length + l3.length + 10000, ?_⟩
      unfold imprimaturlaw19_TrainLearns.f
      rw [hb _ (by omega), Option.bind_some, if_neg (by simp), hf, Option.bind_some]
      exact hj _
    | true =>
      have h1 : X.Ev (fun k => imprimaturlaw19_own.f k l0) (ownS l0) := X.Ev.le _ (own_ev l0 (by omega))
      have h2 := rlearn_ev l0 a1 l3 sm (hfew rfl)
      have h3 := learn_ev l0 a1 l3 sm
      have h4 : ∀ v : V3, v = (if askE (l0.map (fun x => x.f1)) a1 l3 = 0 then ((fin l0 a1.toNat l3).ts ++ l3.map (fun s => (⟨s, 0, true⟩ : S43)), (fin l0 a1.toNat l3).ms, 0) else ([], [], askE (l0.map (fun x => x.f1)) a1 l3)) → v.1.length ≤ 1000000 ∧ v.2.1.length ≤ 1000000 := fun v hv => by
        by_cases c : askE (l0.map (fun x => x.f1)) a1 l3 = 0
        · rw [if_pos c] at hv
          have := fin_size l0 a1 l3 sm c
          rw [hv]
          simp only
          omega
        · rw [if_neg c] at hv
          rw [hv]; simp
      generalize (if askE (l0.map (fun x => x.f1)) a1 l3 = 0 then ((fin l0 a1.toNat l3).ts ++ l3.map (fun s => (⟨s, 0, true⟩ : S43)), (fin l0 a1.toNat l3).ms, 0) else ([], [], askE (l0.map (fun x => x.f1)) a1 l3)) = v at h2 h3 h4
      obtain ⟨g1, g2⟩ := h4 v rfl
      have h5 := same_ev v.1 v.2.1 g1 g2
      have h6 : X.Ev (fun k => imprimaturlaw19_TrainLearns.j0 k l0 a1 l3 false) true := by
        refine X.Ev.step (f := fun k => (imprimaturlaw19_own.f k l0).bind fun t215 => ((train_Learn.f t215 a1 l3).bind fun bt218 => ((imprimaturref19_Learn.f k l0 a1 l3).bind fun bt226 => ((imprimaturref11_Same.f k bt218.1 bt218.2.1 bt226.1 bt226.2.1).bind fun t234 => (if t234 = true then (if bt218.2.2 = bt226.2.2 then ((imprimaturlaw19_known.f).bind fun t235 => (some t235)) else (none)) else (none)))))) (fun k => by rw [imprimaturlaw19_TrainLearns.j0, if_neg (by simp)]) (X.Ev.bind h1 ?_)
        simp only [h3, Option.bind_some]
        refine X.Ev.bind h2 (X.Ev.bind h5 ?_)
        simp only [if_true, known_ev, Option.bind_some]
        exact X.Ev.const
      obtain ⟨K, hK⟩ := h6
      refine ⟨K + l0.length + l3.length + 1, ?_⟩
      unfold imprimaturlaw19_TrainLearns.f
      rw [hb _ (by omega), Option.bind_some, if_neg (by simp), hf, Option.bind_some]
      exact hK _ (by omega)
end Go.Proofs.Ytkdegcpfjfgajaa.Pure
