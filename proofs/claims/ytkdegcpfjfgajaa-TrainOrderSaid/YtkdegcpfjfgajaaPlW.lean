/- What the learner learns, merge for merge: plain. No condition. -/
import Derived.Test.YtkdegcpfjfgajaaXBeginW
namespace Go.Proofs.Ytkdegcpfjfgajaa.X
open Go Go.RowKit Go.Proofs.YtkdegcpfjfgajaaW.PrintWords Go.Proofs.Ytkdegcpfjfgajaa.Mg Go.Proofs.Ytkdegcpfjfgajaa.Pt Go.Proofs.Ytkdegcpfjfgajaa.Q
set_option linter.unusedVariables false
set_option linter.unusedSimpArgs false
abbrev Ids := ByteArray → Option Int
theorem btr_asym {a b x c d y : Int} (h : btr a b x c d y = true) (k : btr c d y a b x = true) : False := by
  unfold btr at *
  rw [decide_eq_true_eq] at *
  omega
section
variable {F : Int × Int → Option Int} {ts : List S43} {T : Ids} {k k' : Int × Int} {n n' : Int} {fd : Bool}
theorem BInv.uniq (h : BInv F ts T (fun _ => false) k n true) (h' : BInv F ts T (fun _ => false) k' n' true) : k = k' := by
  obtain ⟨h1, h2, -, h4, h5⟩ := h.2 rfl
  obtain ⟨g1, g2, -, g4, g5⟩ := h'.2 rfl
  by_cases e : k = k'
  · exact e
  · exact (btr_asym (h5 k' n' g1 g2 rfl g4 (fun h => e h.symm)) (g5 k n h1 h2 rfl h4 e)).elim
theorem BInv.excl (h : BInv F ts T (fun _ => false) k n false) (h' : BInv F ts T (fun _ => false) k' n' true) : False := by
  obtain ⟨g1, g2, -, g4, g5⟩ := h'.2 rfl
  have := (h.1 rfl).2.2 k' n' g1 g2 rfl
  rw [g4] at this
  cases this
end
/-- The pair that is merged next. -/
noncomputable def nx (F : Int × Int → Option Int) (ts : List S43) (T : Ids) : Option (Int × Int) :=
  open Classical in if h : ∃ k n, BInv F ts T (fun _ => false) k n true then some h.choose else none
theorem nx_of {F : Int × Int → Option Int} {ts : List S43} {T : Ids} {k : Int × Int} {n : Int} {fd : Bool} (h : BInv F ts T (fun _ => false) k n fd) : nx F ts T = if fd = true then some k else none := by
  unfold nx
  cases fd with
  | true =>
    have he : ∃ k n, BInv F ts T (fun _ => false) k n true := ⟨k, n, h⟩
    rw [dif_pos he, if_pos rfl]
    obtain ⟨n', hn⟩ := he.choose_spec
    rw [BInv.uniq hn h]
  | false =>
    rw [dif_neg, if_neg (by simp)]
    rintro ⟨k', n', h'⟩
    exact h.excl h'
structure Lst where
  ts : List S43
  ms : List S38
  ps : List (List Int)
  T : Ids
def tabOf (ts : List S43) (k : Int × Int) : List Int := (rd_T43 ts k.1).f0 ++ (rd_T43 ts k.2).f0
def scOf (ms : List S38) : Nat := (floatBits .sub .f64 0 (floatOfInt .f64 (ms.length : Int))).getD 0
def lmrg (s : Lst) (k : Int × Int) : Lst :=
  ⟨s.ts ++ [⟨tabOf s.ts k, scOf s.ms, false⟩], s.ms ++ [⟨k.1, k.2, s.ts.length⟩], s.ps.map (fun p => mgd p k.1 k.2 s.ts.length), upd s.T (strOfNums (tabOf s.ts k)) (some (s.ts.length : Int))⟩
noncomputable def lst (ns : List Int) : Nat → Lst → Lst
  | 0, s => s
  | n + 1, s => match nx (wt ns (cps s.ps)) s.ts s.T with
    | none => s
    | some k => lst ns n (lmrg s k)
/-- What holds of a learner on the way. -/
structure LOk (ns : List Int) (s : Lst) : Prop where
  len : s.ts.length = 256 + s.ms.length
  ps : s.ps.length = ns.length
  tot : tot s.ps ≤ 16384
  rng : ∀ i, ∀ x ∈ s.ps.getD i [], 0 ≤ x ∧ x < (s.ts.length : Int)
  tok : ∀ i : Int, (rd_T43 s.ts i).f0.length ≤ 32
  ns : ∀ n ∈ ns, (1 : Int) ≤ n ∧ n ≤ 4294967296
theorem cp_mem : ∀ (p : List Int) (k : Int × Int), cp p k ≠ 0 → k.1 ∈ p ∧ k.2 ∈ p
  | [], k, h => absurd rfl h
  | [_], k, h => absurd rfl h
  | a :: b :: t, k, h => by
    rw [cp_two] at h
    by_cases e : (a, b) = k
    · rw [← e]; simp
    · rw [if_neg e] at h
      have := cp_mem (b :: t) k (by omega)
      exact ⟨List.mem_cons_of_mem _ this.1, List.mem_cons_of_mem _ this.2⟩
theorem ws_all {c : Cnt} {k : Int × Int} : ∀ (ns : List Int) (i : Nat), (∀ j, c j k = 0) → ws ns i c k = 0
  | [], _, _ => rfl
  | n :: t, i, h => by rw [ws, h i, ws_all t (i + 1) h]; simp
theorem wt_some {ns : List Int} {ps : List (List Int)} {k : Int × Int} (h : (wt ns (cps ps) k).isSome = true) : ∃ i, cp (ps.getD i []) k ≠ 0 := by
  by_cases e : ∃ i, cp (ps.getD i []) k ≠ 0
  · exact e
  · have h0 : ws ns 0 (cps ps) k = 0 := ws_all ns 0 (fun j => by
      by_cases e2 : cp (ps.getD j []) k = 0
      · exact e2
      · exact (e ⟨j, e2⟩).elim)
    rw [wt, h0, if_pos rfl] at h
    cases h
theorem LOk.key {ns : List Int} {s : Lst} (h : LOk ns s) {x : Int × Int} (hx : (wt ns (cps s.ps) x).isSome = true) : 0 ≤ x.1 ∧ x.1 < (s.ts.length : Int) ∧ 0 ≤ x.2 ∧ x.2 < (s.ts.length : Int) := by
  obtain ⟨i, hi⟩ := wt_some hx
  have hm := cp_mem _ _ hi
  exact ⟨(h.rng i _ hm.1).1, (h.rng i _ hm.1).2, (h.rng i _ hm.2).1, (h.rng i _ hm.2).2⟩
theorem tot_map (a b c : Int) : ∀ ps : List (List Int), Pt.tot (ps.map (fun p => mgd p a b c)) ≤ Pt.tot ps
  | [] => Nat.le_refl _
  | p :: t => by
    have := tot_map a b c t
    have := mgd_len a b c p
    rw [List.map_cons, Pt.tot, Pt.tot]
    omega
theorem map_getD (a b c : Int) (ps : List (List Int)) (n : Nat) : (ps.map (fun p => mgd p a b c)).getD n [] = mgd (ps.getD n []) a b c := by
  rw [List.getD_eq_getElem?_getD, List.getD_eq_getElem?_getD, List.getElem?_map]
  cases ps[n]? <;> rfl
theorem rd_snoc (ts : List S43) (t : S43) (i : Int) : rd_T43 (ts ++ [t]) i = if i.toNat < ts.length then rd_T43 ts i else if i.toNat = ts.length then t else z43 := by
  rw [rd_T43, rd_T43, List.getD_eq_getElem?_getD, List.getD_eq_getElem?_getD]
  by_cases h : i.toNat < ts.length
  · rw [if_pos h, List.getElem?_append_left h]
  · rw [if_neg h, List.getElem?_append_right (by omega)]
    by_cases e : i.toNat = ts.length
    · rw [if_pos e, e, Nat.sub_self]; rfl
    · rw [if_neg e, List.getElem?_eq_none (by simp; omega)]; rfl
theorem LOk.mrg {ns : List Int} {s : Lst} (h : LOk ns s) {k : Int × Int} {n : Int} (hb : BInv (wt ns (cps s.ps)) s.ts s.T (fun _ => false) k n true) : LOk ns (lmrg s k) := by
  obtain ⟨h1, h2, -, h4, -⟩ := hb.2 rfl
  have ht : (tabOf s.ts k).length ≤ 32 := by
    unfold mayb at h4
    simp only [Bool.and_eq_true, Bool.not_eq_true', Bool.or_eq_false_iff, decide_eq_false_iff_not] at h4
    rw [tabOf, List.length_append]
    omega
  refine ⟨?_, ?_, ?_, fun i x hx => ?_, fun i => ?_, h.ns⟩
  · show (s.ts ++ _).length = 256 + (s.ms ++ _).length
    rw [List.length_append, List.length_append, h.len]; rfl
  · show (s.ps.map _).length = ns.length
    rw [List.length_map]; exact h.ps
  · exact Nat.le_trans (tot_map _ _ _ _) h.tot
  · have hl : ((lmrg s k).ts.length : Int) = (s.ts.length : Int) + 1 := by show ((s.ts ++ _).length : Int) = _; rw [List.length_append]; rfl
    rw [hl]
    have hx' : x ∈ mgd (s.ps.getD i []) k.1 k.2 s.ts.length := by rw [← map_getD]; exact hx
    rcases mgd_mem _ x hx' with h' | h'
    · have := h.rng i x h'; omega
    · omega
  · show (rd_T43 (s.ts ++ [_]) i).f0.length ≤ 32
    rw [rd_snoc]
    split
    · exact h.tok i
    · split
      · exact ht
      · exact Nat.zero_le _
def spT : Ids → List (List Int) → Ids
  | T, [] => T
  | T, s :: t => spT (upd T (strOfNums s) (some (-1))) t
end Go.Proofs.Ytkdegcpfjfgajaa.X
