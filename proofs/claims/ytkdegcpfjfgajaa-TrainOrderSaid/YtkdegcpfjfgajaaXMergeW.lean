/- A pair merged (func 31). Conditions: the learner's own. -/
import Derived.Test.YtkdegcpfjfgajaaXNextW
import Derived.Test.YtkdegcpfjfgajaaPpW
namespace Go.Proofs.Ytkdegcpfjfgajaa.X
open Go Go.RowKit Go.Maps Go.Proofs.YtkdegcpfjfgajaaW.PrintWords Go.Proofs.YtkdegcpfjfgajaaW.PrintLast Go.Proofs.YtkdegcpfjfgajaaW.PrintMore Go.Proofs.Ytkdegcpfjfgajaa.Mg Go.Proofs.Ytkdegcpfjfgajaa.Pt Go.Proofs.Ytkdegcpfjfgajaa.Q
attribute [local go_sem] Go.Proofs.Ytkdegcpfjfgajaa.Fl.run_store_float Go.Proofs.Ytkdegcpfjfgajaa.Fl.run_fsub
set_option linter.unusedVariables false
set_option linter.unusedSimpArgs false
theorem parts_set {W : World} {base g n cap i : Nat} {v : Value} {xs : List (List Int)} {q : List Int} (h : (Kd.slice 2 (Kd.int .i64)).R 58 W base (fun _ => True) (.slice (some ⟨g, 0, none⟩) n cap) xs) (hi : i < n) (hv : (Kd.int .i64).R 2 W base (fun k => k ≠ g) v q) :
    (Kd.slice 2 (Kd.int .i64)).R 58 (W.setCell ⟨g, i, none⟩ v) base (fun _ => True) (.slice (some ⟨g, 0, none⟩) n cap) (xs.set i q) ∧ W.grownBy (W.setCell ⟨g, i, none⟩ v) (some g) := by
  obtain ⟨hn, hnc, hC⟩ := Kd.R_reads' h
  obtain ⟨ad, A0, c0, e, hx, _, _⟩ := at_L9 hC (i : Int) (by omega) (by omega)
  cases e
  rw [Int.toNat_natCast, add_plain] at hx
  have hs := Kd.R_seg (okp := fun k => k ≠ g) h (i : Int) (by omega) (by omega) (c := [.slice A0 (rd_L9 xs i).length c0]) (seg := [v]) (j := 0) rfl (fun j u hj => by
    cases j with
    | zero =>
      simp only [List.getElem?_cons_zero, Option.some.injEq] at hj
      subst hj
      have e1 : (Kd.slice 2 (Kd.int .i64)).sz = 1 := rfl
      rw [e1, Int.toNat_natCast, Nat.mul_one, Nat.add_zero]
      exact hx
    | succ j => simp at hj) (Nat.le_refl _) (x' := q) (Kd.M_row hv) (fun k hk => ⟨trivial, hk⟩)
  have e2 : W.setCells g ((i : Int).toNat * (Kd.slice 2 (Kd.int .i64)).sz + 0) [v] = W.setCell ⟨g, i, none⟩ v := by
    have e1 : (Kd.slice 2 (Kd.int .i64)).sz = 1 := rfl
    rw [e1, Int.toNat_natCast, Nat.mul_one, Nat.add_zero]
    rfl
  rw [e2, Int.toNat_natCast] at hs
  exact hs
theorem info38 : (Try.prog.info? 38).map (fun i => (i.zero, i.size, i.bytes)) = some (some (.agg #[.int .i64 0, .int .i64 0, .int .i64 0]), 3, 24) := by kernel_rfl
theorem info3 : (Try.prog.info? 3).map (fun i => (i.zero, i.size, i.bytes)) = some (some (.int .i64 0), 1, 8) := by kernel_rfl
theorem getD_ext {l l' : List (List Int)} (hl : l.length = l'.length) (h : ∀ n, l.getD n [] = l'.getD n []) : l = l' := by
  apply List.ext_getElem? 
  intro n
  have := h n
  rw [List.getD_eq_getElem?_getD, List.getD_eq_getElem?_getD] at this
  by_cases e : n < l.length
  · rw [List.getElem?_eq_getElem e, List.getElem?_eq_getElem (hl ▸ e)] at this ⊢
    rw [Option.getD_some, Option.getD_some] at this
    rw [this]
  · rw [List.getElem?_eq_none (by omega), List.getElem?_eq_none (by omega)]
/-- The parts, those of some words turned. -/
def pmr (hs : List Int) (a b c : Int) : Nat → List (List Int) → List (List Int)
  | _, [] => []
  | i, p :: t => (if (i : Int) ∈ hs then mgd p a b c else p) :: pmr hs a b c (i + 1) t
theorem pmr_len (hs : List Int) (a b c : Int) : ∀ (ps : List (List Int)) (i : Nat), (pmr hs a b c i ps).length = ps.length
  | [], i => rfl
  | p :: t, i => by rw [pmr, List.length_cons, List.length_cons, pmr_len hs a b c t (i + 1)]
theorem pmr_get (hs : List Int) (a b c : Int) : ∀ (ps : List (List Int)) (i n : Nat), (pmr hs a b c i ps).getD n [] = if (((i + n : Nat) : Int)) ∈ hs then mgd (ps.getD n []) a b c else ps.getD n []
  | [], i, n => by simp [pmr, mgd]
  | p :: t, i, 0 => by simp [pmr]
  | p :: t, i, n + 1 => by
    rw [pmr, List.getD_cons_succ, List.getD_cons_succ, pmr_get hs a b c t (i + 1) n, show i + 1 + n = i + (n + 1) from by omega]
theorem tot_pmr (hs : List Int) (a b c : Int) : ∀ (ps : List (List Int)) (i : Nat), tot (pmr hs a b c i ps) ≤ tot ps
  | [], i => Nat.le_refl _
  | p :: t, i => by
    have := tot_pmr hs a b c t (i + 1)
    have h2 := mgd_len a b c p
    rw [pmr, tot, tot]
    split <;> omega
theorem pmr_nil (a b c : Int) (ps : List (List Int)) : pmr [] a b c 0 ps = ps := getD_ext (pmr_len _ _ _ _ _ _) (fun n => by rw [pmr_get, if_neg (by simp)])
theorem pmr_step (hs : List Int) (a b c : Int) (ps : List (List Int)) (x : Int) (hx : 0 ≤ x) (hl : x.toNat < ps.length) (hn : x ∉ hs) : pmr (hs ++ [x]) a b c 0 ps = (pmr hs a b c 0 ps).set x.toNat (mgd (ps.getD x.toNat []) a b c) := by
  refine getD_ext (by rw [pmr_len, List.length_set, pmr_len]) (fun n => ?_)
  rw [getD_set _ _ _ _ (by rw [pmr_len]; exact hl), pmr_get, pmr_get, Nat.zero_add]
  by_cases e : n = x.toNat
  · rw [if_pos e, if_pos (by rw [e, Int.toNat_of_nonneg hx]; simp), e]
  · rw [if_neg e]
    have h1 : ((n : Int) ∈ hs ++ [x]) ↔ ((n : Int) ∈ hs) := by
      rw [List.mem_append, List.mem_singleton]
      constructor
      · rintro (h | h)
        · exact h
        · omega
      · exact .inl
    by_cases h2 : (n : Int) ∈ hs
    · rw [if_pos h2, if_pos (h1.2 h2)]
    · rw [if_neg h2, if_neg (fun h => h2 (h1.1 h))]
theorem pmr_all (hs : List Int) (a b c : Int) (ps : List (List Int)) (h : ∀ n, n < ps.length → (n : Int) ∉ hs → cp (ps.getD n []) (a, b) = 0) : pmr hs a b c 0 ps = ps.map (fun p => mgd p a b c) := by
  refine getD_ext (by rw [pmr_len, List.length_map]) (fun n => ?_)
  have e : (ps.map (fun p => mgd p a b c)).getD n [] = mgd (ps.getD n []) a b c := by
    rw [List.getD_eq_getElem?_getD, List.getD_eq_getElem?_getD, List.getElem?_map]
    cases ps[n]? <;> rfl
  rw [e, pmr_get, Nat.zero_add]
  by_cases h1 : (n : Int) ∈ hs
  · rw [if_pos h1]
  · rw [if_neg h1]
    by_cases h2 : n < ps.length
    · rw [mgd_none c _ (h n h2 h1)]
    · rw [List.getD_eq_getElem?_getD, List.getElem?_eq_none (by omega)]
      rfl
theorem cps_turn (ps : List (List Int)) (w : Nat) (q : List Int) (hw : w < ps.length) : rowc (rowc (cps ps) w (ps.getD w []) (-1)) w q 1 = cps (ps.set w q) := by
  funext i k
  rw [rowc, rowc, cps, cps, getD_set _ _ _ _ hw]
  by_cases e : i = w
  · rw [if_pos e, if_pos e, if_pos e, e]; omega
  · rw [if_neg e, if_neg e, if_neg e]
theorem okc_less {ns : List Int} {ps : List (List Int)} (hl : ns.length = ps.length) (hn : ∀ n ∈ ns, (1 : Int) ≤ n ∧ n ≤ 4294967296) (ht : tot ps ≤ 16384) (w j : Nat) : OkC ns (rowc (cps ps) w ((ps.getD w []).take j) (-1)) := by
  refine okc_of hl hn ht (fun i k => ?_)
  rw [rowc]
  have h0 := cp_nonneg (ps.getD i []) k
  have h1 := cp_le (ps.getD i []) k
  by_cases e : i = w
  · rw [if_pos e, e]
    rw [e] at h0 h1
    have h2 := cp_take_le k (ps.getD w []) j
    have h3 := cp_nonneg ((ps.getD w []).take j) k
    have h4 : cps ps w k = cp (ps.getD w []) k := rfl
    omega
  · rw [if_neg e]
    exact ⟨h0, h1⟩
theorem okc_more {ns : List Int} {ps : List (List Int)} (hl : ns.length = ps.length) (hn : ∀ n ∈ ns, (1 : Int) ≤ n ∧ n ≤ 4294967296) (w : Nat) (q : List Int) (hw : w < ps.length) (ht : tot (ps.set w q) ≤ 16384) (j : Nat) : OkC ns (rowc (rowc (cps ps) w (ps.getD w []) (-1)) w (q.take j) 1) := by
  refine okc_of (parts := ps.set w q) (by rw [List.length_set]; exact hl) hn ht (fun i k => ?_)
  rw [rowc, rowc, getD_set _ _ _ _ hw]
  have h0 := cp_nonneg (ps.getD i []) k
  have h1 := cp_le (ps.getD i []) k
  by_cases e : i = w
  · rw [if_pos e, if_pos e, if_pos e, e]
    have h2 := cp_take_le k q j
    have h3 := cp_nonneg (q.take j) k
    have h5 := cp_le q k
    have h4 : cps ps w k = cp (ps.getD w []) k := rfl
    omega
  · rw [if_neg e, if_neg e, if_neg e]
    exact ⟨h0, h1⟩
/-- What the first loop has collected. -/
def HIT (F : Int → Option Int) (left : Int → Bool) (hs : List Int) : Prop := hs.Nodup ∧ (∀ x, x ∈ hs ↔ (MN.ok x ∧ (F x).isSome = true ∧ left x = false)) ∧ ∀ x, left x = true → (F x).isSome = true
theorem HIT.step {F : Int → Option Int} {left : Int → Bool} {hs : List Int} (h : HIT F left hs) {x y : Int} (hx : MN.ok x) (hF : F x = some y) (hl : left x = true) : HIT F (fun z => left z && !decide (z = x)) (hs ++ [x]) := by
  obtain ⟨h1, h2, h3⟩ := h
  have hn : x ∉ hs := fun hm => by have := ((h2 x).1 hm).2.2; rw [hl] at this; cases this
  refine ⟨List.nodup_append.2 ⟨h1, by simp, fun a ha b hb => by rw [List.mem_singleton] at hb; rw [hb]; exact fun e => hn (e ▸ ha)⟩, fun z => ?_, fun z hz => h3 z (by simp at hz; exact hz.1)⟩
  rw [List.mem_append, List.mem_singleton, h2 z]
  by_cases e : z = x
  · subst e
    simp [hx, hF]
  · simp [e]
theorem LS.setp {w0 W : World} {g bw bi bt nt gp n cap wi cw : Nat} {wl : List S68} {ts : List S43} {ms : List S38} {parts : List (List Int)} {T : ByteArray → Option Int} {vt vm v : Value} {Aw : Option Addr} {q : List Int}
    (hg : W.heap[g]? = some (.cells #[vt, vm, .slice Aw wl.length cw, .slice (some ⟨gp, 0, none⟩) n cap, .map (some bw), .map (some bi), .map (some bt)] 77 (0, 0))) (h1 : k43.R 43 W w0.heap.size (fun _ => True) vt ts) (h2 : k38.R 38 W w0.heap.size (fun _ => True) vm ms)
    (h3 : (Kd.slice 2 (Kd.int .i64)).R 58 W w0.heap.size (fun _ => True) (.slice (some ⟨gp, 0, none⟩) n cap) parts) (h4 : MapF MS W bt nt T) (h5 : k68.C w0 Aw wl.length wl) (h6 : w0.heap.size ≤ g) (h7 : w0.heap.size ≤ bt) (h8 : Below w0.heap.size w0 W) (hi : wi < n) (hv : (Kd.int .i64).R 2 W w0.heap.size (fun _ => True) v q) :
    LS w0 (W.setCell ⟨gp, wi, none⟩ v) g bw bi bt wl ts ms (parts.set wi q) T nt ∧ KeepM bt W (W.setCell ⟨gp, wi, none⟩ v) ∧ KeepT [58] W (W.setCell ⟨gp, wi, none⟩ v) := by
  obtain ⟨cells, hc⟩ := Kd.R_typed h3 gp rfl
  have hb : w0.heap.size ≤ gp := Kd.R_base h3 gp rfl
  have hr := parts_set h3 hi (Kd.R_mono (Kd.R_types hv hc (by decide)) (fun k hk => hk.2))
  obtain ⟨A, c, e⟩ := Kd.R_slice hr.1
  refine ⟨⟨vt, vm, _, Aw, cw, blk_far (p := ⟨gp, wi, none⟩) hg (blk_ne hg hc (by decide)) v, Kd.R_set h1 hc (by decide) wi v, Kd.R_set h2 hc (by decide) wi v, hr.1, h4.same (Below.heap_setCell W ⟨gp, wi, none⟩ v bt (h4.ne_cells hc)), h5, h6, h7, h8.setCell hb v⟩, KeepM.of_set hc wi v, KeepT.of_set hc (by decide) wi v⟩
theorem MapR.grown {P : Program} {κ ε : Type} {M : MK P κ ε} {W W1 : World} {b r n : Nat} {F : κ → Option ε} {left : κ → Bool} {cnt : Nat} (h : MapR M W b r n F left cnt) {row : Option Nat} (hg : W.grownBy W1 row) (hty : ∀ k, row = some k → ∃ cells e, W.heap[k]? = some (.cells cells e (0, 0))) : MapR M W1 b r n F left cnt := by
  have h0 := h
  obtain ⟨D, L, ⟨es, clock, since, seen, c0, hb, _, _, _, hr, _⟩, _, _⟩ := h
  refine h0.kept hg (fun e => ?_) (fun e => ?_)
  · obtain ⟨cells, t, hc⟩ := hty b e.symm
    rw [hb] at hc; cases hc
  · obtain ⟨cells, t, hc⟩ := hty r e.symm
    rw [hr] at hc; cases hc
def T31r1 : Bool × List (List Nat × List Nat) := (true, [([], []), ([], []), ([], []), ([1, 2], [1, 2]), ([], []), ([4], [4]), ([5], [5]), ([6], [6]), ([7], [7]), ([8], [8]), ([9], [9]), ([10], [10]), ([3, 11], [3, 11]), ([0, 12, 3], [0, 12]), ([13, 13, 0, 1, 2, 3, 4, 5, 6, 7, 8, 9, 10, 11, 12, 13], [13])])
def B31r1 : List Nat := [0, 0, 0, 6, 0, 16, 48, 112, 240, 496, 1008, 2032, 4094, 8191, 16383]
theorem tab31r1 : rtab .any (opsOf Try.f31 1) = T31r1 := by kernel_rfl
theorem bits31r1 : waitsOk T31r1.2 B31r1 = true := by kernel_rfl
def T31r2 : Bool × List (List Nat × List Nat) := (true, [([], []), ([], []), ([1], [1]), ([2], [2]), ([3], [3]), ([4], [4]), ([], []), ([6], [6]), ([], []), ([8], [8]), ([], []), ([7, 9, 10], [7, 9, 10]), ([11], [11]), ([5, 12], [5, 12]), ([0, 0, 1, 2, 3, 4, 5, 6, 7, 8, 9, 10, 11, 12, 13], [0]), ([14, 0, 1, 2, 3, 4, 5, 6, 7, 8, 9, 10, 11, 12, 13], [14]), ([15, 0, 1, 2, 3, 4, 5, 6, 7, 8, 9, 10, 11, 12, 13], [15]), ([16, 13, 13, 0, 1, 2, 3, 4, 5, 6, 7, 8, 9, 10, 11, 12, 13], [13, 16])])
def B31r2 : List Nat := [0, 0, 2, 6, 14, 30, 0, 64, 0, 256, 0, 1984, 4032, 8190, 16383, 32767, 65535, 131071]
theorem tab31r2 : rtab .any (opsOf Try.f31 2) = T31r2 := by kernel_rfl
theorem bits31r2 : waitsOk T31r2.2 B31r2 = true := by kernel_rfl
def T31r4 : Bool × List (List Nat × List Nat) := (true, [([], []), ([0], [0]), ([1], [1]), ([2], [2]), ([], []), ([3, 4], [3, 4]), ([5], [5])])
def B31r4 : List Nat := [0, 1, 3, 7, 0, 31, 63]
theorem tab31r4 : rtab .any (opsOf Try.f31 4) = T31r4 := by kernel_rfl
theorem bits31r4 : waitsOk T31r4.2 B31r4 = true := by kernel_rfl
def T31r12 : Bool × List (List Nat × List Nat) := (true, [([], []), ([0], [0]), ([1], [1]), ([2], [2]), ([], []), ([], []), ([5], [5]), ([6], [6]), ([7], [7]), ([], []), ([8, 9], [8, 9]), ([10], [10]), ([], []), ([], []), ([11, 12, 13], [11, 12, 13]), ([3, 4, 0, 1, 2, 3, 4, 5, 6, 7, 8, 9, 10, 11, 12, 13, 14], [3, 4]), ([15, 14, 14, 0, 1, 2, 3, 4, 5, 6, 7, 8, 9, 10, 11, 12, 13, 14], [14, 15])])
def B31r12 : List Nat := [0, 1, 3, 7, 0, 0, 32, 96, 224, 0, 992, 2016, 0, 0, 16352, 32767, 65535]
theorem tab31r12 : rtab .any (opsOf Try.f31 12) = T31r12 := by kernel_rfl
theorem bits31r12 : waitsOk T31r12.2 B31r12 = true := by kernel_rfl
set_option maxHeartbeats 8000000 in
set_option maxRecDepth 100000 in
theorem merge_calls {w0 W : World} {g bw bi bt nt m : Nat} {wl : List S68} {ts : List S43} {ms : List S38} {parts : List (List Int)} {T : ByteArray → Option Int} (hS : LS w0 W g bw bi bt wl ts ms parts T nt) (hC : CM W bw bi bt m (nsOf wl) (cps parts) w0.heap.size)
    (a b : Int) (a0 : 0 ≤ a) (a1 : a < ts.length) (b0 : 0 ≤ b) (b1 : b < ts.length) (hw : (wt (nsOf wl) (cps parts) (a, b)).isSome = true) (hl : ∀ i : Int, (rd_T43 ts i).f0.length ≤ 1000000) (hlen : ts.length ≤ 1000000 ∧ ms.length ≤ 1000000 ∧ wl.length ≤ 1000 ∧ wl.length = parts.length)
    (hn : nt < 1000000000000) (hm : m + 40000000 < 1000000000000) (hN : ∀ n ∈ nsOf wl, (1 : Int) ≤ n ∧ n ≤ 4294967296) (ht : tot parts ≤ 16384) (hp : ∀ i, ∀ x ∈ parts.getD i [], 0 ≤ x ∧ x < (ts.length : Int))
    (hsc0 : (floatBits .sub .f64 0 (floatOfInt .f64 (ms.length : Int))).isSome = true) (tab : List Int) (htab : tab = (rd_T43 ts a).f0 ++ (rd_T43 ts b).f0) (sc : Nat) (hsc1 : sc = (floatBits .sub .f64 0 (floatOfInt .f64 (ms.length : Int))).getD 0) :
    Calls Try.prog 31 #[.pointer (some ⟨g, 0, none⟩), .agg #[.int .i64 a, .int .i64 b]] W fun e w' => e = .returned (.tuple #[]) ∧ LS w0 w' g bw bi bt wl (ts ++ [⟨tab, sc, false⟩]) (ms ++ [⟨a, b, ts.length⟩]) (parts.map (fun p => mgd p a b ts.length)) (upd T (strOfNums tab) (some (ts.length : Int))) (nt + 1) ∧
      CM w' bw bi bt (m + 40000000) (nsOf wl) (cps (parts.map (fun p => mgd p a b ts.length))) w0.heap.size := by
  have HS := Aside0.mk hS; have HC := Aside0.mk hC
  have HAB := Aside0.mk (And.intro a0 (And.intro a1 (And.intro b0 b1)))
  have HW := Aside0.mk hw; have HL := Aside0.mk hlen; have HLI := Aside0.mk hl
  have HN := Aside0.mk (show nt < maxLen from by unfold maxLen; omega)
  have HM := Aside0.mk hm; have HNS := Aside0.mk hN; have HT := Aside0.mk ht; have HP := Aside0.mk hp
  have HZ := Aside0.mk (show (strOfNums tab).size ≤ maxLen from by rw [str_size, htab, List.length_append]; have := hl a; have := hl b; unfold maxLen; omega)
  have hsc : (floatBits .sub .f64 0 (floatOfInt .f64 (ms.length : Int))).getD 0 = sc := hsc1.symm
  have HTAB := Aside0.mk htab; clear hS hC hw hlen hl hn hm hN ht hp hsc1 htab
  go_enter Try.func31, Try.ntmps31
  go_upto_region 1 with (fail)
  have hb1 : Below W.heap.size W (W.alloc (.cells #[.int .i64 a, .int .i64 b] 79 (0, 0))) := below_alloc (Below.refl _ _) _
  have bk_ := blk_new W (.cells #[.int .i64 a, .int .i64 b] 79 (0, 0))
  obtain ⟨bk, hbk⟩ : ∃ bk, bk = W.heap.size := ⟨_, rfl⟩
  rw [← hbk] at bk_
  try rw [← hbk]
  generalize W.alloc (.cells #[.int .i64 a, .int .i64 b] 79 (0, 0)) = W1 at hb1 bk_ ⊢
  have HS1 := Aside0.mk (HS.out.below hb1)
  have HC1 := Aside0.mk (HC.out.keep (KeepM.of_below hb1))
  have BK1 := Aside0.mk bk_
  have k0 := blk_cell bk_ 0
  have k1 := blk_cell bk_ 1
  simp only [List.getElem?_toArray, List.getElem?_cons_zero, List.getElem?_cons_succ] at k0 k1
  obtain ⟨vt1, vm1, vp1, Aw1, cw1, hg1, h11, h12, -⟩ := HS1.out
  obtain ⟨At1, ct1, e⟩ := Kd.R_slice h11
  subst e
  obtain ⟨Am, cm, e⟩ := Kd.R_slice h12
  subst e
  have y1 := blk_cell hg1 1
  simp only [List.getElem?_toArray, List.getElem?_cons_zero, List.getElem?_cons_succ] at y1
  have BY := Aside0.mk (fun (W' : World) (hW : Below W1.heap.size W1 W') => bytesOf_calls g ct1 At1 ts _ _ _ _ _ _ a b HAB.out.1 HAB.out.2.1 HAB.out.2.2.1 HAB.out.2.2.2 ⟨HLI.out a, HLI.out b⟩ W' (blk_below hg1 hW) (Kd.C_below (Kd.R_reads' h11).2.2 hW))
  rw [← HTAB.out] at BY
  clear hb1 bk_ hbk hg1 h11 h12 HS HC
  have hBV : Below W1.heap.size W1 W1.drew := below_drew1 (Below.refl _ _)
  refine start_ (n := 15) (S := fun w' => w'.cell? ⟨g, 1, none⟩ = some (.slice Am ms.length cm) ∧ w'.cell? ⟨bk, 0, none⟩ = some (.int .i64 a) ∧ w'.cell? ⟨bk, 1, none⟩ = some (.int .i64 b)) (ds := [13]) (bs_ 15 0) (by kernel_rfl) rfl rfl ⟨pw_cell_below (below_drew1 (Below.refl _ _)) y1, pw_cell_below (below_drew1 (Below.refl _ _)) k0, pw_cell_below (below_drew1 (Below.refl _ _)) k1⟩ (fun hHeld => ?_); refine with_tabW tab31r1 bits31r1 (fun HT_ HW_ => ?_)
  generalize W1.drew = V1 at hBV hHeld ⊢
  refine pu_ 0 9 (bs_ 15 1) ?_; refine pu_ 1 10 (bs_ 15 3) ?_; refine tk_ 2 11 (bs_ 15 7) ?_; refine pu_ 4 13 (bs_ 15 23) ?_; refine pu_ 5 14 (bs_ 15 55) ?_; refine pu_ 6 15 (bs_ 15 119) ?_; refine pu_ 7 16 (bs_ 15 247) ?_; refine tk_ 8 17 (bs_ 15 503) ?_; refine pu_ 9 18 (bs_ 15 1015) ?_
  refine pure_ (i := 10) (N := some 19) (v := ?_) (a' := ?_) (bs_ 15 2039) rfl rfl (any_of HT_.out (by kernel_rfl)) (fun _ _ _ h => h) (Or.inl ⟨by rfl, ?_⟩) ?_ ?_
  rotate_left
  · intro w'
    first | (go_simp; with_reducible rfl) | (go_simp; rfl)
  rotate_left
  · simp only [Act.put, List.setIfInBounds_toArray, List.set_cons_zero, List.set_cons_succ, i64_w, i32_w]
    rfl
  refine pure_ (i := 11) (N := some 20) (v := ?_) (a' := ?_) (bs_ 15 4087) rfl rfl (any_of HT_.out (by kernel_rfl)) (fun _ _ _ h => h) (Or.inl ⟨by rfl, ?_⟩) ?_ ?_
  rotate_left
  · intro w'
    first | (go_simp; rw [hsc]; with_reducible rfl) | (go_simp; rw [hsc]; rfl) | (go_simp; rfl)
  rotate_left
  · simp only [Act.put, List.setIfInBounds_toArray, List.set_cons_zero, List.set_cons_succ, i64_w, i32_w]
    rfl
  refine one_ (i := 3) (N := some 12) (bs_ 15 4095) rfl rfl (one_of HT_.out (by kernel_rfl)) (by decide) (fun K hK => ?_)
  refine goes_ Try.func53 (by kernel_rfl) rfl #[.pointer (some ⟨g, 0, none⟩), .agg #[.int .i64 a, .int .i64 b]] (by rfl) rfl rfl (by (try simp only [List.map_toArray, List.map_cons, List.map_nil]); first | done | rfl) ?_
  refine (BY.out V1 hBV).mono ?_
  rintro e w2 ⟨v, rfl, ho, hb⟩
  obtain ⟨Av, cv, hv⟩ := Kd.R_slice ho
  subst hv; have O2 := Aside0.mk ho
  have K2 := Aside0.mk (below_two hBV hb)
  clear ho hb
  refine ⟨_, rfl, ?_⟩
  refine hK.out _ _ ⟨pw_cell_below K2.out y1, pw_cell_below K2.out k0, pw_cell_below K2.out k1⟩ (fun hHeld => ?_)
  clear hK K
  refine norm_ (a' := ?_) ?_ ?_
  rotate_left
  · show Act.put _ (some 12) _ = _
    simp only [Act.put, List.setIfInBounds_toArray, List.set_cons_zero, List.set_cons_succ, i64_w, i32_w]
    rfl
  refine pu_ 12 21 (bs_ 15 8191) ?_
  refine last_ (i := 13) (N := some 22) (bs_ 15 16383) rfl rfl (one_of HT_.out (by kernel_rfl)) (by decide) (fun K hK => ?_)
  refine goes_ Try.func32 (by kernel_rfl) rfl #[.pointer (some ⟨g, 0, none⟩), .agg #[.slice Av tab.length cv, .float .f64 sc, .bool false]] (by rfl) rfl rfl (by (try simp only [List.map_toArray, List.map_cons, List.map_nil]); first | done | rfl) ?_
  refine (put_calls (HS1.out.below K2.out) _ tab sc false (Kd.R_lower O2.out (Nat.le_trans HS1.out.base hBV.size)) (by have := HL.out.1; omega) HZ.out HN.out).mono ?_
  rintro e w3 ⟨rfl, hs3, hm3, hz3, ht3⟩
  refine ⟨_, rfl, ?_⟩
  refine hK.out _ _ ?_
  clear hK K
  refine norm_ (a' := ?_) ?_ ?_
  rotate_left
  · show Act.put _ (some 22) _ = _
    simp only [Act.put, List.setIfInBounds_toArray, List.set_cons_zero, List.set_cons_succ, i64_w, i32_w]
    rfl
  refine pu_ 14 4 (bs_ 15 32767) ?_
  refine done_ (done_of HT_.out (by kernel_rfl)) ?_
  have HS3 := Aside0.mk hs3
  have HC3 := Aside0.mk (HC1.out.keep ((KeepM.of_below K2.out).trans hm3))
  have BK3 := Aside0.mk (ht3.blk (blk_below BK1.out K2.out) (by decide))
  clear hs3 hm3 hz3 ht3 hBV hHeld HS1 HC1 BK1 BY O2 K2 k0 k1 y1 hsc hsc0
  obtain ⟨vt3, vm3, vp3, Aw3, cw3, hg3, h31, h32, h33, h34, h35, h36, h37, h38⟩ := HS3.out
  obtain ⟨Am3, cm3, e⟩ := Kd.R_slice h32
  subst e; have BG3 := Aside0.mk hg3; have M3 := Aside0.mk h32; have HB3 := Aside0.mk h38; have TOK3 := Aside0.mk h31; have PAR3 := Aside0.mk h33; have MAP3 := Aside0.mk h34
  have WRD3 := Aside0.mk (And.intro h35 (And.intro h36 h37))
  have y1 := blk_cell hg3 1
  have k0 := blk_cell BK3.out 0
  have k1 := blk_cell BK3.out 1
  simp only [List.getElem?_toArray, List.getElem?_cons_zero, List.getElem?_cons_succ] at y1 k0 k1
  clear hg3 h31 h32 h33 h34 h35 h36 h37 h38 HS3
  go_upto_region 2 with (fail)
  have hBV : Below w3.heap.size w3 w3.drew := below_drew1 (Below.refl _ _)
  refine start_ (n := 18) (S := fun w' => w'.cell? ⟨g, 1, none⟩ = some (.slice Am3 ms.length cm3) ∧ w'.cell? ⟨bk, 0, none⟩ = some (.int .i64 a) ∧ w'.cell? ⟨bk, 1, none⟩ = some (.int .i64 b)) (ds := [13, 17]) (bs_ 18 0) (by kernel_rfl) rfl rfl ⟨pw_cell_below (below_drew1 (Below.refl _ _)) y1, pw_cell_below (below_drew1 (Below.refl _ _)) k0, pw_cell_below (below_drew1 (Below.refl _ _)) k1⟩ (fun hHeld => ?_); refine with_tabW tab31r2 bits31r2 (fun HT_ HW_ => ?_)
  generalize w3.drew = V2 at hBV hHeld ⊢
  refine pu_ 0 23 (bs_ 18 1) ?_; refine pu_ 1 24 (bs_ 18 3) ?_; refine pu_ 2 25 (bs_ 18 7) ?_; refine pu_ 3 26 (bs_ 18 15) ?_; refine pu_ 4 27 (bs_ 18 31) ?_; refine tk_ 5 28 (bs_ 18 63) ?_; refine pu_ 6 29 (bs_ 18 127) ?_; refine tk_ 7 30 (bs_ 18 255) ?_; refine pu_ 8 31 (bs_ 18 511) ?_; refine tk_ 9 32 (bs_ 18 1023) ?_; refine pu_ 10 33 (bs_ 18 2047) ?_; refine pu_ 11 34 (bs_ 18 4095) ?_
  refine one_ (i := 12) (N := some 35) (bs_ 18 8191) rfl rfl (one_of HT_.out (by kernel_rfl)) (by decide) (fun K hK => ?_)
  refine value_ (w1 := ?_) (v := ?_) (by rfl) rfl ?_ ?_
  rotate_left 2
  · go_simp
    constructor
    · rfl
    · rfl
  refine hK.out _ _ ⟨pw_cell_below (below_alloc hBV _) y1, pw_cell_below (below_alloc hBV _) k0, pw_cell_below (below_alloc hBV _) k1⟩ (fun hHeld => ?_)
  clear hK K
  refine norm_ (a' := ?_) ?_ ?_
  rotate_left
  · show Act.put _ (some 35) _ = _
    simp only [Act.put, List.setIfInBounds_toArray, List.set_cons_zero, List.set_cons_succ, i64_w, i32_w]
    rfl
  refine last_ (i := 13) (N := some 36) (bs_ 18 16383) rfl rfl (one_of HT_.out (by kernel_rfl)) (by decide) (fun K hK => ?_)
  refine Kd.R_append_step k38 (w0 := w0) w0.heap.size (by rfl) (.tmp 28) (.tmp 35) 28 38 (.agg #[.int .i64 0, .int .i64 0, .int .i64 0]) 24 rfl Try.underlying28 info38 rfl (by decide) (by omega) (.slice Am3 ms.length cm3) ms (⟨a, b, (ts.length : Int)⟩ : S38) [.int .i64 a, .int .i64 b, .int .i64 ts.length] (fun _ => True) (fun k => False) (by rfl) (by rfl) ?aP (fun _ h => h.elim) (fun k hk => trivial) ?aO ?aB ?aS ?aL ?_
  (case aP => exact k38_mkM _ _ _ (⟨a, b, (ts.length : Int)⟩ : S38))
  (case aO => exact Kd.R_below M3.out hBV)
  (case aB => exact HB3.out.trans (hBV.mono HB3.out.size))
  (case aS => exact (HB3.out.trans (hBV.mono HB3.out.size)).size)
  (case aL => have := HL.out; omega)
  intro v4 w4 ho hb hg_ hat
  generalize htl : ms ++ [(⟨a, b, (ts.length : Int)⟩ : S38)] = ml at ho ⊢
  have HML := Aside0.mk htl; clear htl
  obtain ⟨A4, c4, hv4⟩ := Kd.R_slice ho
  subst hv4
  have BG4 := Aside0.mk (blk_grown (blk_below BG3.out hBV) hg_ (Kd.R_ne (Kd.R_below M3.out hBV) (blk_below BG3.out hBV) (by decide)))
  have O4 := Aside0.mk ho; have HB4 := Aside0.mk hb
  have HTY := Aside0.mk (Kd.R_typed (Kd.R_below M3.out hBV))
  have HG4 := Aside0.mk hg_; clear ho hb hg_ hat
  refine hK.out _ _ ?_
  clear hK K
  refine norm_ (a' := ?_) ?_ ?_
  rotate_left
  · show Act.put _ (some 36) _ = _
    simp only [Act.put, List.setIfInBounds_toArray, List.set_cons_zero, List.set_cons_succ, i64_w, i32_w]
    rfl
  refine pu_ 14 37 (bs_ 18 32767) ?_; refine pu_ 15 38 (bs_ 18 65535) ?_; refine pu_ 16 39 (bs_ 18 131071) ?_
  refine last_ (i := 17) (N := none) (bs_ 18 262143) rfl rfl (one_of HT_.out (by kernel_rfl)) (by decide) (fun K hK => ?_)
  have zz := blk_frozen BG4.out 1
  have f9 := blk_cell BG4.out 1
  simp only [List.getElem?_toArray, List.getElem?_cons_zero, List.getElem?_cons_succ] at f9
  refine skip_ (w1 := ?_) (by rfl) rfl ?_ ?_
  rotate_left
  · go_simp
    rfl
  refine hK.out _ _ ?_
  clear hK K
  refine done_ (done_of HT_.out (by kernel_rfl)) ?_
  clear zz f9 y1 k0 k1 hHeld
  have b5 := (blk_set BG4.out 1 (.slice A4 ml.length c4)).trans (show _ = some (Obj.cells #[vt3, .slice A4 ml.length c4, .slice Aw3 wl.length cw3, vp3, .map (some bw), .map (some bi), .map (some bt)] 77 (0, 0)) from by simp)
  have m5 := Kd.R_set O4.out BG4.out (by decide) 1 (.slice A4 ml.length c4)
  have t5 := Kd.R_set (Kd.R_over' (Kd.R_below TOK3.out hBV) HTY.out (by decide) HG4.out) BG4.out (by decide) 1 (.slice A4 ml.length c4)
  have p5 := Kd.R_set (Kd.R_over' (Kd.R_below PAR3.out hBV) HTY.out (by decide) HG4.out) BG4.out (by decide) 1 (.slice A4 ml.length c4)
  have kt5 : KeepT [77, 38] w3 (w4.setCell ⟨g, 1, none⟩ (.slice A4 ml.length c4)) := ((KeepT.of_below hBV).trans (KeepT.of_grown HG4.out HTY.out (by decide))).trans (KeepT.of_set BG4.out (by decide) 1 _)
  have km5 : ∀ bt', KeepM bt' w3 (w4.setCell ⟨g, 1, none⟩ (.slice A4 ml.length c4)) := fun bt' => ((KeepM.of_below hBV).trans (KeepM.of_grown HG4.out (fun k hk => by obtain ⟨cells, hc⟩ := HTY.out k hk; exact ⟨cells, _, hc⟩))).trans (KeepM.of_set BG4.out 1 _)
  have s5 : MapF MS (w4.setCell ⟨g, 1, none⟩ (.slice A4 ml.length c4)) bt (nt + 1) (upd T (strOfNums tab) (some (ts.length : Int))) := by
    obtain ⟨es, cl, he⟩ := MAP3.out.map
    exact MAP3.out.same (km5 (bt + 1) bt es cl he (by omega))
  have hb5 : Below w0.heap.size w0 (w4.setCell ⟨g, 1, none⟩ (.slice A4 ml.length c4)) := HB4.out.setCell WRD3.out.2.1 _
  have HC5 := Aside0.mk (HC3.out.keep (km5 bt))
  have BK5 := Aside0.mk (kt5.blk BK3.out (by decide))
  have HS5 := Aside0.mk (show LS w0 (w4.setCell ⟨g, 1, none⟩ (.slice A4 ml.length c4)) g bw bi bt wl (ts ++ [⟨tab, sc, false⟩]) ml parts (upd T (strOfNums tab) (some (ts.length : Int))) (nt + 1) from ⟨_, _, _, _, _, b5, t5, m5, p5, s5, WRD3.out.1, WRD3.out.2.1, WRD3.out.2.2, hb5⟩)
  clear b5 m5 t5 p5 kt5 km5 s5 hb5 hBV HC3 BK3 BG3 M3 HB3 TOK3 PAR3 MAP3 WRD3 BG4 O4 HB4 HTY HG4
  generalize w4.setCell ⟨g, 1, none⟩ (.slice A4 ml.length c4) = W5 at *
  obtain ⟨Q, hq⟩ := HC5.out
  obtain ⟨sv, hsv⟩ := Option.isSome_iff_exists.1 HW.out
  have hko : MI.ok (a, b) := ⟨by have := HAB.out; have := HL.out; show W64 a; unfold W64; omega, by have := HAB.out; have := HL.out; show W64 b; unfold W64; omega⟩
  obtain ⟨q, a1, a2, a3, a4, a5, a6⟩ := hq.2.2.2.2.1 (a, b) sv hko hsv
  have MQ := Aside0.mk a6
  have LQ : ∀ W' : World, Below W5.heap.size W5 W' → (Instr.lookup 74 (.map (some bi)) (.agg #[.int .i64 a, .int .i64 b]) false).run Try.prog W' = .ok (.map (some q)) W' := fun W' hW => by
    have h_ := (hq.2.1.below hW).look (x := (a, b)) hko
    rw [a1] at h_
    exact h_
  have NQ := Aside0.mk (And.intro a2 (And.intro a3 a4))
  clear hq hsv hko a1 a2 a3 a4 a5 a6
  obtain ⟨vt5, vm5, vp5, Aw5, cw5, hg5, -⟩ := HS5.out
  have y5 := blk_cell hg5 5
  have k0 := blk_cell BK5.out 0
  have k1 := blk_cell BK5.out 1
  simp only [List.getElem?_toArray, List.getElem?_cons_zero, List.getElem?_cons_succ] at y5 k0 k1
  clear hg5
  go_upto_region 4 with (fail)
  have hBV : Below W5.heap.size W5 W5.drew := below_drew1 (Below.refl _ _)
  refine start_ (n := 7) (S := fun w' => w'.cell? ⟨g, 5, none⟩ = some (.map (some bi)) ∧ w'.cell? ⟨bk, 0, none⟩ = some (.int .i64 a) ∧ w'.cell? ⟨bk, 1, none⟩ = some (.int .i64 b) ∧ (Instr.lookup 74 (.map (some bi)) (.agg #[.int .i64 a, .int .i64 b]) false).run Try.prog w' = .ok (.map (some q)) w') (ds := [6]) (bs_ 7 0) (by kernel_rfl) rfl rfl ⟨pw_cell_below (below_drew1 (Below.refl _ _)) y5, pw_cell_below (below_drew1 (Below.refl _ _)) k0, pw_cell_below (below_drew1 (Below.refl _ _)) k1, LQ _ (below_drew1 (Below.refl _ _))⟩ (fun hHeld => ?_); refine with_tabW tab31r4 bits31r4 (fun HT_ HW_ => ?_)
  generalize W5.drew = V4 at hBV hHeld ⊢
  refine pu_ 0 40 (bs_ 7 1) ?_; refine pu_ 1 41 (bs_ 7 3) ?_; refine pu_ 2 42 (bs_ 7 7) ?_; refine tk_ 3 43 (bs_ 7 15) ?_; refine tk_ 4 44 (bs_ 7 31) ?_; refine tk_ 5 45 (bs_ 7 63) ?_
  refine last_ (i := 6) (N := some 46) (bs_ 7 127) rfl rfl (one_of HT_.out (by kernel_rfl)) (by decide) (fun K hK => ?_)
  obtain ⟨w6, cn, hrun, hR6, hg6, hs6⟩ := (MQ.out.below hBV).range
  have hrun2 : (Instr.range 111 (.map (some q))).run Try.prog V4 = .ok (.pointer (some ⟨V4.heap.size, 0, none⟩)) w6 := hrun
  refine value_ (w1 := ?_) (v := ?_) (by rfl) rfl ?_ ?_
  rotate_left 2
  · go_simp
    constructor
    · rfl
    · rfl
  refine hK.out _ _ ?_
  clear hK K
  refine norm_ (a' := ?_) ?_ ?_
  rotate_left
  · show Act.put _ (some 46) _ = _
    simp only [Act.put, List.setIfInBounds_toArray, List.set_cons_zero, List.set_cons_succ, i64_w, i32_w]
    rfl
  refine done_ (done_of HT_.out (by kernel_rfl)) ?_
  obtain ⟨r, hr⟩ : ∃ r, r = V4.heap.size := ⟨_, rfl⟩
  rw [← hr] at hR6 hrun2
  try rw [← hr]
  have R6 := Aside0.mk hR6
  have HB6 := Aside0.mk (show Below W5.heap.size W5 w6 from below_two hBV ⟨hg6.os, hg6.tape, hg6.output, hg6.size, fun i hi => hg6.block i hi (by simp)⟩)
  have NR := Aside0.mk (show W5.heap.size ≤ r from by rw [hr]; exact hBV.size)
  clear hR6 hrun hrun2 hg6 hs6 hr hBV hHeld LQ y5 k0 k1
  obtain ⟨F, hF⟩ : ∃ F, F = inn (nsOf wl) (cps parts) (a, b) := ⟨_, rfl⟩
  rw [← hF] at R6
  have HF := Aside0.mk hF; clear hF
  go_wp2
  go_loopg [5] cn (fun kq v5 w' => ∃ (hs : List Int) (left : Int → Bool) (cn' : Nat), Aside0 (cn' ≤ kq) ∧ Aside0 (MapR MN w' q r m F left cn') ∧ Aside0 ((Kd.int .i64).R 3 w' W5.heap.size (fun _ => True) v5 hs) ∧ Aside0 (Below W5.heap.size W5 w') ∧ Aside0 (HIT F left hs))
  case atStart =>
    refine ⟨[], _, cn, ⟨Nat.le_refl _⟩, ⟨R6.out⟩, ⟨Kd.R_nil _ _ _ _ _⟩, ⟨HB6.out⟩, ⟨⟨List.nodup_nil, fun x => ?_, fun x h => h⟩⟩⟩
    simp
    intro _ h e
    rw [e] at h
    cases h
  case round =>
    clear R6 HB6
    obtain ⟨hs, left, cn', HCN, HR, HV, HB, HI⟩ := hrel
    obtain ⟨Ah, ch, e⟩ := Kd.R_slice HV.out
    subst e
    go_wp2_with (at_next; refine wp_next (M := MN) (.tmp 46) rfl rfl HR.out HI.out.2.2 rfl ?_ ?_)
    · intro hc0 hl0
      have HH := Aside0.mk (And.intro HI.out.1 (show ∀ x, x ∈ hs ↔ (MN.ok x ∧ (F x).isSome = true) from fun x => by
        rw [HI.out.2.1 x]
        exact ⟨fun h => ⟨h.1, h.2.1⟩, fun h => ⟨h.1, h.2, hl0 x h.1⟩⟩))
      have HIN := Aside0.mk (show ∀ x ∈ hs, 0 ≤ x ∧ x < (wl.length : Int) from fun z hz => by
        have h2 := ((HH.out.2 z).1 hz).2
        rw [HF.out, inn] at h2
        by_cases h3 : 0 ≤ z ∧ z < ((nsOf wl).length : Int) ∧ cps parts z.toNat (a, b) ≠ 0
        · have : (nsOf wl).length = wl.length := by rw [nsOf, List.length_map]
          omega
        · rw [if_neg h3] at h2; cases h2)
      have HLN := Aside0.mk (show hs.length ≤ 1000 from by
        have h1 := nodup_len wl.length hs HH.out.1 HIN.out
        have := HL.out
        omega)
      have HSL := Aside0.mk (HS5.out.below HB.out)
      have HCL := Aside0.mk (HC5.out.keep (KeepM.of_below HB.out))
      have BKL := Aside0.mk (blk_below BK5.out HB.out)
      have HVL := Aside0.mk HV.out
      have HNL := Aside0.mk (show (nsOf wl).length = parts.length from by rw [nsOf, List.length_map]; exact HL.out.2.2.2)
      clear hc0 hl0 HCN HR HV HB HI HS5 HC5 BK5 MQ
      go_wp2
      go_loopg [57] hs.length (fun kq v57 w' => ∃ j : Nat, v57 = .int .i64 (j : Int) ∧ Aside0 (j + kq = hs.length) ∧ Aside0 (LS w0 w' g bw bi bt wl (ts ++ [⟨tab, sc, false⟩]) ml (pmr (hs.take j) a b ts.length 0 parts) (upd T (strOfNums tab) (some (ts.length : Int))) (nt + 1)) ∧
        Aside0 (CM w' bw bi bt (m + j * 40000) (nsOf wl) (cps (pmr (hs.take j) a b ts.length 0 parts)) w0.heap.size) ∧ Aside0 (w'.heap[bk]? = some (.cells #[.int .i64 a, .int .i64 b] 79 (0, 0))) ∧ Aside0 ((Kd.int .i64).R 3 w' W5.heap.size (fun _ => True) (.slice Ah hs.length ch) hs))
      case atStart =>
        refine ⟨0, rfl, ⟨by omega⟩, ⟨?_⟩, ⟨?_⟩, BKL, HVL⟩
        · rw [List.take_zero, pmr_nil]; exact HSL.out
        · rw [List.take_zero, pmr_nil]; exact HCL.out.mono (by omega)
      case round =>
        clear HSL HCL BKL HVL
        obtain ⟨j, rfl, HJ, HSR, HCR, BKR, HVR⟩ := hrel
        cases gk with
        | zero =>
          have c1 := eq_false (show ¬ (j < hs.length) from by have := HJ.out; omega)
          go_wp2
          go_end0
          have ej : hs.take j = hs := List.take_of_length_le (by have := HJ.out; omega)
          have ep : pmr hs a b (ts.length : Int) 0 parts = parts.map (fun p => mgd p a b ts.length) := pmr_all hs a b _ parts (fun n hn hne => by
            by_cases h0 : cp (parts.getD n []) (a, b) = 0
            · exact h0
            · exact absurd ((HH.out.2 (n : Int)).2 ⟨by have := HL.out; show W64 _; unfold W64; omega, by
                rw [HF.out, inn, Int.toNat_natCast, if_pos ⟨by omega, by rw [HNL.out]; omega, h0⟩]
                rfl⟩) hne)
          have h1 := HSR.out; have h2 := HCR.out
          rw [ej, ep] at h1 h2
          rw [HML.out]
          exact ⟨rfl, h1, h2.mono (by have := HLN.out; have := HJ.out; have : j * 40000 ≤ 1000 * 40000 := Nat.mul_le_mul_right _ (by omega); omega)⟩
        | succ k1 =>
          have c1 := eq_true (show j < hs.length from by have := HJ.out; omega)
          obtain ⟨adh, e, xh⟩ := Kd.at_int (Kd.R_reads' HVR.out).2.2 (j : Int) (by omega) (by have := HJ.out; omega)
          subst e
          rw [Int.toNat_natCast] at xh
          have hjl : j < hs.length := by have := HJ.out; omega
          have er : rd hs (j : Int) = hs[j] := by rw [rd, Int.toNat_natCast, List.getD_eq_getElem?_getD, List.getElem?_eq_getElem hjl, Option.getD_some]
          have hmem : hs[j] ∈ hs := List.getElem_mem hjl
          have hin := HIN.out _ hmem
          obtain ⟨wi, hwi⟩ : ∃ wi : Nat, hs[j] = (wi : Int) := ⟨hs[j].toNat, by omega⟩
          rw [er, hwi] at xh
          have htk : hs.take (j + 1) = hs.take j ++ [(wi : Int)] := by rw [List.take_succ_eq_append_getElem hjl, hwi]
          have hni : (wi : Int) ∉ hs.take j := fun hm => by
            have hd := HH.out.1
            rw [← List.take_append_drop (j + 1) hs, htk] at hd
            have := (List.nodup_append.1 (List.nodup_append.1 hd).1).2.2 _ hm _ (List.mem_singleton.2 rfl)
            exact this rfl
          have hwl : wi < wl.length := by rw [hwi] at hin; omega
          have hwp : wi < parts.length := by have := HL.out; omega
          have hst := pmr_step (hs.take j) a b (ts.length : Int) parts (wi : Int) (by omega) (by rw [Int.toNat_natCast]; exact hwp) hni
          rw [← htk, Int.toNat_natCast] at hst
          have hget := pmr_get (hs.take j) a b (ts.length : Int) parts 0 wi
          rw [Nat.zero_add, if_neg hni] at hget
          have hpl := pmr_len (hs.take j) a b (ts.length : Int) parts 0
          have htot : tot (pmr (hs.take j) a b (ts.length : Int) 0 parts) ≤ 16384 := Nat.le_trans (tot_pmr _ _ _ _ _ _) HT.out
          generalize pmr (hs.take j) a b (ts.length : Int) 0 parts = pj at *
          obtain ⟨p, hp⟩ : ∃ p, p = parts.getD wi [] := ⟨_, rfl⟩
          rw [← hp] at hst hget
          obtain ⟨vt, vm, vp, Aw, cw, hg, h1, h2, h3, h4, h5, h6, h7, h8⟩ := HSR.out
          obtain ⟨gp, capp, e, _, _, _⟩ := Kd.R_form h3 (by rw [hpl]; omega)
          subst e
          have hr0 : rd_L9 pj (wi : Int) = pj.getD wi [] := by rw [rd_L9, Int.toNat_natCast]
          have hrp : rd_L9 pj (wi : Int) = p := hr0.trans hget.symm.symm
          have hplen : p.length ≤ 16384 := by have := tot_get parts wi; rw [← hp] at this; have := HT.out; omega
          have hpx : ∀ x ∈ p, 0 ≤ x ∧ x < (ts.length : Int) := fun x hx => HP.out wi x (hp ▸ hx)
          have hjm : m + j * 40000 + 40000 ≤ m + 40000000 := by
            have h9 := HLN.out
            have : (j + 1) * 40000 ≤ 1000 * 40000 := Nat.mul_le_mul_right _ (by omega)
            omega
          have hpjl : (nsOf wl).length = pj.length := by rw [hpl]; exact HNL.out
          have CA := Aside0.mk (count_calls w0.heap.size bt g bw bi (m + j * 40000) vt vm Aw (some ⟨gp, 0, none⟩) cw capp wl pj (cps pj) wi (-1) (.inr rfl) hwl (by rw [hpl]; exact hwp) (fun j' _ => by rw [hr0]; exact okc_less hpjl HNS.out htot wi j')
            (by rw [hrp]; exact fun x hx => by have := hpx x hx; have := HL.out.1; unfold W64; omega) (by rw [hrp]; have := HM.out; omega) (by have := HL.out; omega) (by rw [hpl]; have := HL.out; omega) wr h8.size h4.lt hg (Kd.R_reads' h3).2.2 (Kd.C_below h5 h8) HCR.out)
          rw [hrp] at CA
          have HX := Aside0.mk (And.intro hst (And.intro hget (And.intro hpl (And.intro htot (And.intro hr0 (And.intro hplen (And.intro hpx (And.intro hjm (And.intro hwl (And.intro hwp hpjl))))))))))
          have HLS := Aside0.mk (And.intro hg (And.intro h1 (And.intro h2 (And.intro h3 (And.intro h4 (And.intro h5 (And.intro h6 (And.intro h7 h8))))))))
          have p5 := eq_true (show (0 : Int) ≤ (wi : Int) from by omega)
          have p6 := eq_true (show (wi : Int) < (pj.length : Int) from by rw [hpl]; omega)
          have p7 := eq_true (show wi < pj.length from by rw [hpl]; exact hwp)
          have p8 := eq_true (show (0 : Int) ≤ (j : Int) from by omega)
          have p9 := eq_true (show (j : Int) < (hs.length : Int) from by omega)
          clear hst hget hpl htot hr0 hrp hplen hpx hjm hwl hwp hpjl hg h1 h2 h3 h4 h5 h6 h7 h8 er hmem hin hwi htk hni hp hjl
          go_upto_region 12 with (go_at_call 50; (with_reducible refine CA.out.mono ?_); rintro e w11 ⟨rfl, hk, hc⟩; have K11 := Aside0.mk hk; have C11 := Aside0.mk hc; clear hk hc xh)
          have BK11 := Aside0.mk (K11.out.blk BKR.out)
          have HV11 := Aside0.mk (K11.out.R HVR.out)
          have G11 := Aside0.mk (K11.out.blk HLS.out.1)
          have P11 := Aside0.mk (K11.out.R HLS.out.2.2.2.1)
          obtain ⟨cellsp, hcp⟩ := Kd.R_typed P11.out gp rfl
          have BP11 := Aside0.mk hcp
          obtain ⟨adp, Ax, cx, e, xp, hlp, hxc⟩ := at_L9 (Kd.R_reads' P11.out).2.2 (wi : Int) (by omega) (by rw [HX.out.2.2.1]; have := HX.out.2.2.2.2.2.2.2.2.2.1; omega)
          cases e
          rw [HX.out.2.2.2.2.1, HX.out.2.1, Int.toNat_natCast, add_plain] at xp
          rw [HX.out.2.2.2.2.1, HX.out.2.1] at hlp hxc
          obtain ⟨kj, hev⟩ := joined_ev p a b ts.length (by have := HX.out.2.2.2.2.2.1; omega)
          have JN := Aside0.mk (fun (W' : World) (hW : Below w11.heap.size w11 W') => train_joined.calls kj Ax cx p a b ts.length (mgd p a b ts.length) W' (Kd.C_below hxc hW) hlp hev)
          have y3 := blk_cell G11.out 3
          have k0 := blk_cell BK11.out 0
          have k1 := blk_cell BK11.out 1
          simp only [List.getElem?_toArray, List.getElem?_cons_zero, List.getElem?_cons_succ] at y3 k0 k1
          clear hcp hlp hxc hev
          have hBV : Below w11.heap.size w11 w11.drew := below_drew1 (Below.refl _ _)
          refine start_ (n := 17) (S := fun w' => w'.cell? ⟨g, 3, none⟩ = some (.slice (some ⟨gp, 0, none⟩) pj.length capp) ∧ w'.cell? ⟨gp, wi, none⟩ = some (.slice Ax p.length cx) ∧ w'.cell? ⟨bk, 0, none⟩ = some (.int .i64 a) ∧ w'.cell? ⟨bk, 1, none⟩ = some (.int .i64 b)) (ds := [16]) (bs_ 17 0) (by kernel_rfl) rfl rfl ⟨pw_cell_below (below_drew1 (Below.refl _ _)) y3, pw_cell_below (below_drew1 (Below.refl _ _)) xp, pw_cell_below (below_drew1 (Below.refl _ _)) k0, pw_cell_below (below_drew1 (Below.refl _ _)) k1⟩ (fun hHeld => ?_); refine with_tabW tab31r12 bits31r12 (fun HT_ HW_ => ?_)
          generalize w11.drew = V12 at hBV hHeld ⊢
          refine pu_ 0 64 (bs_ 17 1) ?_; refine pu_ 1 65 (bs_ 17 3) ?_; refine pu_ 2 66 (bs_ 17 7) ?_; refine tk_ 3 67 (bs_ 17 15) ?_; refine pu_ 4 68 (bs_ 17 31) ?_; refine pu_ 5 69 (bs_ 17 63) ?_; refine pu_ 6 70 (bs_ 17 127) ?_; refine pu_ 7 71 (bs_ 17 255) ?_; refine tk_ 8 72 (bs_ 17 511) ?_; refine pu_ 9 73 (bs_ 17 1023) ?_; refine pu_ 10 74 (bs_ 17 2047) ?_; refine tk_ 11 75 (bs_ 17 4095) ?_; refine tk_ 12 76 (bs_ 17 8191) ?_; refine pu_ 13 77 (bs_ 17 16383) ?_
          refine one_ (i := 14) (N := some 78) (bs_ 17 32767) rfl rfl (one_of HT_.out (by kernel_rfl)) (by decide) (fun K hK => ?_)
          refine goes_ Try.func55 (by kernel_rfl) rfl #[.slice Ax p.length cx, .agg #[.int .i64 a, .int .i64 b], .int .i64 ts.length] (by rfl) rfl rfl (by (try simp only [List.map_toArray, List.map_cons, List.map_nil]); first | done | rfl) ?_
          refine (JN.out V12 hBV).mono ?_
          rintro e w12 ⟨v, rfl, ho, hb⟩
          generalize hqd : mgd p a b ts.length = qd at ho
          have HQD := Aside0.mk hqd; clear hqd
          obtain ⟨Aj, cj, hv⟩ := Kd.R_slice ho
          subst hv; have O12 := Aside0.mk ho
          have K12 := Aside0.mk (below_two hBV hb)
          have LV12 := Aside0.mk hBV.size
          clear ho hb
          refine ⟨_, rfl, ?_⟩
          refine hK.out _ _ ⟨pw_cell_below K12.out y3, pw_cell_below K12.out xp, pw_cell_below K12.out k0, pw_cell_below K12.out k1⟩ (fun hHeld => ?_)
          clear hK K
          refine norm_ (a' := ?_) ?_ ?_
          rotate_left
          · show Act.put _ (some 78) _ = _
            simp only [Act.put, List.setIfInBounds_toArray, List.set_cons_zero, List.set_cons_succ, i64_w, i32_w]
            rfl
          refine pu_ 15 79 (bs_ 17 65535) ?_
          refine last_ (i := 16) (N := none) (bs_ 17 131071) rfl rfl (one_of HT_.out (by kernel_rfl)) (by decide) (fun K hK => ?_)
          have zz := blk_frozen (blk_below BP11.out K12.out) wi
          have f9 := pw_cell_below K12.out xp
          refine skip_ (w1 := ?_) (by rfl) rfl ?_ ?_
          rotate_left
          · go_simp
            rfl
          refine hK.out _ _ ?_
          clear hK K
          refine done_ (done_of HT_.out (by kernel_rfl)) ?_
          clear zz f9 y3 xp k0 k1 hHeld JN CA hBV
          have hbase : w0.heap.size ≤ w11.heap.size := Nat.le_trans HSR.out.base K11.out.size
          have kc := KeepC.of_below (bt := bt) hbase K12.out
          have hm4 : MapF MS w12 bt (nt + 1) (upd T (strOfNums tab) (some (ts.length : Int))) := by
            obtain ⟨es, cl, he⟩ := HLS.out.2.2.2.2.1.map
            exact (HLS.out.2.2.2.2.1.same ((K11.out.keep bt _ he (.inr rfl)).trans he.symm)).below K12.out
          have sp := LS.setp (n := pj.length) (cap := capp) (wi := wi) (blk_below G11.out K12.out) (kc.R (K11.out.R HLS.out.2.1)) (kc.R (K11.out.R HLS.out.2.2.1)) (kc.R P11.out) hm4 HLS.out.2.2.2.2.2.1 HLS.out.2.2.2.2.2.2.1 HLS.out.2.2.2.2.2.2.2.1 ((HLS.out.2.2.2.2.2.2.2.2.trans K11.out.below).trans (K12.out.mono hbase)) (by rw [HX.out.2.2.1]; exact HX.out.2.2.2.2.2.2.2.2.2.1) (Kd.R_lower O12.out (Nat.le_trans hbase LV12.out))
          have C13 := Aside0.mk ((C11.out.keep (KeepM.of_below K12.out)).keep sp.2.1)
          have BK13 := Aside0.mk (sp.2.2.blk (blk_below BK11.out K12.out) (by decide))
          have HV13 := Aside0.mk (Kd.R_set (Kd.R_below HV11.out K12.out) (blk_below BP11.out K12.out) (by decide) wi (.slice Aj qd.length cj))
          have HS13 := Aside0.mk sp.1
          clear sp kc hm4 hbase C11 BK11 HV11 G11 P11 BP11 O12 K12 LV12
          generalize w12.setCell ⟨gp, wi, none⟩ (.slice Aj qd.length cj) = W13 at C13 BK13 HV13 HS13 ⊢
          obtain ⟨vt', vm', vp', Aw', cw', hg, h1, h2, h3, h4, h5, h6, h7, h8⟩ := HS13.out
          obtain ⟨Ap', cap', e⟩ := Kd.R_slice h3
          subst e
          have hqp : qd.length ≤ p.length := by rw [← HQD.out]; exact mgd_len _ _ _ _
          have hwpj : wi < pj.length := by rw [HX.out.2.2.1]; exact HX.out.2.2.2.2.2.2.2.2.2.1
          have hr1 : rd_L9 (pj.set wi qd) (wi : Int) = qd := by rw [rd_L9, Int.toNat_natCast, getD_set _ _ _ _ hwpj, if_pos rfl]
          have hts : tot (pj.set wi qd) ≤ 16384 := Nat.le_trans (tot_set pj wi qd (by rw [HX.out.2.1]; exact hqp)) HX.out.2.2.2.1
          have CB := Aside0.mk (count_calls w0.heap.size bt g bw bi (m + j * 40000 + p.length) vt' vm' Aw' Ap' cw' cap' wl (pj.set wi qd) (rowc (cps pj) wi p (-1)) wi 1 (.inl rfl) HX.out.2.2.2.2.2.2.2.2.1 (by rw [List.length_set]; exact hwpj) (fun j' _ => by
              rw [hr1]
              have h9 := okc_more (ns := nsOf wl) HX.out.2.2.2.2.2.2.2.2.2.2 HNS.out wi qd hwpj hts j'
              rw [HX.out.2.1] at h9
              exact h9) (by
              rw [hr1]
              intro x hx
              rw [← HQD.out] at hx
              have h9 := HL.out.1
              rcases mgd_mem p x hx with h | h
              · have := HX.out.2.2.2.2.2.2.1 x h; unfold W64; omega
              · rw [h]; unfold W64; omega) (by rw [hr1]; have := HX.out.2.2.2.2.2.1; have := HX.out.2.2.2.2.2.2.2.1; have := HM.out; omega) (by have := HL.out; omega) (by rw [List.length_set, HX.out.2.2.1]; have := HL.out; omega) W13 h8.size h4.lt hg (Kd.R_reads' h3).2.2 (Kd.C_below h5 h8) C13.out)
          rw [hr1] at CB
          have HB14 := Aside0.mk (show m + j * 40000 + p.length + qd.length ≤ m + (j + 1) * 40000 from by have := HX.out.2.2.2.2.2.1; rw [Nat.succ_mul]; omega)
          clear hg h1 h2 h3 h4 h5 h6 h7 h8 hqp hr1 hts
          have hct := cps_turn pj wi qd hwpj
          rw [HX.out.2.1] at hct
          have HCT := Aside0.mk hct; clear hct hwpj
          have hwj : wrap64 ((j : Int) + 1) = (j : Int) + 1 := by have := HJ.out; have := HLN.out; unfold wrap64; omega
          go_wp2_with (go_at_call 50; (with_reducible refine CB.out.mono ?_); rintro e w14 ⟨rfl, hk, hc⟩; have K14 := Aside0.mk hk; have C14 := Aside0.mk hc; clear hk hc)
          go_roundg k1
          case measure => omega
          exact ⟨j + 1, by rw [hwj]; push_cast; rfl, ⟨by have := HJ.out; omega⟩, ⟨by rw [HX.out.1, HQD.out]; exact HS13.out.keep K14.out⟩, ⟨by rw [HX.out.1, HQD.out, ← HCT.out]; exact C14.out.mono HB14.out⟩, ⟨K14.out.blk BK13.out⟩, ⟨K14.out.R HV13.out⟩⟩
    · intro x y w7 cn7 hxo hyo hlx hFx hrg7 hlt hgr7 hsz7 hen
      obtain ⟨k1, rfl⟩ : ∃ k1, gk = k1 + 1 := ⟨gk - 1, by have := HCN.out; omega⟩
      have ek : MN.kv x = .int .i64 x := rfl
      have ev : MN.ev y = .int .i64 y := rfl
      rw [ek, ev] at hen
      rw [ek, ev]
      clear ek ev; have R7 := Aside0.mk hrg7
      have HI7 := Aside0.mk (HI.out.step hxo hFx hlx)
      have HCN7 := Aside0.mk (show cn7 ≤ k1 from by have := HCN.out; omega)
      have HB7 := Aside0.mk (HB.out.grown hgr7 HB.out.size (fun j hj => by cases hj; exact NR.out))
      have HV7 := Aside0.mk (Kd.R_grown (row := some r) (Kd.R_mono (Kd.R_bound HV.out) (ok' := fun k => k ≠ r) (fun k hk => by
        obtain ⟨_, _, _, q', _, cells, hc⟩ := hk
        rintro rfl
        obtain ⟨D, L, ⟨es, clock, since, seen, c0, _, _, _, _, hri, _⟩, _, _⟩ := HR.out
        rw [hri] at hc
        cases hc)) hgr7 (fun k hk => by simpa using hk))
      have HLN := Aside0.mk (show hs.length ≤ 1000 from by
        have h1 := nodup_len wl.length hs HI.out.1 (fun z hz => by
          have h2 := ((HI.out.2.1 z).1 hz).2.1
          rw [HF.out, inn] at h2
          by_cases h3 : 0 ≤ z ∧ z < ((nsOf wl).length : Int) ∧ cps parts z.toNat (a, b) ≠ 0
          · have : (nsOf wl).length = wl.length := by rw [nsOf, List.length_map]
            omega
          · rw [if_neg h3] at h2; cases h2)
        have := HL.out
        omega)
      clear hxo hyo hlx hFx hrg7 hlt hgr7 hsz7
      go_wp2_with ((with_reducible refine gate_builtin (b := .append) (xs := #[.tmp 51, .tmp 53]) rfl ?_); at_builtin; refine Kd.R_append (Kd.int .i64) (w0 := W5) W5.heap.size rfl (.tmp 51) (.tmp 53) 110 3 (.int .i64 0) 8 rfl Try.underlying110 info3 rfl (by decide) (by omega) (.slice Ah hs.length ch) hs x [.int .i64 x] (fun _ => True) (fun _ => False) rfl rfl ?aP (fun _ hk => hk.elim) ?aF ?aO ?aB ?aS ?aL ?_; (case aP => exact rfl); (case aF => exact fun _ _ => trivial); (case aO => exact Kd.R_mono HV7.out (fun _ _ => trivial)); (case aB => exact HB7.out); (case aS => exact HB7.out.size); (case aL => have := HLN.out; omega); intro v8 w8 ho hb hg hat; have O8 := Aside0.mk ho; have HB8 := Aside0.mk hb; have G8 := Aside0.mk hg; clear ho hb hg hat hen)
      go_roundg k1
      case measure => omega
      exact ⟨hs ++ [x], _, cn7, HCN7, ⟨MapR.grown R7.out G8.out (fun k hk => by obtain ⟨cells, hc⟩ := Kd.R_typed HV7.out k hk; exact ⟨cells, _, hc⟩)⟩, O8, HB8, HI7⟩
end Go.Proofs.Ytkdegcpfjfgajaa.X
