/- checker.check: its contract. No condition but the checker's own. -/
import Derived.Test.YtlgagppdipdkeaaXMeV
import Derived.Test.YtlgagppdipdkeaaXAlV
namespace Go.Proofs.Ytlgagppdipdkeaa.X
open Go.RowKit Go.Maps Go.Proofs.YtlgagppdipdkeaaW.PrintWords Go.Proofs.YtlgagppdipdkeaaW.PrintLast Go.Proofs.YtlgagppdipdkeaaW.PrintMore Go.Proofs.Ytlgagppdipdkeaa.Q
attribute [local go_sem] Go.Proofs.Ytlgagppdipdkeaa.Fl.run_store_float
set_option linter.unusedVariables false
set_option linter.unusedSimpArgs false
/-- The first token from i on, of d, with an error, and that; or which bytes there are behind all. -/
def tkGo (ts : List S44) : Nat → Int → Ids → (Int × Int) ⊕ Ids
  | 0, _, I => .inr I
  | d + 1, i, I => if (tok (rd_T44 ts i) i I).1 = 0 then tkGo ts d (i + 1) (tok (rd_T44 ts i) i I).2 else .inl (i, (tok (rd_T44 ts i) i I).1)
/-- The first merge from i on, of d, with an error, and that; or what is made behind all. -/
def mgGo (ts : List S44) (ms : List S50) : Nat → Int → List Bool → Option ((Int × Int) ⊕ List Bool)
  | 0, _, mk => some (.inr mk)
  | d + 1, i, mk => (mrg ts ms mk i).bind fun r => if r.1 = 0 then mgGo ts ms d (i + 1) r.2 else some (.inl (i, r.1))
/-- The first token from i on, of d, that is not special and not there. -/
def fnGo (ts : List S44) (mk : List Bool) : Nat → Int → Option Int
  | 0, _ => none
  | d + 1, i => if (rd_T44 ts i).f2 = false ∧ thereB ts mk i = false then some i else fnGo ts mk d (i + 1)
def chkM (ts : List S44) (mk : List Bool) : Int × Int × Int := match fnGo ts mk ts.length 0 with
  | some i => (1, i, 90)
  | none => (0, 0, 0)
def chkI (ts : List S44) (ms : List S50) (I : Ids) : Option (Int × Int × Int) :=
  if alpGo ts I 256 0 < 256 then some (2, alpGo ts I 256 0, 91)
  else (mgGo ts ms ms.length 0 (List.replicate ts.length false)).bind fun x => match x with
    | .inl (i, e) => some (3, i, e)
    | .inr mk => some (chkM ts mk)
/-- Where a vocabulary is not well formed, and why. -/
def chk (ts : List S44) (ms : List S50) : Option (Int × Int × Int) :=
  if 4096 < (ts.length : Int) then some (0, 0, 2) else if 4096 < (ms.length : Int) then some (0, 0, 2)
  else match tkGo ts ts.length 0 (fun _ => none) with
    | .inl (i, e) => some (1, i, e)
    | .inr I => chkI ts ms I
theorem tkGo_rng (ts : List S44) : ∀ (d : Nat) (i : Int) (I J : Ids), 0 ≤ i → i + d ≤ ts.length → (∀ s v, I s = some v → 0 ≤ v ∧ v < ts.length) → tkGo ts d i I = .inr J → ∀ s v, J s = some v → 0 ≤ v ∧ v < ts.length
  | 0, i, I, J, h0, h1, hI, h => by
    simp only [tkGo, Sum.inr.injEq] at h
    subst h
    exact hI
  | d + 1, i, I, J, h0, h1, hI, h => by
    simp only [tkGo] at h
    by_cases c : (tok (rd_T44 ts i) i I).1 = 0
    · rw [if_pos c] at h
      refine tkGo_rng ts d (i + 1) _ J (by omega) (by omega) ?_ h
      intro s v hv
      unfold tok at hv
      by_cases c1 : tokEr (rd_T44 ts i) ≠ 0
      · rw [if_pos c1] at hv
        exact hI s v hv
      rw [if_neg c1] at hv
      by_cases c2 : (I (strOfNums (rd_T44 ts i).f0)).isSome = true
      · rw [if_pos c2] at hv
        exact hI s v hv
      rw [if_neg c2] at hv
      simp only [put] at hv
      by_cases c3 : s = strOfNums (rd_T44 ts i).f0
      · rw [if_pos c3] at hv
        cases hv
        omega
      · rw [if_neg c3] at hv
        exact hI s v hv
    · rw [if_neg c] at h
      cases h
theorem mrg_len {ts : List S44} {ms : List S50} {mk : List Bool} {i : Int} {r : Int × List Bool} (h : mrg ts ms mk i = some r) : r.2.length = mk.length := by
  unfold mrg at h
  repeat' split at h
  all_goals first | (cases h; done) | (obtain rfl := Option.some.inj h; simp)
/-- Behind a method's call: what the caller keeps. -/
theorem kp_blk {b q k : Nat} {w w' : World} {o : Obj} (h : w.heap[k]? = some o) (hk : KP b q w w') (h1 : k ≠ b) (h2 : k ≠ q) : w'.heap[k]? = some o := (hk k (blk_lt h) h1 h2).trans h
/-- The checker, and the result's block r. -/
def ST (w0 wb W : World) (g b q r : Nat) (ts : List S44) (ms : List S50) (n : Nat) (I : Ids) (mk : List Bool) : Prop :=
  CK w0 W g b q ts ms n I mk ∧ Below w0.heap.size w0 W ∧ W.heap[r]? = some (.cells #[.int .i64 0, .int .i64 0] 29 (0, 0)) ∧ w0.heap.size ≤ r ∧ r ≠ b ∧ r ≠ q ∧ r ≠ g ∧ wb.heap.size ≤ r ∧ KP b q wb W
theorem KP.trans {b q : Nat} {w W W1 : World} (h : KP b q w W) (k : KP b q W W1) : KP b q w W1 := fun i hi h1 h2 => by
  have e := h i hi h1 h2
  have hs : W.heap[i]? = some w.heap[i] := e.trans (Array.getElem?_eq_getElem hi)
  exact (k i (blk_lt hs) h1 h2).trans e
theorem ST.below {w0 wb W W1 : World} {g b q r n : Nat} {ts : List S44} {ms : List S50} {I : Ids} {mk : List Bool} (h : ST w0 wb W g b q r ts ms n I mk) (hb : Below W.heap.size W W1) : ST w0 wb W1 g b q r ts ms n I mk :=
  ⟨h.1.below hb, below_two h.2.1 hb, blk_below h.2.2.1 hb, h.2.2.2.1, h.2.2.2.2.1, h.2.2.2.2.2.1, h.2.2.2.2.2.2.1, h.2.2.2.2.2.2.2.1, h.2.2.2.2.2.2.2.2.trans (KP.of_below hb)⟩
theorem ST.call {w0 wb W W1 : World} {g b q r n n' : Nat} {ts : List S44} {ms : List S50} {I I' : Ids} {mk mk' : List Bool} (h : ST w0 wb W g b q r ts ms n I mk) (h1 : CK w0 W1 g b q ts ms n' I' mk') (h2 : Below w0.heap.size w0 W1) (h3 : KP b q W W1) : ST w0 wb W1 g b q r ts ms n' I' mk' :=
  ⟨h1, h2, kp_blk h.2.2.1 h3 h.2.2.2.2.1 h.2.2.2.2.2.1, h.2.2.2.1, h.2.2.2.2.1, h.2.2.2.2.2.1, h.2.2.2.2.2.2.1, h.2.2.2.2.2.2.2.1, h.2.2.2.2.2.2.2.2.trans h3⟩
def CPost (w0 wb : World) (g b q : Nat) (ts : List S44) (ms : List S50) (x : Int × Int × Int) (e : Ending) (w' : World) : Prop :=
  e = .returned (.tuple #[.agg #[.int .i64 x.1, .int .i64 x.2.1], .int .i64 x.2.2]) ∧ (∃ n I mk, CK w0 w' g b q ts ms n I mk ∧ (x.2.2 = 0 → tkGo ts ts.length 0 (fun _ => none) = .inr I)) ∧ Below w0.heap.size w0 w' ∧ KP b q wb w'
theorem CK.far {w0 W : World} {g b q r n : Nat} {ts : List S44} {ms : List S50} {I : Ids} {mk : List Bool} (h : CK w0 W g b q ts ms n I mk) (h1 : r ≠ b) (h2 : r ≠ q) (h3 : r ≠ g) (j : Nat) (u : Value) : CK w0 (W.setCell ⟨r, j, none⟩ u) g b q ts ms n I mk := by
  obtain ⟨At, ct, Am, cm, cq, hg, hne, k1, k2, k3, k4, k5, k6⟩ := h
  exact ⟨At, ct, Am, cm, cq, blk_far hg (fun e => h3 e.symm) u, hne, k1, k2, k3, k4, k5.same (Below.heap_setCell W ⟨r, j, none⟩ u b (fun e => h1 e.symm)), blk_far k6 (fun e => h2 e.symm) u⟩
theorem ST.fin {w0 wb W : World} {g b q r n : Nat} {ts : List S44} {ms : List S50} {I : Ids} {mk : List Bool} (h : ST w0 wb W g b q r ts ms n I mk) (x y : Int) :
    ((W.setCell ⟨r, 0, none⟩ (.int .i64 x)).setCell ⟨r, 1, none⟩ (.int .i64 y)).heap[r]? = some (.cells #[.int .i64 x, .int .i64 y] 29 (0, 0)) ∧ CK w0 ((W.setCell ⟨r, 0, none⟩ (.int .i64 x)).setCell ⟨r, 1, none⟩ (.int .i64 y)) g b q ts ms n I mk ∧ Below w0.heap.size w0 ((W.setCell ⟨r, 0, none⟩ (.int .i64 x)).setCell ⟨r, 1, none⟩ (.int .i64 y)) ∧ KP b q wb ((W.setCell ⟨r, 0, none⟩ (.int .i64 x)).setCell ⟨r, 1, none⟩ (.int .i64 y)) := by
  obtain ⟨h1, h2, h3, h4, h5, h6, h7, h8, h9⟩ := h
  refine ⟨?_, (h1.far h5 h6 h7 0 _).far h5 h6 h7 1 _, below_set (below_set h2 h4) h4, fun i hi a1 a2 => (Below.heap_setCell _ _ _ i (by simp only; omega)).trans ((Below.heap_setCell _ _ _ i (by simp only; omega)).trans (h9 i hi a1 a2))⟩
  exact (blk_set (blk_set h3 0 _) 1 _).trans (by simp)
set_option maxHeartbeats 8000000 in
set_option maxRecDepth 100000 in
theorem check_calls (g b q : Nat) (ts : List S44) (ms : List S50) (x : Int × Int × Int) (hx : chk ts ms = some x) (hts : ts.length ≤ 1000000000000) (hms : ms.length ≤ 1000000000000) (w0 w : World) (hI : CK w0 w g b q ts ms 0 (fun _ => none) (List.replicate ts.length false)) (hB : Below w0.heap.size w0 w) :
    Calls Try.prog 84 #[.pointer (some ⟨g, 0, none⟩)] w (CPost w0 w g b q ts ms x) := by
  have hST : ∀ r, r = w.heap.size → ∀ W, W = w.alloc (.cells #[.int .i64 0, .int .i64 0] 29 (0, 0)) → ST w0 w W g b q r ts ms 0 (fun _ => none) (List.replicate ts.length false) := by
    rintro r rfl W rfl
    obtain ⟨At, ct, Am, cm, cq, hg, hne, k1, k2, k3, k4, k5, k6⟩ := hI
    have e1 := blk_lt hg
    have e2 := k5.lt
    have e3 := blk_lt k6
    exact ⟨(show CK w0 w g b q ts ms 0 _ _ from ⟨At, ct, Am, cm, cq, hg, hne, k1, k2, k3, k4, k5, k6⟩).below (below_alloc (Below.refl _ _) _), below_alloc hB _, blk_new w _, hB.size, by omega, by omega, by omega, Nat.le_refl _, KP.of_below (below_alloc (Below.refl _ _) _)⟩
  have HS := Aside0.mk hST; have HX := Aside0.mk hx; clear hST hx
  obtain ⟨At, ct, Am, cm, cq, hg, hne, k1, k2, k3, k4, k5, k6⟩ := hI
  have gl := blk_lt hg
  have f0 := blk_cell hg 0
  have f1 := blk_cell hg 1
  simp only [List.getElem?_toArray, List.getElem?_cons_zero, List.getElem?_cons_succ] at f0 f1
  have HG := Aside0.mk hg; have HNE := Aside0.mk hne; have HK1 := Aside0.mk k1; have HB := Aside0.mk hB; clear hg hne k1 k2 k3 k4 k5 k6 hB
  by_cases c1 : 4096 < (ts.length : Int)
  · have hX : (0, 0, 2) = x := by have := HX.out; unfold chk at this; rw [if_pos c1] at this; exact Option.some.inj this
    have HXX := Aside0.mk hX
    have d1 := decide_eq_true c1
    clear hX c1
    go_enter Try.func84, Try.ntmps84
    go_wp2
    have hs := HS.out _ rfl _ rfl
    refine bodyPost_ret (results_ct rfl _ _ w.heap.size 29 #[.int .i64 0, .int .i64 0] (0, 0) _ rfl hs.2.2.1 Try.underlying29 rfl (by kernel_rfl)) rfl ?_
    exact ⟨by rw [← HXX.out]; rfl, ⟨_, _, _, hs.1, fun h => by rw [← HXX.out] at h; exact absurd h (by decide)⟩, hs.2.1, hs.2.2.2.2.2.2.2.2⟩
  by_cases c2 : 4096 < (ms.length : Int)
  · have hX : (0, 0, 2) = x := by have := HX.out; unfold chk at this; rw [if_neg c1, if_pos c2] at this; exact Option.some.inj this
    have HXX := Aside0.mk hX
    have d1 := decide_eq_false c1
    have d2 := decide_eq_true c2
    clear hX c1 c2
    go_enter Try.func84, Try.ntmps84
    go_wp2
    have hs := HS.out _ rfl _ rfl
    refine bodyPost_ret (results_ct rfl _ _ w.heap.size 29 #[.int .i64 0, .int .i64 0] (0, 0) _ rfl hs.2.2.1 Try.underlying29 rfl (by kernel_rfl)) rfl ?_
    exact ⟨by rw [← HXX.out]; rfl, ⟨_, _, _, hs.1, fun h => by rw [← HXX.out] at h; exact absurd h (by decide)⟩, hs.2.1, hs.2.2.2.2.2.2.2.2⟩
  have hX : (match tkGo ts ts.length 0 (fun _ => none) with | .inl (i, e) => some (1, i, e) | .inr I => chkI ts ms I) = some x := by have := HX.out; unfold chk at this; rw [if_neg c1, if_neg c2] at this; exact this
  have HXX := Aside0.mk hX
  have d1 := decide_eq_false c1
  have d2 := decide_eq_false c2
  have m1 : ts.length ≤ 4096 := by omega
  have m2 : ms.length ≤ 4096 := by omega
  clear hX c1 c2 HX
  go_enter Try.func84, Try.ntmps84
  go_wp2
  obtain ⟨r, hr⟩ : ∃ r, r = w.heap.size := ⟨_, rfl⟩
  obtain ⟨W2, hW2⟩ : ∃ W2, W2 = w.alloc (.cells #[.int .i64 0, .int .i64 0] 29 (0, 0)) := ⟨_, rfl⟩
  rw [← hW2, ← hr]
  have hs2 := Aside0.mk (HS.out r hr W2 hW2)
  have h2w := Aside0.mk (show Below w.heap.size w W2 from by rw [hW2]; exact below_alloc (Below.refl _ _) _)
  clear hr hW2 HS
  go_loopg [34] ts.length (fun kq v34 w' => ∃ (i : Int) (n : Nat) (I : Ids), v34 = .int .i64 i ∧ Aside0 (0 ≤ i ∧ i + kq = ts.length ∧ (n : Int) ≤ i) ∧ Aside0 (ST w0 w w' g b q r ts ms n I (List.replicate ts.length false)) ∧ Aside0 (tkGo ts kq i I = tkGo ts ts.length 0 (fun _ => none)) ∧ Aside0 (∀ s v, I s = some v → 0 ≤ v ∧ v < ts.length))
  case atStart => exact ⟨0, 0, _, rfl, ⟨by omega⟩, hs2, ⟨rfl⟩, ⟨fun s v h => by cases h⟩⟩
  case round =>
    clear hs2
    obtain ⟨i, n, I, rfl, HK, HS, HT, HD⟩ := hrel
    have hk := HK.out
    cases gk with
    | succ k1 =>
      have d3 : decide (i < (ts.length : Int)) = true := decide_eq_true (by omega)
      obtain ⟨er, J, htk⟩ : ∃ er J, tok (rd_T44 ts i) i I = (er, J) := ⟨_, _, rfl⟩
      have tc := token_calls g b q n ts ms I (List.replicate ts.length false) i (by omega) (by omega) hts w0 wr HS.out.1 HS.out.2.1 (by unfold maxLen; omega)
      rw [htk] at tc
      simp only at tc
      have TC := Aside0.mk tc; have HT' := HT.out
      simp only [tkGo, htk] at HT'
      have HTK := Aside0.mk htk; clear tc htk
      by_cases c : er = 0
      · rw [if_pos c] at HT'
        subst c
        have HT2 := Aside0.mk HT'
        clear HT'
        go_wp2_with (go_at_call 112; (refine TC.out.mono ?_); rintro e w1 ⟨rfl, k1, k2, k3⟩; have s_ := ST.call HS.out k1 k2 k3; have SS := Aside0.mk s_; have r0 := blk_cell s_.2.2.1 0; have r1 := blk_cell s_.2.2.1 1; simp only [List.getElem?_toArray, List.getElem?_cons_zero, List.getElem?_cons_succ] at r0 r1; have z0 := blk_frozen s_.2.2.1 0; have z1 := blk_frozen s_.2.2.1 1; clear s_ k1 k2 k3)
        go_roundg k1
        case measure => have := HK.out; omega
        case rel => exact ⟨i + 1, n + 1, J, by go_num, ⟨by omega⟩, SS, HT2, ⟨tkGo_rng ts 1 i I J (by have := HK.out; omega) (by have := HK.out; omega) HD.out (by simp only [tkGo, HTK.out, if_true])⟩⟩
      · rw [if_neg c] at HT'
        have hx2 := HXX.out
        rw [← HT'] at hx2
        have HR := Aside0.mk (Option.some.inj hx2)
        have e1 : (er == 0) = false := beq_eq_false_iff_ne.mpr c
        have e2 : (er != 0) = true := by simpa using c
        have NE := Aside0.mk c; clear hx2 HT' c
        go_wp2_with (go_at_call 112; (refine TC.out.mono ?_); rintro e w1 ⟨rfl, k1, k2, k3⟩; have s_ := ST.call HS.out k1 k2 k3; have SS := Aside0.mk s_; have r0 := blk_cell s_.2.2.1 0; have r1 := blk_cell s_.2.2.1 1; simp only [List.getElem?_toArray, List.getElem?_cons_zero, List.getElem?_cons_succ] at r0 r1; have z0 := blk_frozen s_.2.2.1 0; have z1 := blk_frozen s_.2.2.1 1; clear s_ k1 k2 k3)
        have hf := SS.out.fin 1 i
        refine bodyPost_ret (results_ct rfl _ _ r 29 #[.int .i64 1, .int .i64 i] (0, 0) _ rfl hf.1 Try.underlying29 rfl (by kernel_rfl)) rfl ?_
        rw [← HR.out]
        exact ⟨rfl, ⟨_, _, _, hf.2.1, fun h => absurd h NE.out⟩, hf.2.2.1, hf.2.2.2⟩
    | zero =>
      have d3 : decide (i < (ts.length : Int)) = false := decide_eq_false (by omega)
      have hT := HT.out
      simp only [tkGo] at hT
      have HTI := Aside0.mk hT.symm
      have hx2 := HXX.out
      rw [← hT] at hx2
      simp only at hx2
      clear HXX HT hT
      have AC := Aside0.mk (alphabet_calls g b q n ts ms I (List.replicate ts.length false) HD.out w0 wr HS.out.1 HS.out.2.1)
      obtain ⟨al, hal⟩ : ∃ al, al = alpGo ts I 256 0 := ⟨_, rfl⟩
      unfold chkI at hx2
      rw [← hal] at AC hx2
      clear hal
      by_cases c : al < 256
      · rw [if_pos c] at hx2
        have HR := Aside0.mk (Option.some.inj hx2)
        have e1 := decide_eq_true c
        clear hx2 c
        go_wp2_with (go_at_call 113; (refine AC.out.mono ?_); rintro e w1 ⟨rfl, k1, k2, k3⟩; have s_ := ST.call HS.out k1 k2 k3; have SS := Aside0.mk s_; have r0 := blk_cell s_.2.2.1 0; have r1 := blk_cell s_.2.2.1 1; simp only [List.getElem?_toArray, List.getElem?_cons_zero, List.getElem?_cons_succ] at r0 r1; have z0 := blk_frozen s_.2.2.1 0; have z1 := blk_frozen s_.2.2.1 1; clear s_ k1 k2 k3)
        have hf := SS.out.fin 2 al
        refine bodyPost_ret (results_ct rfl _ _ r 29 #[.int .i64 2, .int .i64 al] (0, 0) _ rfl hf.1 Try.underlying29 rfl (by kernel_rfl)) rfl ?_
        rw [← HR.out]
        exact ⟨rfl, ⟨_, _, _, hf.2.1, fun h => absurd h (by simp)⟩, hf.2.2.1, hf.2.2.2⟩
      · rw [if_neg c] at hx2
        have e1 := decide_eq_false c
        obtain ⟨y, hy, hyx⟩ := Option.bind_eq_some_iff.mp hx2
        have HY := Aside0.mk hy; have HYX := Aside0.mk hyx; clear hx2 c hy hyx
        go_wp2_with (go_at_call 113; (refine AC.out.mono ?_); rintro e w1 ⟨rfl, k1, k2, k3⟩; have s_ := ST.call HS.out k1 k2 k3; have SS := Aside0.mk s_; obtain ⟨At1, ct1, Am1, cm1, cq1, hg1, hne1, j1, j2, j3, j4, j5, j6⟩ := k1; have g0 := blk_cell hg1 0; have g1 := blk_cell hg1 1; simp only [List.getElem?_toArray, List.getElem?_cons_zero, List.getElem?_cons_succ] at g0 g1; have J1 := Aside0.mk j1; have J3 := Aside0.mk j3; clear s_ k2 k3 hg1 hne1 j1 j2 j3 j4 j5 j6)
        go_loopg [58] ms.length (fun kq v58 w' => ∃ (i : Int) (mk : List Bool), v58 = .int .i64 i ∧ Aside0 (0 ≤ i ∧ i + kq = ms.length) ∧ Aside0 (ST w0 w w' g b q r ts ms n I mk) ∧ Aside0 (mk.length = ts.length) ∧ Aside0 (mgGo ts ms kq i mk = some y))
        case atStart => exact ⟨0, _, rfl, ⟨by omega⟩, SS, ⟨by simp⟩, HY⟩
        case round =>
          clear SS HY HS g0 g1
          obtain ⟨i, mk, rfl, HK, HS, HM, HG⟩ := hrel
          have hk := HK.out
          cases gk with
          | succ k1 =>
            have d3 : decide (i < (ms.length : Int)) = true := decide_eq_true (by omega)
            have hg := HG.out
            simp only [mgGo] at hg
            obtain ⟨rr, hr1, hr2⟩ := Option.bind_eq_some_iff.mp hg
            have MC := Aside0.mk (merge_calls g b q n ts ms I mk HM.out i (by omega) (by omega) hms rr hr1 w0 wr HS.out.1 HS.out.2.1)
            have ML := Aside0.mk (mrg_len hr1)
            obtain ⟨er, mk2⟩ := rr
            simp only at MC ML hr2
            clear hg hr1 HG
            by_cases c : er = 0
            · rw [if_pos c] at hr2
              subst c; have HG2 := Aside0.mk hr2; clear hr2
              go_wp2_with (go_at_call 114; (refine MC.out.mono ?_); rintro e w1 ⟨rfl, k1, k2, k3⟩; have s_ := ST.call HS.out k1 k2 k3; have SS := Aside0.mk s_; have r0 := blk_cell s_.2.2.1 0; have r1 := blk_cell s_.2.2.1 1; simp only [List.getElem?_toArray, List.getElem?_cons_zero, List.getElem?_cons_succ] at r0 r1; have z0 := blk_frozen s_.2.2.1 0; have z1 := blk_frozen s_.2.2.1 1; clear s_ k1 k2 k3)
              go_roundg k1
              case measure => have := HK.out; omega
              case rel => exact ⟨i + 1, mk2, by go_num, ⟨by omega⟩, SS, ⟨by rw [ML.out, HM.out]⟩, HG2⟩
            · rw [if_neg c] at hr2
              have hyx := HYX.out
              rw [← Option.some.inj hr2] at hyx
              have HR := Aside0.mk (Option.some.inj hyx)
              have e3 : (er == 0) = false := beq_eq_false_iff_ne.mpr c
              have e2 : (er != 0) = true := by simpa using c
              have NE := Aside0.mk c; clear hyx hr2 c
              go_wp2_with (go_at_call 114; (refine MC.out.mono ?_); rintro e w1 ⟨rfl, k1, k2, k3⟩; have s_ := ST.call HS.out k1 k2 k3; have SS := Aside0.mk s_; have r0 := blk_cell s_.2.2.1 0; have r1 := blk_cell s_.2.2.1 1; simp only [List.getElem?_toArray, List.getElem?_cons_zero, List.getElem?_cons_succ] at r0 r1; have z0 := blk_frozen s_.2.2.1 0; have z1 := blk_frozen s_.2.2.1 1; clear s_ k1 k2 k3)
              have hf := SS.out.fin 3 i
              refine bodyPost_ret (results_ct rfl _ _ r 29 #[.int .i64 3, .int .i64 i] (0, 0) _ rfl hf.1 Try.underlying29 rfl (by kernel_rfl)) rfl ?_
              rw [← HR.out]
              exact ⟨rfl, ⟨_, _, _, hf.2.1, fun h => absurd h NE.out⟩, hf.2.2.1, hf.2.2.2⟩
          | zero =>
            have d3 : decide (i < (ms.length : Int)) = false := decide_eq_false (by omega)
            have hg := HG.out
            simp only [mgGo, Option.some.injEq] at hg
            have hyx := HYX.out
            rw [← hg] at hyx
            have HR0 := Aside0.mk (Option.some.inj hyx)
            clear hyx hg HG HYX
            obtain ⟨At2, ct2, Am2, cm2, cq2, hg2, hne2, j1, j2, j3, j4, j5, j6⟩ := HS.out.1
            have g0 := blk_cell hg2 0
            simp only [List.getElem?_toArray, List.getElem?_cons_zero] at g0
            have J2 := Aside0.mk j1; clear hg2 hne2 j1 j2 j3 j4 j5 j6
            go_wp2
            go_loopg [76] ts.length (fun kq v76 w' => ∃ (i : Int), v76 = .int .i64 i ∧ Aside0 (0 ≤ i ∧ i + kq = ts.length) ∧ Aside0 (ST w0 w w' g b q r ts ms n I mk) ∧ Aside0 (fnGo ts mk kq i = fnGo ts mk ts.length 0))
            case atStart => exact ⟨0, rfl, ⟨by omega⟩, HS, ⟨rfl⟩⟩
            case round =>
              clear HS g0
              obtain ⟨i, rfl, HK, HS, HF⟩ := hrel
              have hk := HK.out
              cases gk with
              | succ k1 =>
                have d4 : decide (i < (ts.length : Int)) = true := decide_eq_true (by omega)
                obtain ⟨ad, A0, c0, e, x0, x1, x2, hl, hc⟩ := at_T44 J2.out i (by omega) (by omega)
                cases e
                have hf := HF.out
                simp only [fnGo] at hf
                have TH := Aside0.mk (fun W hW => there_calls g b q n ts ms I mk i (by omega) (by omega) HM.out w0 W (HS.out.1.below hW) (below_two HS.out.2.1 hW))
                generalize ht : rd_T44 ts i = t at *
                obtain ⟨tb, tf, tp⟩ := t
                simp only at *
                replace x0 := pw_cell_below HS.out.2.1 x0
                replace x1 := pw_cell_below HS.out.2.1 x1
                replace x2 := pw_cell_below HS.out.2.1 x2
                have p1 := eq_true (show 0 ≤ i by omega)
                have q1 := eq_true (show i < (ts.length : Int) by omega)
                generalize htt : thereB ts mk i = tv at *
                clear ht htt hl hc
                cases tp
                · cases tv
                  · rw [if_pos ⟨rfl, rfl⟩] at hf
                    have HR := Aside0.mk (show (1, i, 90) = x by rw [← HR0.out]; unfold chkM; rw [← hf])
                    clear hf
                    go_wp2_with (go_at_call 115; (refine (TH.out _ (by repeat (first | exact Below.refl _ _ | apply below_alloc | apply pw_below_drewN))).mono ?_); rintro e w1 ⟨rfl, hb1⟩; have s_ := HS.out.below (below_step (by repeat (first | exact Below.refl _ _ | apply below_alloc | apply pw_below_drewN)) hb1); have SS := Aside0.mk s_; have r0 := blk_cell s_.2.2.1 0; have r1 := blk_cell s_.2.2.1 1; simp only [List.getElem?_toArray, List.getElem?_cons_zero, List.getElem?_cons_succ] at r0 r1; have z0 := blk_frozen s_.2.2.1 0; have z1 := blk_frozen s_.2.2.1 1; clear s_ hb1)
                    have hf := SS.out.fin 1 i
                    refine bodyPost_ret (results_ct rfl _ _ r 29 #[.int .i64 1, .int .i64 i] (0, 0) _ rfl hf.1 Try.underlying29 rfl (by kernel_rfl)) rfl ?_
                    rw [← HR.out]
                    exact ⟨rfl, ⟨_, _, _, hf.2.1, fun h => absurd h (by simp)⟩, hf.2.2.1, hf.2.2.2⟩
                  · rw [if_neg (by simp)] at hf
                    have HF2 := Aside0.mk hf; clear hf
                    go_wp2_with (go_at_call 115; (refine (TH.out _ (by repeat (first | exact Below.refl _ _ | apply below_alloc | apply pw_below_drewN))).mono ?_); rintro e w1 ⟨rfl, hb1⟩; have s_ := HS.out.below (below_step (by repeat (first | exact Below.refl _ _ | apply below_alloc | apply pw_below_drewN)) hb1); have SS := Aside0.mk s_; have r0 := blk_cell s_.2.2.1 0; have r1 := blk_cell s_.2.2.1 1; simp only [List.getElem?_toArray, List.getElem?_cons_zero, List.getElem?_cons_succ] at r0 r1; have z0 := blk_frozen s_.2.2.1 0; have z1 := blk_frozen s_.2.2.1 1; clear s_ hb1)
                    go_roundg k1
                    case measure => have := HK.out; omega
                    case rel => exact ⟨i + 1, by go_num, ⟨by omega⟩, SS, HF2⟩
                · rw [if_neg (by simp)] at hf
                  have HF2 := Aside0.mk hf; clear hf
                  go_wp2
                  go_roundg k1
                  case measure => have := HK.out; omega
                  case rel => exact ⟨i + 1, by go_num, ⟨by omega⟩, ⟨HS.out.below (by repeat (first | exact Below.refl _ _ | apply below_alloc | apply pw_below_drewN))⟩, HF2⟩
              | zero =>
                have d4 : decide (i < (ts.length : Int)) = false := decide_eq_false (by omega)
                have hf := HF.out
                simp only [fnGo] at hf
                have HR := Aside0.mk (show (0, 0, 0) = x by rw [← HR0.out]; unfold chkM; rw [← hf])
                clear hf; have s_ := HS.out; have SS := HS
                have r0 := blk_cell s_.2.2.1 0
                have r1 := blk_cell s_.2.2.1 1
                simp only [List.getElem?_toArray, List.getElem?_cons_zero, List.getElem?_cons_succ] at r0 r1
                have z0 := blk_frozen s_.2.2.1 0
                have z1 := blk_frozen s_.2.2.1 1
                clear s_
                go_wp2
                have hf := SS.out.fin 0 0
                refine bodyPost_ret (results_ct rfl _ _ r 29 #[.int .i64 0, .int .i64 0] (0, 0) _ rfl hf.1 Try.underlying29 rfl (by kernel_rfl)) rfl ?_
                rw [← HR.out]
                exact ⟨rfl, ⟨_, _, _, hf.2.1, fun _ => HTI.out⟩, hf.2.2.1, hf.2.2.2⟩
end Go.Proofs.Ytlgagppdipdkeaa.X
