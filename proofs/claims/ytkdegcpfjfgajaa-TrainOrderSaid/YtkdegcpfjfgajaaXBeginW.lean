/- A learner that has merged nothing (func 29). Conditions: the corpus fits. -/
import Derived.Test.YtkdegcpfjfgajaaXMergeW
namespace Go.Proofs.Ytkdegcpfjfgajaa.X
open Go Go.RowKit Go.Maps Go.Proofs.YtkdegcpfjfgajaaW.PrintWords Go.Proofs.YtkdegcpfjfgajaaW.PrintLast Go.Proofs.YtkdegcpfjfgajaaW.PrintMore Go.Proofs.Ytkdegcpfjfgajaa.Mg Go.Proofs.Ytkdegcpfjfgajaa.Pt Go.Proofs.Ytkdegcpfjfgajaa.Q
attribute [local go_sem] Go.Proofs.Ytkdegcpfjfgajaa.Fl.run_store_float Go.Proofs.Ytkdegcpfjfgajaa.Fl.run_fsub
set_option linter.unusedVariables false
set_option linter.unusedSimpArgs false
theorem LS.addp {w0 W w' : World} {g bw bi bt nt cw : Nat} {wl : List S68} {ts : List S43} {ms : List S38} {parts ps : List (List Int)} {T : ByteArray → Option Int} {vt vm vp vp' : Value} {Aw : Option Addr}
    (hg : W.heap[g]? = some (.cells #[vt, vm, .slice Aw wl.length cw, vp, .map (some bw), .map (some bi), .map (some bt)] 77 (0, 0))) (h1 : k43.R 43 W w0.heap.size (fun _ => True) vt ts) (h2 : k38.R 38 W w0.heap.size (fun _ => True) vm ms)
    (h3 : (Kd.slice 2 (Kd.int .i64)).R 58 W w0.heap.size (fun _ => True) vp parts) (h4 : MapF MS W bt nt T) (h5 : k68.C w0 Aw wl.length wl) (h6 : w0.heap.size ≤ g) (h7 : w0.heap.size ≤ bt) (hG : W.grownBy w' vp.ownBlock) (ho : (Kd.slice 2 (Kd.int .i64)).R 58 w' w0.heap.size (fun _ => True) vp' ps) (hb : Below w0.heap.size w0 w') :
    LS w0 (w'.setCell ⟨g, 3, none⟩ vp') g bw bi bt wl ts ms ps T nt ∧ KeepM bt W (w'.setCell ⟨g, 3, none⟩ vp') := by
  have hty := Kd.R_typed h3
  have hg' := blk_grown hg hG (Kd.R_ne h3 hg (by decide))
  have s3 : MapF MS w' bt nt T := h4.same (hG.block bt h4.lt (fun e => by
    obtain ⟨cells, hc⟩ := hty bt e.symm
    exact h4.ne_cells hc rfl))
  refine ⟨⟨vt, vm, vp', Aw, cw, (blk_set hg' 3 vp').trans (by simp), Kd.R_set (Kd.R_over' h1 hty (by decide) hG) hg' (by decide) 3 vp', Kd.R_set (Kd.R_over' h2 hty (by decide) hG) hg' (by decide) 3 vp', Kd.R_set ho hg' (by decide) 3 vp', s3.same (Below.heap_setCell w' ⟨g, 3, none⟩ vp' bt (s3.ne_cells hg')), h5, h6, h7, hb.setCell h6 _⟩,
    (KeepM.of_grown hG (fun k hk => by obtain ⟨cells, hc⟩ := hty k hk; exact ⟨cells, _, hc⟩)).trans (KeepM.of_set hg' 3 vp')⟩
theorem info2 : (Try.prog.info? 2).map (fun i => (i.zero, i.size, i.bytes)) = some (some (.int .i64 0), 1, 8) := by kernel_rfl
theorem info58 : (Try.prog.info? 58).map (fun i => (i.zero, i.size, i.bytes)) = some (some (.slice none 0 0), 1, 24) := by kernel_rfl
/-- The letters' tokens, the first n; their numbers. -/
def lett : Nat → List S43
  | 0 => []
  | n + 1 => lett n ++ [⟨[(n : Int)], 0, false⟩]
def letT : Nat → ByteArray → Option Int
  | 0 => fun _ => none
  | n + 1 => upd (letT n) (strOfNums [(n : Int)]) (some (n : Int))
theorem lett_len : ∀ n, (lett n).length = n
  | 0 => rfl
  | n + 1 => by rw [lett, List.length_append, lett_len n]; rfl
theorem cps_nil : cps [] = fun _ _ => 0 := by funext i k; rw [cps, List.getD_nil]; rfl
theorem ws_none (k : Int × Int) : ∀ (ns : List Int) (i : Nat), ws ns i (fun _ _ => 0) k = 0
  | [], _ => rfl
  | n :: t, i => by rw [ws, ws_none k t (i + 1)]; omega
theorem CM_start {W : World} {bw bi bt : Nat} {ns : List Int} {B : Nat} (h1 : W.heap[bw]? = some (.map #[] 0)) (h2 : W.heap[bi]? = some (.map #[] 0)) (h : bw ≠ bi ∧ bw ≠ bt ∧ bi ≠ bt ∧ B ≤ bw ∧ B ≤ bi) : CM W bw bi bt 0 ns (cps []) B := by
  have hw : ∀ k, wt ns (cps []) k = none := fun k => by rw [wt, cps_nil, ws_none, if_pos rfl]
  refine ⟨fun _ => none, (MapF.empty h1).eq (fun x _ => (hw x).symm), MapF.empty h2, h, fun _ _ _ => rfl, fun k s _ hs => ?_, fun _ _ _ _ _ hq _ => by cases hq⟩
  rw [hw k] at hs
  cases hs
theorem cps_snoc (ps : List (List Int)) (p : List Int) : rowc (cps ps) ps.length p 1 = cps (ps ++ [p]) := by
  funext i k
  rw [rowc, cps, cps]
  by_cases e : i = ps.length
  · subst e
    rw [if_pos rfl]
    simp [cp]
  · rw [if_neg e]
    by_cases h : i < ps.length
    · simp [List.getD_eq_getElem?_getD, List.getElem?_append_left h]
    · simp [List.getD_eq_getElem?_getD, List.getElem?_eq_none (show (ps ++ [p]).length ≤ i by simp; omega), List.getElem?_eq_none (show ps.length ≤ i by omega)]
theorem okc_snoc {ns : List Int} {all : List (List Int)} (hl : ns.length = all.length) (hn : ∀ n ∈ ns, (1 : Int) ≤ n ∧ n ≤ 4294967296) (ht : tot all ≤ 16384) (n j : Nat) (hna : n < all.length) : OkC ns (rowc (cps (all.take n)) n ((all.getD n []).take j) 1) := by
  refine okc_of hl hn ht (fun i k => ?_)
  rw [rowc, cps]
  have h0 := cp_nonneg (all.getD i []) k
  have h1 := cp_le (all.getD i []) k
  by_cases e : i = n
  · subst e
    rw [if_pos rfl]
    have h2 := cp_take_le k (all.getD i []) j
    have h3 := cp_nonneg ((all.getD i []).take j) k
    have h4 : (all.take i).getD i [] = [] := by rw [List.getD_eq_getElem?_getD, List.getElem?_eq_none (by rw [List.length_take]; omega)]; rfl
    rw [h4, cp_nil]
    omega
  · rw [if_neg e]
    by_cases h : i < n
    · have h4 : (all.take n).getD i [] = all.getD i [] := by rw [List.getD_eq_getElem?_getD, List.getD_eq_getElem?_getD, List.getElem?_take_of_lt h]
      rw [h4]
      exact ⟨h0, h1⟩
    · have h4 : (all.take n).getD i [] = [] := by rw [List.getD_eq_getElem?_getD, List.getElem?_eq_none (by rw [List.length_take]; omega)]; rfl
      rw [h4, cp_nil]
      omega
theorem one_byte (W : World) (B : Nat) (hB : B ≤ W.heap.size) (x : Int) : (Kd.int .u8).R 5 (W.alloc (.cells #[.int .u8 x] 5 (0, 0))) B (fun _ => True) (.slice (some ⟨W.heap.size, 0, none⟩) 1 1) [x] := by
  have h := own_lit W B 5 .u8 [x] hB (by simp)
  exact Kd.R_of_own (enc := Value.int .u8) (h1 := fun _ => rfl) h (fun _ _ => trivial)
theorem rd_byte {tb : List Int} (h : ∀ x ∈ tb, 0 ≤ x ∧ x < 256) {i : Nat} (hi : i < tb.length) : wrap64 (rd tb (i : Int)) = rd tb (i : Int) := by
  have : rd tb (i : Int) ∈ tb := by rw [rd, Int.toNat_natCast, List.getD_eq_getElem?_getD, List.getElem?_eq_getElem hi, Option.getD_some]; exact List.getElem_mem hi
  have := h _ this
  unfold wrap64; omega
theorem take_rd {tb : List Int} {i : Nat} (hi : i < tb.length) : tb.take (i + 1) = tb.take i ++ [rd tb (i : Int)] := by
  rw [List.take_succ_eq_append_getElem hi, rd, Int.toNat_natCast, List.getD_eq_getElem?_getD, List.getElem?_eq_getElem hi, Option.getD_some]
set_option maxHeartbeats 8000000 in
set_option maxRecDepth 100000 in
theorem begin_calls (A : Option Addr) (c : Nat) (wl : List S68) (w0 : World) (hC : k68.C w0 A wl.length wl) (hlw : wl.length ≤ 1000) (ht : tot (wl.map (fun x => x.f0)) ≤ 16384) (hN : ∀ n ∈ nsOf wl, (1 : Int) ≤ n ∧ n ≤ 4294967296) (hby : ∀ x ∈ wl, ∀ b ∈ x.f0, 0 ≤ b ∧ b < 256) :
    Calls Try.prog 29 #[.slice A wl.length c] w0 fun e w' => ∃ g bw bi bt, e = .returned (.pointer (some ⟨g, 0, none⟩)) ∧ LS w0 w' g bw bi bt wl (lett 256) [] (wl.map (fun x => x.f0)) (letT 256) 256 ∧ CM w' bw bi bt 20000000 (nsOf wl) (cps (wl.map (fun x => x.f0))) w0.heap.size := by
  have HC := Aside0.mk hC; have HLW := Aside0.mk hlw; have HT := Aside0.mk ht; have HN := Aside0.mk hN; have HBY := Aside0.mk hby; clear hC hlw ht hN hby
  have hm1 := @run_makeMap Try.prog 73
  have hm2 := @run_makeMap Try.prog 74
  have hm3 := @run_makeMap Try.prog 75
  go_enter Try.func29, Try.ntmps29
  go_upto_region 2 with (fail)
  obtain ⟨W0, hW0⟩ : ∃ W0, W0 = ((((w0.alloc (.map #[] 0)).alloc (.map #[] 0)).alloc (.map #[] 0)).alloc (.cells #[.slice none 0 0, .slice none 0 0, .slice A wl.length c, .slice none 0 0, .map (some w0.heap.size), .map (some (w0.heap.size + 1)), .map (some (w0.heap.size + 1 + 1))] 77 (0, 0))) := ⟨_, rfl⟩
  rw [← hW0]
  obtain ⟨bw, hbw⟩ : ∃ b, b = w0.heap.size := ⟨_, rfl⟩
  obtain ⟨bi, hbi⟩ : ∃ b, b = w0.heap.size + 1 := ⟨_, rfl⟩
  obtain ⟨bt, hbt⟩ : ∃ b, b = w0.heap.size + 1 + 1 := ⟨_, rfl⟩
  obtain ⟨g, hgg⟩ : ∃ b, b = w0.heap.size + 1 + 1 + 1 := ⟨_, rfl⟩
  have m1 : W0.heap[bw]? = some (.map #[] 0) := by
    rw [hW0, hbw]
    exact (blk_alloc (blk_alloc (blk_alloc (blk_new w0 (.map #[] 0)) _) _) _)
  have m2 : W0.heap[bi]? = some (.map #[] 0) := by
    have h_ := blk_new (w0.alloc (.map #[] 0)) (.map #[] 0)
    rw [World.size_alloc, ← hbi] at h_
    rw [hW0]
    exact blk_alloc (blk_alloc h_ _) _
  have m3 : W0.heap[bt]? = some (.map #[] 0) := by
    have h_ := blk_new ((w0.alloc (.map #[] 0)).alloc (.map #[] 0)) (.map #[] 0)
    rw [World.size_alloc, World.size_alloc, ← hbt] at h_
    rw [hW0]
    exact blk_alloc h_ _
  have m4 : W0.heap[g]? = some (.cells #[.slice none 0 0, .slice none 0 0, .slice A wl.length c, .slice none 0 0, .map (some bw), .map (some bi), .map (some bt)] 77 (0, 0)) := by
    have h_ := blk_new (((w0.alloc (.map #[] 0)).alloc (.map #[] 0)).alloc (.map #[] 0)) (.cells #[.slice none 0 0, .slice none 0 0, .slice A wl.length c, .slice none 0 0, .map (some w0.heap.size), .map (some (w0.heap.size + 1)), .map (some (w0.heap.size + 1 + 1))] 77 (0, 0))
    rw [World.size_alloc, World.size_alloc, World.size_alloc, ← hgg] at h_
    rw [hW0, hbw, hbi, hbt]
    exact h_
  have hb0 : Below w0.heap.size w0 W0 := by rw [hW0]; exact below_alloc (below_alloc (below_alloc (below_alloc (Below.refl _ _) _) _) _) _
  have S0 := Aside0.mk (show LS w0 W0 g bw bi bt wl (lett 0) [] ([] : List (List Int)) (letT 0) 0 from ⟨_, _, _, A, c, m4, Kd.R_nil _ _ _ _ _, Kd.R_nil _ _ _ _ _, Kd.R_nil _ _ _ _ _, MapF.empty m3, HC.out, by omega, by omega, hb0⟩)
  have C0 := Aside0.mk (show CM W0 bw bi bt 0 (nsOf wl) (cps []) w0.heap.size from CM_start m1 m2 (by omega))
  rw [← hgg]
  try rw [← hbt]
  try rw [← hbi]
  try rw [← hbw]
  clear hW0 hbw hbi hbt hgg m1 m2 m3 m4 hb0 hm1 hm2 hm3
  go_wp2
  go_loopg [16] 256 (fun kq v16 w' => ∃ n : Nat, v16 = .int .i64 (n : Int) ∧ Aside0 (n + kq = 256) ∧ Aside0 (LS w0 w' g bw bi bt wl (lett n) [] ([] : List (List Int)) (letT n) n) ∧ Aside0 (CM w' bw bi bt 0 (nsOf wl) (cps []) w0.heap.size))
  case atStart => exact ⟨0, rfl, ⟨by omega⟩, S0, C0⟩
  case round =>
    clear S0 C0
    obtain ⟨n, rfl, HK, HS, HCM⟩ := hrel
    cases gk with
    | zero =>
      have en : n = 256 := by have := HK.out; omega
      subst en
      have S1 := Aside0.mk HS.out
      have C1 := Aside0.mk HCM.out
      clear HK HS HCM
      go_wp2
      go_loopg [28] wl.length (fun kq v28 w' => ∃ n : Nat, v28 = .int .i64 (n : Int) ∧ Aside0 (n + kq = wl.length) ∧ Aside0 (LS w0 w' g bw bi bt wl (lett 256) [] ((wl.map (fun x => x.f0)).take n) (letT 256) 256) ∧ Aside0 (CM w' bw bi bt (n * 20000) (nsOf wl) (cps ((wl.map (fun x => x.f0)).take n)) w0.heap.size))
      case atStart => exact ⟨0, rfl, ⟨by omega⟩, S1, C1⟩
      case round =>
        clear S1 C1
        obtain ⟨n, rfl, HK, HS, HCM⟩ := hrel
        cases gk with
        | zero =>
          have c1 := eq_false (show ¬ (n < wl.length) from by have := HK.out; omega)
          go_wp2
          go_ret
          have en : (wl.map (fun x => x.f0)).take n = wl.map (fun x => x.f0) := List.take_of_length_le (by rw [List.length_map]; have := HK.out; omega)
          have h1 := HS.out; have h2 := HCM.out
          rw [en] at h1 h2
          exact ⟨g, bw, bi, bt, rfl, h1, h2.mono (by have := HK.out; have := HLW.out; omega)⟩
        | succ k1 =>
          have hnl : n < wl.length := by have := HK.out; omega
          have c1 := eq_true hnl
          have hwn : wrap64 ((n : Int) + 1) = (n : Int) + 1 := by have := HLW.out; unfold wrap64; omega
          obtain ⟨vt, vm, vp, Aw, cw, hg, h1, h2, h3, h4, h5, h6, h7, h8⟩ := HS.out
          obtain ⟨ad, A0, c0, e, x0, x1, hl0, hc0⟩ := at_T68 HC.out (n : Int) (by omega) (by omega)
          subst e
          have hmem : rd_T68 wl (n : Int) ∈ wl := by rw [rd_T68, Int.toNat_natCast, List.getD_eq_getElem?_getD, List.getElem?_eq_getElem hnl, Option.getD_some]; exact List.getElem_mem hnl
          have hall : (wl.map (fun x => x.f0)).getD n [] = (rd_T68 wl (n : Int)).f0 := by
            rw [rd_T68, Int.toNat_natCast, List.getD_eq_getElem?_getD, List.getD_eq_getElem?_getD, List.getElem?_map, List.getElem?_eq_getElem hnl]
            rfl
          have htake : (wl.map (fun x => x.f0)).take (n + 1) = (wl.map (fun x => x.f0)).take n ++ [(rd_T68 wl (n : Int)).f0] := by
            rw [List.take_succ_eq_append_getElem (by rw [List.length_map]; exact hnl), ← hall, List.getD_eq_getElem?_getD, List.getElem?_eq_getElem (by rw [List.length_map]; exact hnl)]
            rfl
          have htl : ((wl.map (fun x => x.f0)).take n).length = n := by rw [List.length_take, List.length_map]; omega
          have hbt := HBY.out _ hmem
          have htot := tot_get (wl.map (fun x => x.f0)) n
          rw [hall] at htot
          rw [Int.toNat_natCast] at x0 x1
          generalize hst : rd_T68 wl (n : Int) = st at *
          obtain ⟨tb, N⟩ := st
          simp only at x0 x1 hl0 hc0 hall htake hbt htot
          have HFA := Aside0.mk (And.intro hall (And.intro htake (And.intro htl hbt)))
          have HTL := Aside0.mk (show tb.length ≤ 16384 from Nat.le_trans htot HT.out)
          have HLS := Aside0.mk (And.intro hg (And.intro h1 (And.intro h2 (And.intro h3 (And.intro h4 (And.intro h5 (And.intro h6 (And.intro h7 h8))))))))
          have HC0 := Aside0.mk (Kd.C_below hc0 h8)
          have HL0 := Aside0.mk hl0
          replace x0 := pw_cell_below h8 x0
          replace x1 := pw_cell_below h8 x1
          have p0 := eq_true (show (0 : Int) ≤ (n : Int) from by omega)
          have p1 := eq_true (show (n : Int) < (wl.length : Int) from by omega)
          clear hmem hall htake htl hbt htot hst hg h1 h2 h3 h4 h5 h6 h7 h8 hc0 hl0
          generalize hps : (wl.map (fun x => x.f0)).take n = ps at *
          have HPS := Aside0.mk hps; clear hps
          go_upto_region 10 with (fail)
          have b1 := blk_new wr (.cells #[.slice A0 tb.length c0, .int .i64 N] 68 (0, 0))
          have hb1 : Below wr.heap.size wr (wr.alloc (.cells #[.slice A0 tb.length c0, .int .i64 N] 68 (0, 0))) := below_alloc (Below.refl _ _) _
          obtain ⟨q, hq⟩ : ∃ q, q = wr.heap.size := ⟨_, rfl⟩
          rw [← hq] at b1
          try rw [← hq]
          generalize wr.alloc (.cells #[.slice A0 tb.length c0, .int .i64 N] 68 (0, 0)) = W1 at b1 hb1 ⊢
          have HB1 := Aside0.mk hb1
          have HC1 := Aside0.mk (Kd.C_below HC0.out hb1)
          have y0 := blk_cell b1 0
          simp only [List.getElem?_toArray, List.getElem?_cons_zero, List.getElem?_cons_succ] at y0
          clear b1 hb1 hq x0 x1
          go_wp2
          go_loopg [7, 36] tb.length (fun kq v7 v36 w' => ∃ j : Nat, v36 = .int .i64 (j : Int) ∧ Aside0 (j + kq = tb.length) ∧ Aside0 ((Kd.int .i64).R 2 w' W1.heap.size (fun _ => True) v7 (tb.take j)) ∧ Aside0 (Below W1.heap.size W1 w'))
          case atStart => exact ⟨0, rfl, ⟨by omega⟩, ⟨Kd.R_nil _ _ _ _ _⟩, ⟨Below.refl _ _⟩⟩
          case round =>
            clear y0
            rename World => wi
            obtain ⟨j, rfl, HJ, HV, HBJ⟩ := hrel
            have hjb := HJ.out
            obtain ⟨Ap, cp7, e⟩ := Kd.R_slice HV.out
            subst e
            cases gk with
            | zero =>
              have ej : tb.take j = tb := List.take_of_length_le (by omega)
              have c2 := eq_false (show ¬ (j < tb.length) from by omega)
              have hv := HV.out
              rw [ej] at hv
              rw [ej]
              have HV2 := Aside0.mk hv
              have hbw := below_two HB1.out HBJ.out
              obtain ⟨hg, h1, h2, h3, h4, h5, h6, h7, h8⟩ := HLS.out
              have kc := KeepC.of_below (bt := bt) h8.size hbw
              obtain ⟨Avp, cvp, e⟩ := Kd.R_slice h3
              subst e
              have G2 := Aside0.mk (kc.blk hg)
              have L2 := Aside0.mk (And.intro (kc.R h1) (And.intro (kc.R h2) (And.intro (kc.R h3) (And.intro (h4.below hbw) (And.intro h5 (And.intro h6 (And.intro h7 (h8.trans kc.below))))))))
              have C2 := Aside0.mk (HCM.out.keep (KeepM.of_below hbw))
              have NG := Aside0.mk (Kd.R_ne (kc.R h3) (kc.blk hg) (by decide))
              have LB := Aside0.mk (show w0.heap.size ≤ W1.heap.size from Nat.le_trans h8.size HB1.out.size)
              have y3 := blk_cell (kc.blk hg) 3
              simp only [List.getElem?_toArray, List.getElem?_cons_zero, List.getElem?_cons_succ] at y3
              have hpl : ps.length = n := HFA.out.2.2.1
              have HPL := Aside0.mk hpl
              have hps16 : (ps.length + 1) * 24 ≤ 140737488355328 := by have := HLW.out; omega
              have HP16 := Aside0.mk hps16; clear hv hbw hg h1 h2 h3 h4 h5 h6 h7 h8 kc hpl hps16 HV HBJ hjb ej HS HCM HLS
              go_upto_region 17 with ((with_reducible refine gate_builtin (b := .append) (xs := #[.tmp 50, .tmp 52]) rfl ?_); at_builtin; refine Kd.R_append (Kd.slice 2 (Kd.int .i64)) (w0 := w0) w0.heap.size rfl (.tmp 50) (.tmp 52) 72 58 (.slice none 0 0) 24 rfl Try.underlying72 info58 rfl (by decide) (by omega) (.slice Avp ps.length cvp) ps tb [.slice Ap tb.length cp7] (fun _ => True) (fun k => some k ≠ (Value.slice Avp ps.length cvp).ownBlock) rfl rfl ?aP (fun k hk => ⟨trivial, hk⟩) ?aF ?aO ?aB ?aS ?aL ?_; (case aP => exact Kd.M_row (Kd.R_mono (Kd.R_apart' (Kd.R_lower HV2.out LB.out) (Kd.R_typed L2.out.2.2.1) (by decide)) (fun k hk => hk.2))); (case aF => exact fun _ _ => trivial); (case aO => exact L2.out.2.2.1); (case aB => exact L2.out.2.2.2.2.2.2.2); (case aS => exact L2.out.2.2.2.2.2.2.2.size); (case aL => exact HP16.out); intro v8 w8 ho hb hg hat; generalize hpl2 : ps ++ [tb] = pl at ho; have HPL2 := Aside0.mk hpl2; clear hpl2; have O8 := Aside0.mk ho; have HB8 := Aside0.mk hb; have G8 := Aside0.mk hg; obtain ⟨A8, c8, e8⟩ := Kd.R_slice ho; subst e8; have BG8 := Aside0.mk (blk_grown G2.out hg NG.out); have z3 := blk_frozen BG8.out 3; have f3 := blk_cell BG8.out 3; simp only [List.getElem?_toArray, List.getElem?_cons_zero, List.getElem?_cons_succ] at f3; clear ho hb hg hat y3)
              clear z3 f3
              have sp := LS.addp G2.out L2.out.1 L2.out.2.1 L2.out.2.2.1 L2.out.2.2.2.1 L2.out.2.2.2.2.1 L2.out.2.2.2.2.2.1 L2.out.2.2.2.2.2.2.1 G8.out O8.out HB8.out
              have C9 := Aside0.mk (C2.out.keep sp.2)
              have S9 := Aside0.mk sp.1
              clear sp
              generalize w8.setCell ⟨g, 3, none⟩ (.slice A8 pl.length c8) = W9 at C9 S9 ⊢
              obtain ⟨vt', vm', vp', Aw', cw', hg, h1, h2, h3, h4, h5, h6, h7, h8⟩ := S9.out
              obtain ⟨Ap', cap', e⟩ := Kd.R_slice h3
              subst e
              have hplen : pl.length = n + 1 := by rw [← HPL2.out, List.length_append, HPL.out]; rfl
              have hr1 : rd_L9 pl (n : Int) = tb := by rw [rd_L9, Int.toNat_natCast, ← HPL2.out, ← HPL.out]; simp
              have hnl2 : (nsOf wl).length = (wl.map (fun x => x.f0)).length := by rw [nsOf, List.length_map, List.length_map]
              have CB := Aside0.mk (count_calls w0.heap.size bt g bw bi (n * 20000) vt' vm' Aw' Ap' cw' cap' wl pl (cps ps) n 1 (.inl rfl) hnl (by omega) (fun j' _ => by
                  rw [hr1, ← HPS.out]
                  have h9 := okc_snoc hnl2 HN.out HT.out n j' (by rw [List.length_map]; exact hnl)
                  rw [HFA.out.1] at h9
                  exact h9) (by rw [hr1]; exact fun x hx => by have := HFA.out.2.2.2 x hx; unfold W64; omega) (by rw [hr1]; have := HTL.out; have := HLW.out; omega) (by have := HLW.out; omega) (by have := HLW.out; omega) W9 h8.size h4.lt hg (Kd.R_reads' h3).2.2 (Kd.C_below h5 h8) C9.out)
              rw [hr1] at CB
              have hcs := cps_snoc ps tb
              rw [HPL.out, HPL2.out] at hcs
              have HCS := Aside0.mk hcs; clear hg h1 h2 h3 h4 h5 h6 h7 h8 hplen hr1 hnl2 hcs
              go_wp2_with (go_at_call 50; (with_reducible refine CB.out.mono ?_); rintro e w10 ⟨rfl, hk, hc⟩; have K10 := Aside0.mk hk; have C10 := Aside0.mk hc; clear hk hc)
              go_roundg k1
              case measure => omega
              exact ⟨n + 1, by first | (push_cast; rfl) | (rw [hwn]; push_cast; rfl), ⟨by have := HK.out; omega⟩, ⟨by rw [HFA.out.2.1, HPL2.out]; exact S9.out.keep K10.out⟩, ⟨by rw [HFA.out.2.1, HPL2.out, ← HCS.out]; exact C10.out.mono (by have := HTL.out; rw [Nat.succ_mul]; omega)⟩⟩
            | succ k2 =>
              have hjl : j < tb.length := by omega
              have c2 := eq_true hjl
              obtain ⟨adw, e, xb⟩ := Kd.at_int HC1.out (j : Int) (by omega) (by omega)
              subst e
              replace xb := pw_cell_below HBJ.out xb
              rw [Int.toNat_natCast] at xb
              have hrb := rd_byte HFA.out.2.2.2 hjl
              have htk := take_rd hjl
              generalize rd tb (j : Int) = x at xb hrb htk
              have HTK := Aside0.mk htk
              have hwj : wrap64 ((j : Int) + 1) = (j : Int) + 1 := by have := HTL.out; unfold wrap64; omega
              have p2 := eq_true (show (0 : Int) ≤ (j : Int) from by omega)
              have p3 := eq_true (show (j : Int) < (tb.length : Int) from by omega)
              have hlj : (tb.take j).length = j := by rw [List.length_take]; omega
              have HLJ := Aside0.mk (show ((tb.take j).length + 1) * 8 ≤ 140737488355328 from by have := HTL.out; omega)
              clear htk hjb hlj
              generalize htj : tb.take j = tj at *
              have HTJ := Aside0.mk htj; clear htj
              go_wp2_with ((with_reducible refine gate_builtin (b := .append) (xs := #[.tmp 40, .tmp 43]) rfl ?_); at_builtin; refine Kd.R_append (Kd.int .i64) (w0 := W1) W1.heap.size rfl (.tmp 40) (.tmp 43) 58 2 (.int .i64 0) 8 rfl Try.underlying58 info2 rfl (by decide) (by omega) (.slice Ap tj.length cp7) tj x [.int .i64 x] (fun _ => True) (fun _ => False) rfl rfl ?aP (fun _ hk => hk.elim) ?aF ?aO ?aB ?aS ?aL ?_; (case aP => exact rfl); (case aF => exact fun _ _ => trivial); (case aO => exact HV.out); (case aB => exact HBJ.out); (case aS => exact HBJ.out.size); (case aL => exact HLJ.out); intro v8 w8 ho hb hg hat; have O8 := Aside0.mk ho; have HB8 := Aside0.mk hb; clear ho hb hg hat xb)
              go_roundg k2
              case measure => omega
              exact ⟨j + 1, by first | (push_cast; rfl) | (rw [hwj]; push_cast; rfl), ⟨by have := HJ.out; omega⟩, ⟨by rw [HTK.out]; exact O8.out⟩, HB8⟩
    | succ k1 =>
      have c1 := eq_true (show n < 256 from by have := HK.out; omega)
      have hmod : (n : Int) % 256 = (n : Int) := by have := HK.out; omega
      have hwn : wrap64 ((n : Int) + 1) = (n : Int) + 1 := by have := HK.out; unfold wrap64; omega
      have PC := Aside0.mk (put_calls (HS.out.below (below_alloc (Below.refl _ _) (.cells #[.int .u8 (n : Int)] 5 (0, 0)))) (.slice (some ⟨wr.heap.size, 0, none⟩) 1 1) [(n : Int)] 0 false (one_byte wr w0.heap.size HS.out.base n) (by rw [lett_len]; have := HK.out; omega) (by rw [str_size]; simp [maxLen]) (by have := HK.out; unfold maxLen; omega))
      have LN := Aside0.mk (lett_len n)
      go_wp2_with (go_at_call 32; (with_reducible refine PC.out.mono ?_); rintro e w3 ⟨rfl, h1, h2, h3, h4⟩; have S3 := Aside0.mk h1; have K3 := Aside0.mk h2; clear h1 h2 h3 h4)
      go_roundg k1
      case measure => omega
      refine ⟨n + 1, by push_cast; rfl, ⟨by have := HK.out; omega⟩, ⟨?_⟩, ⟨(HCM.out.keep (KeepM.of_below (below_alloc (Below.refl _ _) _))).keep K3.out⟩⟩
      have h9 := S3.out
      rw [LN.out] at h9
      exact h9
end Go.Proofs.Ytkdegcpfjfgajaa.X
