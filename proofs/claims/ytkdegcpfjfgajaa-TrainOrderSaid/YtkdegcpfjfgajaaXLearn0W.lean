/- train.Learn walked (func 12). Conditions: the corpus and the special tokens fit. -/
import Derived.Test.YtkdegcpfjfgajaaPlW
namespace Go.Proofs.Ytkdegcpfjfgajaa.X
open Go Go.RowKit Go.Maps Go.Proofs.YtkdegcpfjfgajaaW.PrintWords Go.Proofs.YtkdegcpfjfgajaaW.PrintLast Go.Proofs.YtkdegcpfjfgajaaW.PrintMore Go.Proofs.Ytkdegcpfjfgajaa.Mg Go.Proofs.Ytkdegcpfjfgajaa.Pt Go.Proofs.Ytkdegcpfjfgajaa.Q
attribute [local go_sem] Go.Proofs.Ytkdegcpfjfgajaa.Fl.run_store_float Go.Proofs.Ytkdegcpfjfgajaa.Fl.run_fsub
set_option linter.unusedVariables false
set_option linter.unusedSimpArgs false
theorem LS.bel {w0 W : World} {g bw bi bt nt : Nat} {wl : List S68} {ts : List S43} {ms : List S38} {parts : List (List Int)} {T : ByteArray → Option Int} (h : LS w0 W g bw bi bt wl ts ms parts T nt) : Below w0.heap.size w0 W := by
  obtain ⟨vt, vm, vp, Aw, cw, hg, h1, h2, h3, h4, h5, h6, h7, h8⟩ := h
  exact h8
theorem spT_snoc (T : Ids) : ∀ (l : List (List Int)) (s : List Int), spT T (l ++ [s]) = upd (spT T l) (strOfNums s) (some (-1))
  | [], s => rfl
  | x :: t, s => by rw [List.cons_append, spT, spT, spT_snoc _ t s]
theorem lett_tok : ∀ (n : Nat) (i : Int), (rd_T43 (lett n) i).f0.length ≤ 32
  | 0, i => by
    have : rd_T43 (lett 0) i = z43 := by rw [rd_T43, lett]; rfl
    rw [this]
    exact Nat.zero_le _
  | n + 1, i => by
    rw [lett, rd_snoc]
    split
    · exact lett_tok n i
    · split
      · exact (by decide : (1 : Nat) ≤ 32)
      · exact Nat.zero_le _
theorem rd_L1_take (sp : List (List Int)) (n : Nat) (h : n < sp.length) : sp.take (n + 1) = sp.take n ++ [rd_L1 sp (n : Int)] := by
  rw [List.take_succ_eq_append_getElem h, rd_L1, Int.toNat_natCast, List.getD_eq_getElem?_getD, List.getElem?_eq_getElem h, Option.getD_some]
theorem sub_some : (List.range 4097).all (fun n => (floatBits .sub .f64 0 (floatOfInt .f64 (n : Int))).isSome) = true := by kernel_rfl
theorem sub_ok {n : Nat} (h : n ≤ 4096) : (floatBits .sub .f64 0 (floatOfInt .f64 (n : Int))).isSome = true := List.all_eq_true.1 sub_some n (List.mem_range.2 (by omega))
def T12r8 : Bool × List (List Nat × List Nat) := (true, [([], []), ([0], [0]), ([1], [1]), ([2], [2]), ([], []), ([4], [4]), ([3, 5, 0, 1, 2, 3, 4, 5], [3, 5])])
def B12r8 : List Nat := [0, 1, 3, 7, 0, 16, 63]
theorem tab12r8 : rtab .any (opsOf Try.f12 8) = T12r8 := by kernel_rfl
theorem bits12r8 : waitsOk T12r8.2 B12r8 = true := by kernel_rfl
set_option maxHeartbeats 4000000 in
set_option maxRecDepth 100000 in
theorem learn_err (k : Nat) (A0 : Option Addr) (c0 : Nat) (wl : List S68) (m : Int) (A2 : Option Addr) (c2 : Nat) (sp : List (List Int)) (e_ : Int) (w : World) (hr0 : Kd.C k68 w A0 wl.length wl) (hc0 : wl.length ≤ c0) (hr2 : Kd.C (Kd.slice 5 (Kd.int .u8)) w A2 sp.length sp) (hc2 : sp.length ≤ c2)
    (h : train_asked.f k wl m sp = some e_) (he : e_ ≠ 0) :
    Calls Try.prog 12 #[.slice A0 wl.length c0, .int .i64 m, .slice A2 sp.length c2] w fun e w' => e = .returned (.tuple #[.agg #[.slice none 0 0, .slice none 0 0], .int .i64 e_]) ∧ Below w.heap.size w w' := by
  have TA := Aside0.mk (fun (W : World) (hW : Below w.heap.size w W) => train_asked.calls k A0 c0 wl m A2 c2 sp e_ W (Kd.C_below hr0 hW) hc0 (Kd.C_below hr2 hW) hc2 h)
  have e1 : (e_ != 0) = true := by simpa using he
  have e2 : (e_ == 0) = false := beq_eq_false_iff_ne.mpr he
  have B6 := Aside0.mk (blk_new w (.cells #[.slice none 0 0, .slice none 0 0] 30 (0, 0)))
  have HB1 := Aside0.mk (below_alloc (Below.refl w.heap.size w) (.cells #[.slice none 0 0, .slice none 0 0] 30 (0, 0)))
  clear hr0 hc0 hr2 hc2 h he
  go_enter Try.func12, Try.ntmps12
  go_wp2_with (go_at_call 28; (with_reducible refine (TA.out _ ?tb).mono ?_); (case tb => repeat (first | exact Below.refl _ _ | apply below_alloc | apply below_drew1 | apply pw_below_drewN)); rintro e w1 ⟨rfl, k2⟩; have K1 := Aside0.mk k2; have z0 := blk_frozen (blk_below B6.out k2) 0; have z1 := blk_frozen (blk_below B6.out k2) 1; have d0 := blk_cell (blk_below B6.out k2) 0; have d1 := blk_cell (blk_below B6.out k2) 1; simp only [List.getElem?_toArray, List.getElem?_cons_zero, List.getElem?_cons_succ] at d0 d1; clear k2)
  have b9 := (blk_set (blk_set (blk_below B6.out K1.out) 0 (.slice none 0 0)) 1 (.slice none 0 0)).trans (show _ = some (Obj.cells #[.slice none 0 0, .slice none 0 0] 30 (0, 0)) from by simp)
  refine bodyPost_ret (results_ct rfl _ _ w.heap.size 30 #[.slice none 0 0, .slice none 0 0] (0, 0) _ rfl b9 Try.underlying30 rfl (by kernel_rfl)) rfl ?_
  exact ⟨rfl, below_set (below_set (below_two HB1.out K1.out) (Nat.le_refl _)) (Nat.le_refl _)⟩
set_option maxHeartbeats 8000000 in
set_option maxRecDepth 100000 in
theorem learn_ok (k : Nat) (A0 : Option Addr) (c0 : Nat) (wl : List S68) (m : Nat) (A2 : Option Addr) (c2 : Nat) (sp : List (List Int)) (w : World) (hr0 : Kd.C k68 w A0 wl.length wl) (hc0 : wl.length ≤ c0) (hr2 : Kd.C (Kd.slice 5 (Kd.int .u8)) w A2 sp.length sp) (hc2 : sp.length ≤ c2)
    (h : train_asked.f k wl m sp = some 0) (hm : m ≤ 3840) (hsp : sp.length ≤ 64) (hsl : ∀ i : Int, (rd_L1 sp i).length ≤ 1000) (hlw : wl.length ≤ 1000) (ht : Pt.tot (wl.map (fun x => x.f0)) ≤ 16384) (hN : ∀ n ∈ nsOf wl, (1 : Int) ≤ n ∧ n ≤ 4294967296) (hby : ∀ x ∈ wl, ∀ b ∈ x.f0, 0 ≤ b ∧ b < 256)
    (st : Lst) (hst : st = lst (nsOf wl) m ⟨lett 256, [], wl.map (fun x => x.f0), spT (letT 256) sp⟩) :
    Calls Try.prog 12 #[.slice A0 wl.length c0, .int .i64 m, .slice A2 sp.length c2] w fun e w' => ∃ v0 v1 : Value, e = .returned (.tuple #[.agg #[v0, v1], .int .i64 0]) ∧ k43.R 43 w' w.heap.size (fun _ => True) v0 (st.ts ++ sp.map (fun s => (⟨s, 0, true⟩ : S43))) ∧ k38.R 38 w' w.heap.size (fun _ => True) v1 st.ms ∧ Below w.heap.size w w' := by
  have TA := Aside0.mk (fun (W : World) (hW : Below w.heap.size w W) => train_asked.calls k A0 c0 wl m A2 c2 sp 0 W (Kd.C_below hr0 hW) hc0 (Kd.C_below hr2 hW) hc2 h)
  have TB := Aside0.mk (fun (W : World) (hW : Below w.heap.size w W) => begin_calls A0 c0 wl W (Kd.C_below hr0 hW) hlw ht hN hby)
  have HR2 := Aside0.mk hr2; have HM := Aside0.mk hm; have HSP := Aside0.mk hsp; have HSL := Aside0.mk hsl; have HLW := Aside0.mk hlw; have HST := Aside0.mk hst
  have HOK0 := Aside0.mk (show LOk (nsOf wl) ⟨lett 256, [], wl.map (fun x => x.f0), spT (letT 256) sp⟩ from ⟨by simp [lett_len], by rw [nsOf, List.length_map, List.length_map], ht, fun i x hx => by
    have h1 : ((lett 256).length : Int) = 256 := by rw [lett_len]; rfl
    show 0 ≤ x ∧ x < ((lett 256).length : Int)
    rw [h1]
    have hx2 : x ∈ (wl.map (fun x => x.f0)).getD i [] := hx
    by_cases hi : i < wl.length
    · rw [List.getD_eq_getElem?_getD, List.getElem?_map, List.getElem?_eq_getElem hi] at hx2
      exact hby _ (List.getElem_mem hi) x hx2
    · rw [List.getD_eq_getElem?_getD, List.getElem?_eq_none (by rw [List.length_map]; omega)] at hx2
      exact absurd hx2 (by simp), lett_tok 256, hN⟩)
  have b6 := blk_new w (.cells #[.slice none 0 0, .slice none 0 0] 30 (0, 0))
  have hb1 := below_alloc (Below.refl w.heap.size w) (.cells #[.slice none 0 0, .slice none 0 0] 30 (0, 0))
  clear hr0 hc0 hr2 hc2 h hm hsp hsl hlw ht hN hby hst
  go_enter Try.func12, Try.ntmps12
  go_upto_region 4 with (go_at_call 28; (with_reducible refine (TA.out _ ?tb).mono ?_); (case tb => repeat (first | exact Below.refl _ _ | apply below_alloc | apply below_drew1 | apply pw_below_drewN)); rintro e w1 ⟨rfl, k2⟩; have K1 := Aside0.mk k2; clear k2)
  obtain ⟨q6, hq6⟩ : ∃ q, q = w.heap.size := ⟨_, rfl⟩
  rw [← hq6] at b6
  have B61 := Aside0.mk (blk_below b6 K1.out)
  have HB1 := Aside0.mk (below_two hb1 K1.out)
  have LQ6 := Aside0.mk (show w.heap.size ≤ q6 from by omega)
  try rw [← hq6]
  clear b6 hb1 hq6 K1
  have HR21 := Aside0.mk (Kd.C_below HR2.out HB1.out)
  go_upto_region 5 with (go_at_call 29; (with_reducible refine (TB.out _ ?tb).mono ?_); (case tb => exact HB1.out); rintro e w2 ⟨g, bw, bi, bt, rfl, h1, h2⟩; have S2 := Aside0.mk h1; have C2 := Aside0.mk h2; clear h1 h2)
  clear TA TB HR2
  go_wp2
  go_loopg [28] sp.length (fun kq v28 w' => ∃ n : Nat, v28 = .int .i64 (n : Int) ∧ Aside0 (n + kq = sp.length) ∧ Aside0 (LS w1 w' g bw bi bt wl (lett 256) [] (wl.map (fun x => x.f0)) (spT (letT 256) (sp.take n)) (256 + n)) ∧ Aside0 (CM w' bw bi bt 20000000 (nsOf wl) (cps (wl.map (fun x => x.f0))) w1.heap.size))
  case atStart => exact ⟨0, rfl, ⟨by omega⟩, S2, C2⟩
  case round =>
    clear S2 C2
    obtain ⟨n, rfl, HK, HS, HCM⟩ := hrel
    cases gk with
    | zero =>
      have c1 := eq_false (show ¬ (n < sp.length) from by have := HK.out; omega)
      have en : sp.take n = sp := List.take_of_length_le (by have := HK.out; omega)
      have hs := HS.out
      rw [en] at hs
      have S3 := Aside0.mk (show LS w1 wr g bw bi bt wl (lett 256) [] (wl.map (fun x => x.f0)) (spT (letT 256) sp) (256 + sp.length) from by
        have e9 : n = sp.length := by have := HK.out; omega
        rw [e9] at hs
        exact hs)
      have C3 := Aside0.mk HCM.out
      clear HS HCM hs en HK
      go_wp2
      go_loopg [40] m (fun kq v40 w' => ∃ (i : Nat) (s : Lst), v40 = .int .i64 (i : Int) ∧ Aside0 (i + kq = m) ∧ Aside0 (LS w1 w' g bw bi bt wl s.ts s.ms s.ps s.T (256 + sp.length + s.ms.length)) ∧ Aside0 (CM w' bw bi bt (20000000 + s.ms.length * 40000000) (nsOf wl) (cps s.ps) w1.heap.size) ∧ Aside0 (LOk (nsOf wl) s) ∧ Aside0 (s.ms.length ≤ i) ∧ Aside0 (lst (nsOf wl) kq s = st))
      case atStart => exact ⟨0, ⟨lett 256, [], wl.map (fun x => x.f0), spT (letT 256) sp⟩, rfl, ⟨by omega⟩, S3, ⟨C3.out.mono (Nat.le_add_right _ _)⟩, HOK0, ⟨Nat.le_refl _⟩, ⟨HST.out.symm⟩⟩
      case round =>
        clear S3 C3
        obtain ⟨i, s, rfl, HK, HS, HCM, HOK, HI, HLT⟩ := hrel
        cases gk with
        | zero =>
          have c1 := eq_false (show ¬ (i < m) from by have := HK.out; omega)
          have es : s = st := HLT.out
          subst es
          have LMS := Aside0.mk (show s.ms.length ≤ 3840 from by have := HI.out; have := HK.out; have := HM.out; omega)
          have S5 := Aside0.mk (show ∃ nt, nt ≤ 10000 ∧ LS w1 wr g bw bi bt wl s.ts s.ms s.ps s.T nt from ⟨_, by have := LMS.out; have := HSP.out; omega, HS.out⟩)
          have TSL := Aside0.mk (show s.ts.length ≤ 5000 from by have := HOK.out.len; have := LMS.out; omega)
          clear HK HI HLT HCM HS
          go_wp2
          go_loopg [55] sp.length (fun kq v55 w' => ∃ n : Nat, v55 = .int .i64 (n : Int) ∧ Aside0 (n + kq = sp.length) ∧ Aside0 (∃ T' nt, nt ≤ 10000 + n ∧ LS w1 w' g bw bi bt wl (s.ts ++ (sp.take n).map (fun s => (⟨s, 0, true⟩ : S43))) s.ms s.ps T' nt))
          case atStart =>
            refine ⟨0, rfl, ⟨by omega⟩, ⟨?_⟩⟩
            obtain ⟨nt, h1, h2⟩ := S5.out
            exact ⟨_, nt, by omega, by rw [List.take_zero, List.map_nil, List.append_nil]; exact h2⟩
          case round =>
            clear S5
            obtain ⟨n, rfl, HK, HS⟩ := hrel
            cases gk with
            | zero =>
              have c1 := eq_false (show ¬ (n < sp.length) from by have := HK.out; omega)
              have en : sp.take n = sp := List.take_of_length_le (by have := HK.out; omega)
              obtain ⟨T', nt, hnt, vt, vm, vp, Aw, cw, hg, h1, h2, h3, h4, h5, h6, h7, h8⟩ := HS.out
              rw [en] at h1
              obtain ⟨Av, cv, e⟩ := Kd.R_slice h1
              subst e
              obtain ⟨Am, cm, e⟩ := Kd.R_slice h2
              subst e
              generalize hfin : s.ts ++ sp.map (fun s => (⟨s, 0, true⟩ : S43)) = fin at *
              have HFIN := Aside0.mk hfin
              have y0 := blk_cell hg 0
              have y1 := blk_cell hg 1
              have b6 := (h8.block q6 (blk_lt B61.out)).trans B61.out
              have B6 := Aside0.mk b6; have R1_ := Aside0.mk h1; have R2_ := Aside0.mk h2; have HB8 := Aside0.mk h8
              have z0 := blk_frozen b6 0
              have z1 := blk_frozen b6 1
              have d0 := blk_cell b6 0
              have d1 := blk_cell b6 1
              simp only [List.getElem?_toArray, List.getElem?_cons_zero, List.getElem?_cons_succ] at y0 y1 d0 d1
              clear hg h1 h2 h3 h4 h5 h6 h7 h8 b6 hfin en
              go_wp2
              clear y0 y1 z0 z1 d0 d1
              have b9 := (blk_set (blk_set B6.out 0 (.slice Av fin.length cv)) 1 (.slice Am s.ms.length cm)).trans (show _ = some (Obj.cells #[.slice Av fin.length cv, .slice Am s.ms.length cm] 30 (0, 0)) from by simp)
              refine bodyPost_ret (results_ct rfl _ _ q6 30 #[.slice Av fin.length cv, .slice Am s.ms.length cm] (0, 0) _ rfl b9 Try.underlying30 rfl (by kernel_rfl)) rfl ?_
              refine ⟨_, _, rfl, ?_, ?_, below_set (below_set (HB1.out.trans (HB8.out.mono HB1.out.size)) LQ6.out) LQ6.out⟩
              · rw [HFIN.out]
                exact Kd.R_lower (Kd.R_set (Kd.R_set R1_.out B6.out (by decide) 0 _) ((blk_set B6.out 0 _)) (by decide) 1 _) HB1.out.size
              · exact Kd.R_lower (Kd.R_set (Kd.R_set R2_.out B6.out (by decide) 0 _) ((blk_set B6.out 0 _)) (by decide) 1 _) HB1.out.size
            | succ k9 =>
              have hnl : n < sp.length := by have := HK.out; omega
              have c1 := eq_true hnl
              have hwn : wrap64 ((n : Int) + 1) = (n : Int) + 1 := by have := HSP.out; unfold wrap64; omega
              obtain ⟨T', nt, hnt, hS⟩ := HS.out
              obtain ⟨ads, As, cs, e, xs, hls, hcs⟩ := at_L1 HR21.out (n : Int) (by omega) (by omega)
              subst e
              rw [Int.toNat_natCast] at xs
              have htk := rd_L1_take sp n hnl
              have hln := HSL.out (n : Int)
              generalize rd_L1 sp (n : Int) = sb at *
              have HTK := Aside0.mk htk
              have hb8 : Below w1.heap.size w1 wr := LS.bel hS
              have HBW := Aside0.mk hb8; have HSS := Aside0.mk hS; have HNT := Aside0.mk hnt; have HLN := Aside0.mk hln
              have HZ := Aside0.mk (show (strOfNums sb).size ≤ maxLen from by rw [str_size]; unfold maxLen; omega)
              have HCS := Aside0.mk (Kd.C_below hcs hb8)
              have HTSL := Aside0.mk (show (s.ts ++ (sp.take n).map (fun s => (⟨s, 0, true⟩ : S43))).length ≤ 1000000000 from by
                rw [List.length_append, List.length_map, List.length_take]
                have := TSL.out
                have := HSP.out
                omega)
              replace xs := pw_cell_below hb8 xs
              have p0 := eq_true (show (0 : Int) ≤ (n : Int) from by omega)
              have p1 := eq_true (show (n : Int) < (sp.length : Int) from by omega)
              have HMAP := Aside0.mk (show s.ts ++ (sp.take (n + 1)).map (fun s => (⟨s, 0, true⟩ : S43)) = (s.ts ++ (sp.take n).map (fun s => (⟨s, 0, true⟩ : S43))) ++ [⟨sb, 0, true⟩] from by rw [htk, List.map_append, List.append_assoc]; rfl)
              clear hls hcs hln htk hnl hb8 hS hnt HS
              go_wp2_with (first
                | ((with_reducible refine gate_builtin (b := .append) (xs := #[.const (.slice none 0 0), .tmp 60]) rfl ?_); at_builtin; refine Kd.R_append_rows (Kd.int .u8) (w0 := w1) w1.heap.size rfl (.const (.slice none 0 0)) (.tmp 60) 40 5 (.int .u8 0) 1 rfl Try.underlying40 info5 rfl (by decide) (by omega) (.slice none 0 0) ([] : List Int) sb As sb.length cs (fun _ => True) (fun _ => False) rfl rfl ?aO ?aR (fun _ _ h => h) (fun _ h => h.elim) ?aF ?aB ?aS ?aL ?_; (case aO => exact Kd.R_nil _ _ _ _ _); (case aR => exact HCS.out); (case aF => exact fun _ _ => trivial); (case aB => exact HBW.out); (case aS => exact HBW.out.size); (case aL => have := HLN.out; (try simp only [List.length_nil, Nat.zero_add]); omega); intro v8 w8 ho hb hg hat; rw [List.nil_append] at ho; obtain ⟨A8, c8, e8⟩ := Kd.R_slice ho; subst e8; have O8 := Aside0.mk ho; have KB8 := Aside0.mk (show Below wr.heap.size wr w8 from ⟨hg.os, hg.tape, hg.output, hg.size, fun i hi => hg.block i hi (by simp [Value.ownBlock])⟩); clear ho hb hg hat xs)
                | (go_at_call 32; (with_reducible refine (put_calls (HSS.out.below KB8.out) (.slice A8 sb.length c8) sb 0 true O8.out HTSL.out HZ.out (by have := HNT.out; have := HSP.out; have := HK.out; unfold maxLen; omega)).mono ?_); rintro e w9 ⟨rfl, h1, h2, h3, h4⟩; have S9 := Aside0.mk h1; clear h1 h2 h3 h4))
              go_roundg k9
              case measure => omega
              exact ⟨n + 1, by first | (push_cast; rfl) | (rw [hwn]; push_cast; rfl), ⟨by have := HK.out; omega⟩, ⟨_, nt + 1, by have := HNT.out; omega, by rw [HMAP.out]; exact S9.out⟩⟩
        | succ k1 =>
          have c1 := eq_true (show i < m from by have := HK.out; omega)
          have hwi : wrap64 ((i : Int) + 1) = (i : Int) + 1 := by have := HK.out; have := HM.out; unfold wrap64; omega
          have LMS := Aside0.mk (show s.ms.length ≤ 3840 from by have := HI.out; have := HK.out; have := HM.out; omega)
          obtain ⟨Q, hq⟩ := HCM.out
          have NC := Aside0.mk (next_calls HS.out hq.1 (fun x _ hx => HOK.out.key hx) (fun i => Nat.le_trans (HOK.out.tok i) (by decide)))
          clear hq
          go_upto_region 13 with (go_at_call 30; (with_reducible refine NC.out.mono ?_); rintro e w3 ⟨kp, n, fd, rfl, hI, hb⟩; have BI := Aside0.mk hI; have K3 := Aside0.mk hb; clear hI hb)
          obtain ⟨k1_, k2_⟩ := kp
          have b4 := blk_new w3 (.cells #[.int .i64 k1_, .int .i64 k2_] 79 (0, 0))
          have hb4 : Below wr.heap.size wr (w3.alloc (.cells #[.int .i64 k1_, .int .i64 k2_] 79 (0, 0))) := below_two K3.out (below_alloc (Below.refl _ _) _)
          obtain ⟨qk, hqk⟩ : ∃ q, q = w3.heap.size := ⟨_, rfl⟩
          rw [← hqk] at b4
          try simp only
          try rw [← hqk]
          generalize w3.alloc (.cells #[.int .i64 k1_, .int .i64 k2_] 79 (0, 0)) = W4 at b4 hb4 ⊢
          have HB4 := Aside0.mk hb4
          have k0 := blk_cell b4 0
          have k9 := blk_cell b4 1
          simp only [List.getElem?_toArray, List.getElem?_cons_zero, List.getElem?_cons_succ] at k0 k9
          clear b4 hb4 hqk K3
          have hnx := nx_of BI.out
          have hlt := HLT.out
          rw [lst, hnx] at hlt
          cases fd with
          | false =>
            have es : s = st := hlt
            clear hlt hnx; subst es
            have S5 := Aside0.mk (show ∃ nt, nt ≤ 10000 ∧ LS w1 W4 g bw bi bt wl s.ts s.ms s.ps s.T nt from ⟨_, by have := LMS.out; have := HSP.out; omega, HS.out.below HB4.out⟩)
            have TSL := Aside0.mk (show s.ts.length ≤ 5000 from by have := HOK.out.len; have := LMS.out; omega)
            clear HK HI HLT HCM NC HS BI k0 k9
            go_wp2
            go_loopg [55] sp.length (fun kq v55 w' => ∃ n : Nat, v55 = .int .i64 (n : Int) ∧ Aside0 (n + kq = sp.length) ∧ Aside0 (∃ T' nt, nt ≤ 10000 + n ∧ LS w1 w' g bw bi bt wl (s.ts ++ (sp.take n).map (fun s => (⟨s, 0, true⟩ : S43))) s.ms s.ps T' nt))
            case atStart =>
              refine ⟨0, rfl, ⟨by omega⟩, ⟨?_⟩⟩
              obtain ⟨nt, h1, h2⟩ := S5.out
              exact ⟨_, nt, by omega, by rw [List.take_zero, List.map_nil, List.append_nil]; exact h2⟩
            case round =>
              clear S5
              obtain ⟨n, rfl, HK, HS⟩ := hrel
              cases gk with
              | zero =>
                have c1 := eq_false (show ¬ (n < sp.length) from by have := HK.out; omega)
                have en : sp.take n = sp := List.take_of_length_le (by have := HK.out; omega)
                obtain ⟨T', nt, hnt, vt, vm, vp, Aw, cw, hg, h1, h2, h3, h4, h5, h6, h7, h8⟩ := HS.out
                rw [en] at h1
                obtain ⟨Av, cv, e⟩ := Kd.R_slice h1
                subst e
                obtain ⟨Am, cm, e⟩ := Kd.R_slice h2
                subst e
                generalize hfin : s.ts ++ sp.map (fun s => (⟨s, 0, true⟩ : S43)) = fin at *
                have HFIN := Aside0.mk hfin
                have y0 := blk_cell hg 0
                have y1 := blk_cell hg 1
                have b6 := (h8.block q6 (blk_lt B61.out)).trans B61.out
                have B6 := Aside0.mk b6; have R1_ := Aside0.mk h1; have R2_ := Aside0.mk h2; have HB8 := Aside0.mk h8
                have z0 := blk_frozen b6 0
                have z1 := blk_frozen b6 1
                have d0 := blk_cell b6 0
                have d1 := blk_cell b6 1
                simp only [List.getElem?_toArray, List.getElem?_cons_zero, List.getElem?_cons_succ] at y0 y1 d0 d1
                clear hg h1 h2 h3 h4 h5 h6 h7 h8 b6 hfin en
                go_wp2
                clear y0 y1 z0 z1 d0 d1
                have b9 := (blk_set (blk_set B6.out 0 (.slice Av fin.length cv)) 1 (.slice Am s.ms.length cm)).trans (show _ = some (Obj.cells #[.slice Av fin.length cv, .slice Am s.ms.length cm] 30 (0, 0)) from by simp)
                refine bodyPost_ret (results_ct rfl _ _ q6 30 #[.slice Av fin.length cv, .slice Am s.ms.length cm] (0, 0) _ rfl b9 Try.underlying30 rfl (by kernel_rfl)) rfl ?_
                refine ⟨_, _, rfl, ?_, ?_, below_set (below_set (HB1.out.trans (HB8.out.mono HB1.out.size)) LQ6.out) LQ6.out⟩
                · rw [HFIN.out]
                  exact Kd.R_lower (Kd.R_set (Kd.R_set R1_.out B6.out (by decide) 0 _) ((blk_set B6.out 0 _)) (by decide) 1 _) HB1.out.size
                · exact Kd.R_lower (Kd.R_set (Kd.R_set R2_.out B6.out (by decide) 0 _) ((blk_set B6.out 0 _)) (by decide) 1 _) HB1.out.size
              | succ k9 =>
                have hnl : n < sp.length := by have := HK.out; omega
                have c1 := eq_true hnl
                have hwn : wrap64 ((n : Int) + 1) = (n : Int) + 1 := by have := HSP.out; unfold wrap64; omega
                obtain ⟨T', nt, hnt, hS⟩ := HS.out
                obtain ⟨ads, As, cs, e, xs, hls, hcs⟩ := at_L1 HR21.out (n : Int) (by omega) (by omega)
                subst e
                rw [Int.toNat_natCast] at xs
                have htk := rd_L1_take sp n hnl
                have hln := HSL.out (n : Int)
                generalize rd_L1 sp (n : Int) = sb at *
                have HTK := Aside0.mk htk
                have hb8 : Below w1.heap.size w1 wr := LS.bel hS
                have HBW := Aside0.mk hb8; have HSS := Aside0.mk hS; have HNT := Aside0.mk hnt; have HLN := Aside0.mk hln
                have HZ := Aside0.mk (show (strOfNums sb).size ≤ maxLen from by rw [str_size]; unfold maxLen; omega)
                have HCS := Aside0.mk (Kd.C_below hcs hb8)
                have HTSL := Aside0.mk (show (s.ts ++ (sp.take n).map (fun s => (⟨s, 0, true⟩ : S43))).length ≤ 1000000000 from by
                  rw [List.length_append, List.length_map, List.length_take]
                  have := TSL.out
                  have := HSP.out
                  omega)
                replace xs := pw_cell_below hb8 xs
                have p0 := eq_true (show (0 : Int) ≤ (n : Int) from by omega)
                have p1 := eq_true (show (n : Int) < (sp.length : Int) from by omega)
                have HMAP := Aside0.mk (show s.ts ++ (sp.take (n + 1)).map (fun s => (⟨s, 0, true⟩ : S43)) = (s.ts ++ (sp.take n).map (fun s => (⟨s, 0, true⟩ : S43))) ++ [⟨sb, 0, true⟩] from by rw [htk, List.map_append, List.append_assoc]; rfl)
                clear hls hcs hln htk hnl hb8 hS hnt HS
                go_wp2_with (first
                  | ((with_reducible refine gate_builtin (b := .append) (xs := #[.const (.slice none 0 0), .tmp 60]) rfl ?_); at_builtin; refine Kd.R_append_rows (Kd.int .u8) (w0 := w1) w1.heap.size rfl (.const (.slice none 0 0)) (.tmp 60) 40 5 (.int .u8 0) 1 rfl Try.underlying40 info5 rfl (by decide) (by omega) (.slice none 0 0) ([] : List Int) sb As sb.length cs (fun _ => True) (fun _ => False) rfl rfl ?aO ?aR (fun _ _ h => h) (fun _ h => h.elim) ?aF ?aB ?aS ?aL ?_; (case aO => exact Kd.R_nil _ _ _ _ _); (case aR => exact HCS.out); (case aF => exact fun _ _ => trivial); (case aB => exact HBW.out); (case aS => exact HBW.out.size); (case aL => have := HLN.out; (try simp only [List.length_nil, Nat.zero_add]); omega); intro v8 w8 ho hb hg hat; rw [List.nil_append] at ho; obtain ⟨A8, c8, e8⟩ := Kd.R_slice ho; subst e8; have O8 := Aside0.mk ho; have KB8 := Aside0.mk (show Below wr.heap.size wr w8 from ⟨hg.os, hg.tape, hg.output, hg.size, fun i hi => hg.block i hi (by simp [Value.ownBlock])⟩); clear ho hb hg hat xs)
                  | (go_at_call 32; (with_reducible refine (put_calls (HSS.out.below KB8.out) (.slice A8 sb.length c8) sb 0 true O8.out HTSL.out HZ.out (by have := HNT.out; have := HSP.out; have := HK.out; unfold maxLen; omega)).mono ?_); rintro e w9 ⟨rfl, h1, h2, h3, h4⟩; have S9 := Aside0.mk h1; clear h1 h2 h3 h4))
                go_roundg k9
                case measure => omega
                exact ⟨n + 1, by first | (push_cast; rfl) | (rw [hwn]; push_cast; rfl), ⟨by have := HK.out; omega⟩, ⟨_, nt + 1, by have := HNT.out; omega, by rw [HMAP.out]; exact S9.out⟩⟩
          | true =>
            have hlt2 : lst (nsOf wl) k1 (lmrg s (k1_, k2_)) = st := hlt
            have HL2 := Aside0.mk hlt2; clear hlt hlt2 hnx
            have HOK2 := Aside0.mk (HOK.out.mrg BI.out)
            have hkey := HOK.out.key (x := (k1_, k2_)) (by rw [(BI.out.2 rfl).2.1]; rfl)
            have MC := Aside0.mk (merge_calls (HS.out.below HB4.out) (HCM.out.keep (KeepM.of_below HB4.out)) k1_ k2_ hkey.1 hkey.2.1 hkey.2.2.1 hkey.2.2.2 (by rw [(BI.out.2 rfl).2.1]; rfl) (fun i => Nat.le_trans (HOK.out.tok i) (by decide))
              ⟨by have := HOK.out.len; have := LMS.out; omega, by have := LMS.out; omega, HLW.out, by have := HOK.out.ps; rw [nsOf, List.length_map] at this; exact this.symm⟩ (by have := LMS.out; have := HSP.out; omega) (by have := LMS.out; omega) HOK.out.ns HOK.out.tot HOK.out.rng (sub_ok (by have := LMS.out; omega)) (tabOf s.ts (k1_, k2_)) rfl (scOf s.ms) rfl)
            have HLEN := Aside0.mk (show (lmrg s (k1_, k2_)).ms.length = s.ms.length + 1 from by show (s.ms ++ _).length = _; rw [List.length_append]; rfl)
            clear hkey HS HCM HOK HLT NC BI
            go_wp2_with (go_at_call 31; (with_reducible refine MC.out.mono ?_); rintro e w5 ⟨rfl, h1, h2⟩; have S6 := Aside0.mk h1; have C6 := Aside0.mk h2; clear h1 h2)
            go_roundg k1
            case measure => omega
            exact ⟨i + 1, lmrg s (k1_, k2_), by first | (push_cast; rfl) | (rw [hwi]; push_cast; rfl), ⟨by have := HK.out; omega⟩, ⟨by rw [HLEN.out]; exact S6.out⟩, ⟨by rw [HLEN.out]; exact C6.out.mono (by rw [Nat.succ_mul]; omega)⟩, HOK2, ⟨by rw [HLEN.out]; have := HI.out; omega⟩, HL2⟩
    | succ k1 =>
      have hnl : n < sp.length := by have := HK.out; omega
      have c1 := eq_true hnl
      have hwn : wrap64 ((n : Int) + 1) = (n : Int) + 1 := by have := HSP.out; unfold wrap64; omega
      obtain ⟨ads, As, cs, e, xs, hls, hcs⟩ := at_L1 HR21.out (n : Int) (by omega) (by omega)
      subst e
      rw [Int.toNat_natCast] at xs
      have htk := rd_L1_take sp n hnl
      have hln := HSL.out (n : Int)
      generalize rd_L1 sp (n : Int) = sb at *
      have HTK := Aside0.mk htk
      have HZ := Aside0.mk (show (strOfNums sb).size ≤ maxLen from by rw [str_size]; unfold maxLen; omega)
      have HNT := Aside0.mk (show 256 + n < maxLen from by have := HSP.out; unfold maxLen; omega)
      obtain ⟨vt, vm, vp, Aw, cw, hg, h1, h2, h3, h4, h5, h6, h7, h8⟩ := HS.out
      have HMS := Aside0.mk h4; have HBS := Aside0.mk h8; have LBT := Aside0.mk h7
      replace xs := pw_cell_below h8 xs
      have hcr := Kd.C_below hcs h8
      have HCV := Aside0.mk (fun (W' : World) (hW : Below wr.heap.size wr W') => Kd.C_string (P := Try.prog) (A := As) (c := cs) Try.underlying40 Try.underlying5 Try.underlying9 (Kd.C_below hcr hW))
      have y6 := blk_cell hg 6
      simp only [List.getElem?_toArray, List.getElem?_cons_zero, List.getElem?_cons_succ] at y6
      have p0 := eq_true (show (0 : Int) ≤ (n : Int) from by omega)
      have p1 := eq_true (show (n : Int) < (sp.length : Int) from by omega)
      clear hg h1 h2 h3 h4 h5 h6 h7 h8 hcs hls hln htk hcr hnl
      go_upto_region 8 with (fail)
      have hBV : Below wr.heap.size wr wr.drew := below_drew1 (Below.refl _ _)
      refine start_ (n := 7) (S := fun w' => w'.cell? ⟨g, 6, none⟩ = some (.map (some bt)) ∧ (convert 40 9 (.slice As sb.length cs)).run Try.prog w' = .ok (.string (strOfNums sb)) w') (ds := [6]) (bs_ 7 0) (by kernel_rfl) rfl rfl ⟨pw_cell_below (below_drew1 (Below.refl _ _)) y6, HCV.out _ (below_drew1 (Below.refl _ _))⟩ (fun hHeld => ?_); refine with_tabW tab12r8 bits12r8 (fun HT_ HW_ => ?_)
      generalize wr.drew = V8 at hBV hHeld ⊢
      refine pu_ 0 32 (bs_ 7 1) ?_; refine pu_ 1 33 (bs_ 7 3) ?_; refine pu_ 2 34 (bs_ 7 7) ?_; refine tk_ 3 35 (bs_ 7 15) ?_; refine pu_ 4 36 (bs_ 7 31) ?_; refine tk_ 5 37 (bs_ 7 63) ?_
      refine last_ (i := 6) (N := none) (bs_ 7 127) rfl rfl (one_of HT_.out (by kernel_rfl)) (by decide) (fun K hK => ?_)
      obtain ⟨w4, hrun, hM4, hT4⟩ := (HMS.out.below hBV).store HNT.out (x := strOfNums sb) HZ.out (y := -1) (by show W64 _; unfold W64; omega)
      have hrun2 : (Instr.mapUpdate 75 (.map (some bt)) (.string (strOfNums sb)) (.int .i64 (-1))).run Try.prog V8 = .ok () w4 := hrun
      refine skip_ (w1 := ?_) (by rfl) rfl ?_ ?_
      rotate_left
      · go_simp
        rfl
      refine hK.out _ _ ?_
      clear hK K
      refine done_ (done_of HT_.out (by kernel_rfl)) ?_
      have T4 := Aside0.mk hT4; have S4 := Aside0.mk hM4; have KB := Aside0.mk hBV; clear hT4 hM4 hrun hrun2 hBV hHeld y6 xs HCV
      go_wp2
      go_roundg k1
      case measure => omega
      refine ⟨n + 1, by first | (push_cast; rfl) | (rw [hwn]; push_cast; rfl), ⟨by have := HK.out; omega⟩, ⟨?_⟩, ⟨(HCM.out.keep (KeepM.of_below KB.out)).keep (KeepM.of_turned T4.out)⟩⟩
      obtain ⟨vt, vm, vp, Aw, cw, hg, h1, h2, h3, h4, h5, h6, h7, h8⟩ := HS.out.below KB.out
      have hc12 : ∀ {cs : Array Value} {e : TypeId} {gg : Nat}, V8.heap[gg]? = some (.cells cs e (0, 0)) → w4.heap[gg]? = some (.cells cs e (0, 0)) := fun {cs e gg} h => (KeepT.of_turned (E := []) T4.out).blk h (by simp)
      have hr12 : ∀ {α : Type} {d : Kd α} {e : Nat} {v : Value} {xs : List α}, d.R e V8 w1.heap.size (fun _ => True) v xs → d.R e w4 w1.heap.size (fun _ => True) v xs := fun {α d e v xs} h => by
        refine Kd.R_mono (Kd.R_step (Kd.R_bound h) (fun k hk hlt => ?_)) (fun _ _ => trivial)
        obtain ⟨_, _, _, q, _, cells, hc⟩ := hk
        rw [hc12 hc, hc]
      have hsn := spT_snoc (letT 256) (sp.take n) sb
      rw [HTK.out, hsn]
      exact ⟨vt, vm, vp, Aw, cw, hc12 hg, hr12 h1, hr12 h2, hr12 h3, S4.out, h5, h6, h7, h8.grown T4.out.grown h8.size (fun j hj => by cases hj; exact LBT.out)⟩
end Go.Proofs.Ytkdegcpfjfgajaa.X
