/- The plain statement of TrainWell: what is learnt is well formed. No condition. -/
import Derived.Test.YtkdegcpfjfgajaaPnX
import Derived.Test.YtkdegcpfjfgajaaPureTrainMoreX
import Derived.Test.YtkdegcpfjfgajaaL6bX
namespace Go.Proofs.Ytkdegcpfjfgajaa.X
open Go Go.RowKit Go.Proofs.YtkdegcpfjfgajaaW.PrintWords Go.Proofs.Ytkdegcpfjfgajaa.Mg Go.Proofs.Ytkdegcpfjfgajaa.Pt Go.Proofs.Ytkdegcpfjfgajaa.Q
set_option linter.unusedVariables false
set_option linter.unusedSimpArgs false
theorem Ev.mono {α : Type} {g : Nat → Option α} {r : α} (h : ∀ k, LeO (g k) (g (k + 1))) {k0 : Nat} (h0 : g k0 = some r) : Ev g r := by
  refine ⟨k0, fun k hk => ?_⟩
  induction k with
  | zero => rw [show k0 = 0 by omega] at h0; exact h0
  | succ k ih =>
    by_cases c : k0 = k + 1
    · rw [← c]; exact h0
    · exact h k r (ih (by omega))
theorem Ev.congr {α : Type} {f g : Nat → Option α} {r : α} (h : ∀ k, f k = g k) (hg : Ev g r) : Ev f r := by
  obtain ⟨K, hK⟩ := hg
  exact ⟨K, fun k hk => (h k).trans (hK k hk)⟩
/-! ### scores of merges -/
def sco (j : Nat) : Nat := (floatBits .sub .f64 0 (floatOfInt .f64 (j : Int))).getD 0
theorem sco_ok : ∀ j : Nat, j ≤ 25 → imprimaturref01_Valid.f 1 (sco j) = some true ∧ (FloatKind.f64.format.order (sco j) 0 == some .gt) = false := by decide +kernel
theorem zero_ok : imprimaturref01_Valid.f 1 0 = some true ∧ (FloatKind.f64.format.order 0 0 == some .gt) = false ∧ (FloatKind.f64.format.order 0 0 == some .lt) = false := by decide +kernel
theorem sco_le : ∀ j : Nat, j ≤ 24 → ((imprimaturref01_Code.f 1 (sco (j + 1))).bind fun a => (imprimaturref01_Code.f 1 (sco j)).bind fun b => some (decide (a > b))) = some false := by decide +kernel
theorem valid_ev {x : Nat} {b : Bool} (h : imprimaturref01_Valid.f 1 x = some b) : Ev (fun k => imprimaturref01_Valid.f k x) b := Ev.mono (fun k => imprimaturref01_Valid.mono x k) h
theorem code_ev {x : Nat} {c : Int} (h : imprimaturref01_Code.f 1 x = some c) : Ev (fun k => imprimaturref01_Code.f k x) c := Ev.mono (fun k => imprimaturref01_Code.mono x k) h
/-! ### a token by itself -/
theorem form_plain {t : S43} (h1 : 1 ≤ t.f0.length) (h2 : t.f0.length ≤ 32) (h3 : imprimaturref01_Valid.f 1 t.f1 = some true) (h4 : (FloatKind.f64.format.order t.f1 0 == some .gt) = false) (h5 : t.f2 = false) : Ev (fun k => imprimaturref11_form.f k t.f0 t.f1 t.f2) 0 := by
  refine Ev.congr (g := fun k => imprimaturref11_form.j0 k false t.f0 t.f1 t.f2) (fun k => ?_) ?_
  · unfold imprimaturref11_form.f
    rw [if_neg (by omega), if_neg (by omega), h5, if_neg (by simp)]
  · refine Ev.step (f := fun k => (imprimaturref01_Valid.f k t.f1).bind fun t312 => (if t312 = true then (if (FloatKind.f64.format.order t.f1 0 == some .gt) = true then (some 10) else (if t.f2 = true then (if (FloatKind.f64.format.order t.f1 0 == some .lt) = true then (some 10) else (some 0)) else (some 0))) else (some 10))) (fun k => by rw [imprimaturref11_form.j0, if_neg (by simp)]) (Ev.bind (valid_ev h3) ?_)
    simp only [if_true, h4, h5, Bool.false_eq_true, if_false]
    exact Ev.const
theorem form_spec {b : List Int} (h : spB b = true) : Ev (fun k => imprimaturref11_form.f k b 0 true) 0 := by
  rw [spB, decide_eq_true_eq] at h
  obtain ⟨h1, h2, h3, h4⟩ := h
  obtain ⟨z1, z2, z3⟩ := zero_ok
  have hw : wrap64 ((b.length : Int) - 1) = (b.length : Int) - 1 := by unfold wrap64; omega
  refine Ev.congr (g := fun k => imprimaturref11_form.j0 k false b 0 true) (fun k => ?_) ?_
  · unfold imprimaturref11_form.f
    rw [hw, if_neg (by omega), if_neg (by omega), if_pos rfl, if_neg (by omega), if_pos (by omega), if_pos h3, if_pos (by omega), if_pos (by omega), h4]
    rfl
  · refine Ev.step (f := fun k => (imprimaturref01_Valid.f k 0).bind fun t312 => (if t312 = true then (if (FloatKind.f64.format.order 0 0 == some .gt) = true then (some 10) else (if true = true then (if (FloatKind.f64.format.order 0 0 == some .lt) = true then (some 10) else (some 0)) else (some 0))) else (some 10))) (fun k => by rw [imprimaturref11_form.j0, if_neg (by simp)]) (Ev.bind (valid_ev z1) ?_)
    simp only [if_true, z2, z3, Bool.false_eq_true, if_false]
    exact Ev.const
/-! ### the vocabulary -/
section
variable {sp : List (List Int)} {s : Lst}
def vts (s : Lst) (sp : List (List Int)) : List S43 := s.ts ++ sp.map (fun s => (⟨s, 0, true⟩ : S43))
theorem vts_len (s : Lst) (sp : List (List Int)) : (vts s sp).length = s.ts.length + sp.length := by rw [vts, List.length_append, List.length_map]
theorem vts_lo (s : Lst) (sp : List (List Int)) {i : Int} (h : i < s.ts.length) (h0 : 0 ≤ i) : rd_T43 (vts s sp) i = rd_T43 s.ts i := by
  rw [vts, rd_T43, rd_T43, List.getD_eq_getElem?_getD, List.getD_eq_getElem?_getD, List.getElem?_append_left (by omega)]
theorem vts_hi (s : Lst) (sp : List (List Int)) {j : Nat} (h : j < sp.length) : rd_T43 (vts s sp) ((s.ts.length + j : Nat) : Int) = ⟨rd_L1 sp (j : Int), 0, true⟩ := by
  rw [vts, rd_T43, rd_L1, Int.toNat_natCast, Int.toNat_natCast, List.getD_eq_getElem?_getD, List.getD_eq_getElem?_getD, List.getElem?_append_right (by omega), Nat.add_sub_cancel_left, List.getElem?_map, List.getElem?_eq_getElem h]
  rfl
theorem vts_cases {i : Nat} (h : i < (vts s sp).length) : i < s.ts.length ∨ ∃ j, j < sp.length ∧ i = s.ts.length + j := by
  rw [vts_len] at h
  by_cases c : i < s.ts.length
  · exact .inl c
  · exact .inr ⟨i - s.ts.length, by omega, by omega⟩
theorem vts_un (hw : Lw sp s) (hg : spGo sp sp.length 0 = 0) {i j : Nat} (hij : i < j) (hj : j < (vts s sp).length) : strOfNums (rd_T43 (vts s sp) (i : Int)).f0 ≠ strOfNums (rd_T43 (vts s sp) (j : Int)).f0 := by
  rcases vts_cases hj with h | ⟨q, h1, h2⟩
  · rw [vts_lo s sp (by omega) (by omega), vts_lo s sp (by omega) (by omega)]
    exact hw.un i j hij h
  · rcases vts_cases (i := i) (s := s) (sp := sp) (by omega) with h | ⟨p, h3, h4⟩
    · rw [h2, vts_lo s sp (by omega) (by omega), vts_hi s sp h1]
      refine hw.sp i h _ ?_
      rw [rd_L1, Int.toNat_natCast, List.getD_eq_getElem?_getD, List.getElem?_eq_getElem h1, Option.getD_some]
      exact List.getElem_mem h1
    · rw [h2, h4, vts_hi s sp h1, vts_hi s sp h3]
      intro e
      have hz := (spGo_zero sp.length 0 hg q (Nat.zero_le _) (by omega)).2
      rw [amB, List.any_eq_false] at hz
      refine hz (rd_L1 sp (p : Int)) ?_ (by simpa using e)
      rw [rd_L1, Int.toNat_natCast, List.getD_eq_getElem?_getD, List.getElem?_eq_getElem h3, Option.getD_some, List.mem_take_iff_getElem]
      exact ⟨p, by omega, rfl⟩
theorem find_at (ts : List S43) (ms : List S38) (i : Nat) (b : List Int) (hl : ts.length ≤ 1000000) (hi : i < ts.length) (hb : strOfNums (rd_T43 ts (i : Int)).f0 = strOfNums b) (hn : ∀ j : Nat, j < i → strOfNums (rd_T43 ts (j : Int)).f0 ≠ strOfNums b) : Ev (fun k => imprimaturref11_Find.f k ts ms b) (i : Int) := by
  have h : ∀ (d j : Nat), j + d = i → Ev (fun k => imprimaturref11_Find.l0 k b (j : Int) ts ms) (i : Int) := by
    intro d
    induction d with
    | zero =>
      intro j hj
      have : j = i := by omega
      subst this
      refine Ev.of fun k => ?_
      rw [imprimaturref11_Find.l0, if_pos (by omega), if_pos (by omega), if_pos (by rw [hb])]
    | succ d ih =>
      intro j hj
      refine Ev.step (fun k => ?_) (ih (j + 1) (by omega))
      rw [imprimaturref11_Find.l0, if_pos (by omega), if_pos (by omega), if_neg (fun h => hn j (by omega) ((toList_iff _ _).1 h)), w64 (by omega)]
  exact h i 0 (by omega)
theorem len_lo (hw : Lw sp s) : ∀ i : Nat, i < s.ts.length → 1 ≤ (rd_T43 s.ts (i : Int)).f0.length ∧ (256 ≤ i → 2 ≤ (rd_T43 s.ts (i : Int)).f0.length) := by
  intro i
  induction i using Nat.strongRecOn with
  | ind i ih =>
    intro hi
    by_cases c : i < 256
    · rw [hw.lt i c]
      exact ⟨Nat.le_refl _, fun h => by omega⟩
    · have hl := hw.len
      obtain ⟨a, b, -, a0, a1, b0, b1, e, -⟩ := hw.mg (i - 256) (by omega)
      have e2 : (256 : Int) + ((i - 256 : Nat) : Int) = (i : Int) := by omega
      rw [e2] at e
      have ha := (ih a.toNat (by omega) (by omega)).1
      have hb := (ih b.toNat (by omega) (by omega)).1
      rw [show ((a.toNat : Nat) : Int) = a by omega] at ha
      rw [show ((b.toNat : Nat) : Int) = b by omega] at hb
      rw [e]
      simp only [List.length_append]
      exact ⟨by omega, fun _ => by omega⟩
theorem lo_plain (hw : Lw sp s) (hm : s.ms.length ≤ 25) {i : Nat} (hi : i < s.ts.length) : (rd_T43 s.ts (i : Int)).f2 = false ∧ (rd_T43 s.ts (i : Int)).f0.length ≤ 32 ∧ imprimaturref01_Valid.f 1 (rd_T43 s.ts (i : Int)).f1 = some true ∧ (FloatKind.f64.format.order (rd_T43 s.ts (i : Int)).f1 0 == some .gt) = false := by
  by_cases c : i < 256
  · rw [hw.lt i c]
    exact ⟨rfl, by simp, zero_ok.1, zero_ok.2.1⟩
  · have hl := hw.len
    obtain ⟨a, b, -, a0, a1, b0, b1, e, h32⟩ := hw.mg (i - 256) (by omega)
    have e2 : (256 : Int) + ((i - 256 : Nat) : Int) = (i : Int) := by omega
    rw [e2] at e h32
    have e3 : (rd_T43 s.ts (i : Int)).f1 = sco (i - 256) := by unfold sco; rw [e]
    refine ⟨by rw [e], h32, ?_, ?_⟩
    · rw [e3]; exact (sco_ok (i - 256) (by omega)).1
    · rw [e3]; exact (sco_ok (i - 256) (by omega)).2
/-! ### Made -/
theorem short_eq (t : S43) : imprimaturref11_Short.f t.f0 t.f1 t.f2 = some (decide (t.f0.length = 1) && !t.f2) := by
  unfold imprimaturref11_Short.f
  by_cases c : t.f0.length = 1
  · rw [if_pos (by omega), decide_eq_true c, Bool.true_and]
  · rw [if_neg (by omega), decide_eq_false c, Bool.false_and]
theorem made_step (hw : Lw sp s) (hm : s.ms.length ≤ 25) {i : Nat} (hi : i < s.ts.length) (r : Int) {b : Bool} (h : Ev (fun k => (imprimaturref11_Short.f (rd_T43 (vts s sp) (i : Int)).f0 (rd_T43 (vts s sp) (i : Int)).f1 (rd_T43 (vts s sp) (i : Int)).f2).bind fun t317 => (if t317 = true then (some true) else (imprimaturref11_Made.l0 k (i : Int) r 0 (vts s sp) s.ms))) b) : Ev (fun k => imprimaturref11_Made.f k (vts s sp) s.ms (i : Int) r) b := by
  have hL := vts_len s sp
  refine Ev.congr (g := fun k => imprimaturref11_Made.j0 k (i : Int) r false (vts s sp) s.ms) (fun k => ?_) (Ev.step (fun k => ?_) h)
  · unfold imprimaturref11_Made.f
    rw [if_neg (by omega), if_neg (by omega), if_pos (by omega), if_pos (by omega), vts_lo s sp (by omega) (by omega), (lo_plain hw hm hi).1]
  · rw [imprimaturref11_Made.j0, if_neg (by simp), if_pos (by omega), if_pos (by omega)]
theorem made_lo (hw : Lw sp s) (hm : s.ms.length ≤ 25) {i : Nat} (hi : i < 256) (r : Int) : Ev (fun k => imprimaturref11_Made.f k (vts s sp) s.ms (i : Int) r) true := by
  have hl := hw.len
  refine made_step hw hm (by omega) r ?_
  rw [vts_lo s sp (by omega) (by omega), hw.lt i hi]
  exact Ev.const
theorem to_at (hw : Lw sp s) {j : Nat} (hj : j < s.ms.length) : (rd_T38 s.ms (j : Int)).f2 = 256 + (j : Int) := by
  obtain ⟨a, b, e, -⟩ := hw.mg j hj
  rw [e]
theorem made_l0 (hw : Lw sp s) (hm : s.ms.length ≤ 25) (i : Nat) (hi : 256 ≤ i) (r : Nat) (hr : r ≤ s.ms.length) : ∀ (d j : Nat), j + d = r → 256 + j ≤ i → Ev (fun k => imprimaturref11_Made.l0 k (i : Int) (r : Int) (j : Int) (vts s sp) s.ms) (decide (i < 256 + r)) := by
  intro d
  induction d with
  | zero =>
    intro j h1 h2
    refine Ev.of fun k => ?_
    rw [imprimaturref11_Made.l0, if_neg (by omega), decide_eq_false (by omega)]
  | succ d ih =>
    intro j h1 h2
    by_cases c : i = 256 + j
    · refine Ev.of fun k => ?_
      rw [imprimaturref11_Made.l0, if_pos (by omega), if_pos (by omega), if_pos (by omega), to_at hw (by omega), if_pos (by omega), decide_eq_true (by omega)]
    · refine Ev.step (fun k => ?_) (ih (j + 1) (by omega) (by omega))
      rw [imprimaturref11_Made.l0, if_pos (by omega), if_pos (by omega), if_pos (by omega), to_at hw (by omega), if_neg (by omega), w64 (by omega)]
theorem made_hi (hw : Lw sp s) (hm : s.ms.length ≤ 25) {i : Nat} (h0 : 256 ≤ i) (hi : i < s.ts.length) {r : Nat} (hr : r ≤ s.ms.length) : Ev (fun k => imprimaturref11_Made.f k (vts s sp) s.ms (i : Int) (r : Int)) (decide (i < 256 + r)) := by
  refine made_step hw hm hi r ?_
  have h2 := (len_lo hw i hi).2 h0
  have e : imprimaturref11_Short.f (rd_T43 (vts s sp) (i : Int)).f0 (rd_T43 (vts s sp) (i : Int)).f1 (rd_T43 (vts s sp) (i : Int)).f2 = some false := by
    rw [short_eq, vts_lo s sp (by omega) (by omega), decide_eq_false (by omega), Bool.false_and]
  rw [e]
  simp only [Option.bind_some, Bool.false_eq_true, if_false]
  exact made_l0 hw hm i h0 r hr r 0 (by omega) (by omega)
theorem made_all (hw : Lw sp s) (hm : s.ms.length ≤ 25) {i : Nat} {r : Nat} (hr : r ≤ s.ms.length) (hi : i < 256 + r) : Ev (fun k => imprimaturref11_Made.f k (vts s sp) s.ms (i : Int) (r : Int)) true := by
  have hl := hw.len
  by_cases c : i < 256
  · exact made_lo hw hm c _
  · have := made_hi hw hm (i := i) (by omega) (by omega) hr
    rwa [decide_eq_true hi] at this
/-! ### a merge -/
theorem str_app (a b : List Int) : strOfNums (a ++ b) = strOfNums a ++ strOfNums b := by
  have e : ((strOfNums a) ++ (strOfNums b)).data.toList = (strOfNums (a ++ b)).data.toList := by
    rw [ByteArray.data_append, Array.toList_append, str_data, str_data, str_data, List.map_append]
  have e2 : ((strOfNums a) ++ (strOfNums b)).data = (strOfNums (a ++ b)).data := Array.toList_inj.1 e
  exact (ByteArray.ext e2).symm
theorem rmerge_ev (hw : Lw sp s) (hm : s.ms.length ≤ 25) {j : Nat} (hj : j < s.ms.length) : Ev (fun k => imprimaturref11_merge.f k (vts s sp) s.ms (j : Int)) 0 := by
  have hl := hw.len
  have hL := vts_len s sp
  obtain ⟨a, b, e, a0, a1, b0, b1, e2, h32⟩ := hw.mg j hj
  obtain ⟨a, rfl⟩ : ∃ n : Nat, a = (n : Int) := ⟨a.toNat, by omega⟩
  obtain ⟨b, rfl⟩ : ∃ n : Nat, b = (n : Int) := ⟨b.toNat, by omega⟩
  have mA := made_all hw hm (i := a) (r := j) (by omega) (by omega)
  have mB := made_all hw hm (i := b) (r := j) (by omega) (by omega)
  have mT := made_hi hw hm (i := 256 + j) (by omega) (by omega) (r := j) (by omega)
  rw [decide_eq_false (by omega), show ((256 + j : Nat) : Int) = 256 + (j : Int) by omega] at mT
  have hn : (rd_T43 (vts s sp) (256 + (j : Int))).f2 = false := by rw [vts_lo s sp (by omega) (by omega), e2]
  refine Ev.congr (g := fun k => (imprimaturref11_Made.f k (vts s sp) s.ms (a : Int) (j : Int)).bind fun t326 => (if t326 = true then ((imprimaturref11_Made.f k (vts s sp) s.ms (b : Int) (j : Int)).bind fun t327 => (if t327 = true then ((imprimaturref11_Made.f k (vts s sp) s.ms (256 + (j : Int)) (j : Int)).bind fun t329 => (imprimaturref11_merge.j0 k (j : Int) t329 (vts s sp) s.ms (a : Int) (b : Int) (256 + (j : Int)))) else (imprimaturref11_merge.j0 k (j : Int) true (vts s sp) s.ms (a : Int) (b : Int) (256 + (j : Int))))) else (imprimaturref11_merge.j0 k (j : Int) true (vts s sp) s.ms (a : Int) (b : Int) (256 + (j : Int))))) (fun k => ?_) (Ev.bind mA ?_)
  · unfold imprimaturref11_merge.f
    rw [if_pos (by omega), if_pos (by omega), e]
    simp only
    rw [if_neg (by omega), if_neg (by omega), if_pos (by omega), if_pos (by omega), hn, if_neg (by simp)]
  · simp only [if_true]
    refine Ev.bind mB ?_
    simp only [if_true]
    refine Ev.bind mT ?_
    have hA : rd_T43 (vts s sp) (a : Int) = rd_T43 s.ts a := vts_lo s sp (by omega) (by omega)
    have hB : rd_T43 (vts s sp) (b : Int) = rd_T43 s.ts b := vts_lo s sp (by omega) (by omega)
    have hT : rd_T43 (vts s sp) (256 + (j : Int)) = ⟨(rd_T43 s.ts a).f0 ++ (rd_T43 s.ts b).f0, sco j, false⟩ := (vts_lo s sp (by omega) (by omega)).trans e2
    have sA := (lo_plain hw hm (i := a) (by omega)).2.1
    have sB := (lo_plain hw hm (i := b) (by omega)).2.1
    have hstep : ∀ k, imprimaturref11_merge.j0 (k + 1) (j : Int) false (vts s sp) s.ms (a : Int) (b : Int) (256 + (j : Int)) = (if (j : Int) > 0 then ((imprimaturref01_Code.f k (sco j)).bind fun t334 => (if 0 ≤ (wrap64 ((j : Int) - 1)) then (if (wrap64 ((j : Int) - 1)) < (s.ms.length : Int) then (if 0 ≤ ((rd_T38 s.ms (wrap64 ((j : Int) - 1))).f2) then (if ((rd_T38 s.ms (wrap64 ((j : Int) - 1))).f2) < ((vts s sp).length : Int) then ((imprimaturref01_Code.f k ((rd_T43 (vts s sp) ((rd_T38 s.ms (wrap64 ((j : Int) - 1))).f2)).f1)).bind fun t337 => (if t334 > t337 then (some 93) else (some 0))) else (none)) else (none)) else (none)) else (none))) else (some 0)) := fun k => by
      rw [imprimaturref11_merge.j0, if_neg (by simp), if_pos (by omega), if_pos (by omega), if_pos (by omega), if_pos (by omega), if_pos (by rw [hA, hB, str_size, str_size]; omega), if_pos (by omega), if_pos (by omega), hT, hA, hB, if_pos (by rw [str_app])]
    by_cases c : j = 0
    · refine Ev.of fun k => ?_
      rw [hstep, if_neg (by omega)]
    · obtain ⟨i, rfl⟩ : ∃ i, j = i + 1 := ⟨j - 1, by omega⟩
      have hwr : wrap64 (((i + 1 : Nat) : Int) - 1) = (i : Int) := by unfold wrap64; omega
      have hto := to_at hw (j := i) (by omega)
      obtain ⟨_, _, -, -, -, -, -, e3, -⟩ := hw.mg i (by omega)
      have hsc : (rd_T43 (vts s sp) (256 + (i : Int))).f1 = sco i := by rw [vts_lo s sp (by omega) (by omega), e3]; rfl
      have hle := sco_le i (by omega)
      rw [Option.bind_eq_some_iff] at hle
      obtain ⟨x, hx, hle⟩ := hle
      rw [Option.bind_eq_some_iff] at hle
      obtain ⟨y, hy, hle⟩ := hle
      have hxy : ¬ x > y := by
        have := Option.some.inj hle
        exact of_decide_eq_false this
      refine Ev.step (f := fun k => (imprimaturref01_Code.f k (sco (i + 1))).bind fun t334 => ((imprimaturref01_Code.f k (sco i)).bind fun t337 => (if t334 > t337 then (some 93) else (some 0)))) (fun k => ?_) (Ev.bind (code_ev hx) (Ev.bind (code_ev hy) ?_))
      · rw [hstep, if_pos (by omega), hwr, hto, hsc]
        simp only [if_pos (show 0 ≤ (i : Int) by omega), if_pos (show (i : Int) < (s.ms.length : Int) by omega), if_pos (show (0 : Int) ≤ 256 + (i : Int) by omega), if_pos (show 256 + (i : Int) < ((vts s sp).length : Int) by omega)]
      · simp only [if_neg hxy]
        exact Ev.const
/-! ### the whole -/
theorem wrap_two {m n : Nat} (hm : m ≤ 10000) (hn : n ≤ 10000) : wrap64 ((wrap64 (256 + (m : Int))) + (n : Int)) = 256 + (m : Int) + (n : Int) := by unfold wrap64; omega
theorem ck3 (hw : Lw sp s) (hm : s.ms.length ≤ 25) (hs : sp.length ≤ 64) : ∀ (d i : Nat), i + d = (vts s sp).length → Ev (fun k => imprimaturref11_Check.l3 k (i : Int) (vts s sp) s.ms) ((0, 0, 0) : Int × Int × Int) := by
  have hl := hw.len
  have hL := vts_len s sp
  intro d
  induction d with
  | zero =>
    intro i h1
    refine Ev.of fun k => ?_
    rw [imprimaturref11_Check.l3, if_neg (by omega)]
  | succ d ih =>
    intro i h1
    have hi := ih (i + 1) (by omega)
    rcases vts_cases (s := s) (sp := sp) (i := i) (by omega) with h | ⟨q, h2, h3⟩
    · refine Ev.step (f := fun k => (imprimaturref11_Made.f k (vts s sp) s.ms (i : Int) (s.ms.length : Int)).bind fun t352 => (if t352 = true then (imprimaturref11_Check.l3 k ((i + 1 : Nat) : Int) (vts s sp) s.ms) else (some (1, (i : Int), 90)))) (fun k => ?_) (Ev.bind (made_all hw hm (i := i) (r := s.ms.length) (Nat.le_refl _) (by omega)) ?_)
      · rw [imprimaturref11_Check.l3, if_pos (by omega), if_pos (by omega), vts_lo s sp (by omega) (by omega), (lo_plain hw hm h).1, if_neg (by simp), w64 (by omega)]
      · simp only [if_true]; exact hi
    · refine Ev.step (fun k => ?_) hi
      rw [imprimaturref11_Check.l3, if_pos (by omega), if_pos (by omega), h3, vts_hi s sp h2, if_pos rfl, w64 (by omega)]
theorem ck2 (hw : Lw sp s) (hm : s.ms.length ≤ 25) (hs : sp.length ≤ 64) : ∀ (d i : Nat), i + d = s.ms.length → Ev (fun k => imprimaturref11_Check.l2 k (i : Int) (vts s sp) s.ms) ((0, 0, 0) : Int × Int × Int) := by
  intro d
  induction d with
  | zero =>
    intro i h1
    refine Ev.step (fun k => ?_) (ck3 hw hm hs _ 0 (Nat.zero_add _))
    rw [imprimaturref11_Check.l2, if_neg (by omega)]; rfl
  | succ d ih =>
    intro i h1
    refine Ev.step (f := fun k => (imprimaturref11_merge.f k (vts s sp) s.ms (i : Int)).bind fun t350 => (if t350 = 0 then (imprimaturref11_Check.l2 k ((i + 1 : Nat) : Int) (vts s sp) s.ms) else (some (3, (i : Int), t350)))) (fun k => ?_) (Ev.bind (rmerge_ev hw hm (by omega)) ?_)
    · rw [imprimaturref11_Check.l2, if_pos (by omega), w64 (by omega)]
    · simp only [if_true]; exact ih (i + 1) (by omega)
theorem ck1 (hw : Lw sp s) (hm : s.ms.length ≤ 25) (hs : sp.length ≤ 64) (hg : spGo sp sp.length 0 = 0) : ∀ (d c : Nat), c + d = 256 → Ev (fun k => imprimaturref11_Check.l1 k (c : Int) (vts s sp) s.ms) ((0, 0, 0) : Int × Int × Int) := by
  have hl := hw.len
  have hL := vts_len s sp
  intro d
  induction d with
  | zero =>
    intro c h1
    refine Ev.step (fun k => ?_) (ck2 hw hm hs _ 0 (Nat.zero_add _))
    rw [imprimaturref11_Check.l1, if_neg (by omega)]; rfl
  | succ d ih =>
    intro c h1
    have hc := vts_lo s sp (i := (c : Int)) (by omega) (by omega)
    rw [hw.lt c (by omega)] at hc
    have hf := find_at (vts s sp) s.ms c [(c : Int)] (by omega) (by omega) (by rw [hc]) (fun j hj => by
      have := vts_un hw hg hj (show c < (vts s sp).length by omega)
      rwa [hc] at this)
    refine Ev.step (f := fun k => (imprimaturref11_Find.f k (vts s sp) s.ms [(c : Int)]).bind fun t347 => (if t347 < 0 then (some (2, (c : Int), 91)) else (if 0 ≤ t347 then (if t347 < ((vts s sp).length : Int) then ((imprimaturref11_Short.f ((rd_T43 (vts s sp) t347).f0) ((rd_T43 (vts s sp) t347).f1) ((rd_T43 (vts s sp) t347).f2)).bind fun t349 => (if t349 = true then (imprimaturref11_Check.l1 k ((c + 1 : Nat) : Int) (vts s sp) s.ms) else (some (2, (c : Int), 91)))) else (none)) else (none)))) (fun k => ?_) (Ev.bind hf ?_)
    · rw [imprimaturref11_Check.l1, if_pos (by omega), w64 (by omega), show ((c : Int) % 256) = (c : Int) by omega]
    · simp only [if_neg (show ¬ (c : Int) < 0 by omega), if_pos (show 0 ≤ (c : Int) by omega), if_pos (show (c : Int) < ((vts s sp).length : Int) by omega), hc]
      exact ih (c + 1) (by omega)
theorem ck0 (hw : Lw sp s) (hm : s.ms.length ≤ 25) (hs : sp.length ≤ 64) (hg : spGo sp sp.length 0 = 0) : ∀ (d i : Nat), i + d = (vts s sp).length → Ev (fun k => imprimaturref11_Check.l0 k (i : Int) (vts s sp) s.ms) ((0, 0, 0) : Int × Int × Int) := by
  have hl := hw.len
  have hL := vts_len s sp
  intro d
  induction d with
  | zero =>
    intro i h1
    refine Ev.step (fun k => ?_) (ck1 hw hm hs hg 256 0 (by omega))
    rw [imprimaturref11_Check.l0, if_neg (by omega)]; rfl
  | succ d ih =>
    intro i h1
    have hform : Ev (fun k => imprimaturref11_form.f k (rd_T43 (vts s sp) (i : Int)).f0 (rd_T43 (vts s sp) (i : Int)).f1 (rd_T43 (vts s sp) (i : Int)).f2) 0 := by
      rcases vts_cases (s := s) (sp := sp) (i := i) (by omega) with h | ⟨q, h2, h3⟩
      · rw [vts_lo s sp (by omega) (by omega)]
        obtain ⟨p1, p2, p3, p4⟩ := lo_plain hw hm h
        exact form_plain (len_lo hw i h).1 p2 p3 p4 p1
      · rw [h3, vts_hi s sp h2]
        exact form_spec (spGo_zero sp.length 0 hg q (Nat.zero_le _) (by omega)).1
    have hf := find_at (vts s sp) s.ms i (rd_T43 (vts s sp) (i : Int)).f0 (by omega) (by omega) rfl (fun j hj => vts_un hw hg hj (show i < (vts s sp).length by omega))
    refine Ev.step (f := fun k => (imprimaturref11_form.f k ((rd_T43 (vts s sp) (i : Int)).f0) ((rd_T43 (vts s sp) (i : Int)).f1) ((rd_T43 (vts s sp) (i : Int)).f2)).bind fun t341 => (if t341 = 0 then ((imprimaturref11_Find.f k (vts s sp) s.ms ((rd_T43 (vts s sp) (i : Int)).f0)).bind fun t343 => (imprimaturref11_Check.j2 k (i : Int) t341 (decide (t343 < (i : Int))) (vts s sp) s.ms)) else (imprimaturref11_Check.j2 k (i : Int) t341 false (vts s sp) s.ms))) (fun k => ?_) (Ev.bind hform ?_)
    · rw [imprimaturref11_Check.l0, if_pos (by omega), if_pos (by omega)]
    · simp only [if_true]
      refine Ev.bind hf ?_
      rw [decide_eq_false (show ¬ (i : Int) < (i : Int) by omega)]
      refine Ev.step (fun k => ?_) (ih (i + 1) (by omega))
      rw [imprimaturref11_Check.j2, if_neg (by simp), if_pos rfl, w64 (by omega)]
theorem rcheck_ev (hw : Lw sp s) (hm : s.ms.length ≤ 25) (hs : sp.length ≤ 64) (hg : spGo sp sp.length 0 = 0) : Ev (fun k => imprimaturref11_Check.f k (vts s sp) s.ms) ((0, 0, 0) : Int × Int × Int) := by
  have hl := hw.len
  have hL := vts_len s sp
  refine Ev.step (fun k => ?_) (ck0 hw hm hs hg _ 0 (Nat.zero_add _))
  unfold imprimaturref11_Check.f
  rw [if_neg (by omega), decide_eq_false (by omega), imprimaturref11_Check.j0, if_neg (by simp)]
  rfl
end
end Go.Proofs.Ytkdegcpfjfgajaa.X
namespace Go.Proofs.Ytkdegcpfjfgajaa.Pure
open Go Go.RowKit Go.Proofs.YtkdegcpfjfgajaaW.PrintWords Go.Proofs.Ytkdegcpfjfgajaa.Mg Go.Proofs.Ytkdegcpfjfgajaa.Pt Go.Proofs.Ytkdegcpfjfgajaa.Q Go.Proofs.Ytkdegcpfjfgajaa.L Go.Proofs.Ytkdegcpfjfgajaa.X
theorem TrainWell : ∀ (l0 : List S53) (a1 : Int) (l2 : List (List Int)), GL l0 → (Lit.int .i64 a1).wf = true → GS l2 → ∃ k, imprimaturlaw19_TrainWell.f k l0 a1 l2 = some true := by
  intro l0 a1 l3 hl w1 hs
  obtain ⟨b, hb, hsm⟩ := great_ev l0 l3 (in_of hl hs)
  obtain ⟨f, hf, hfew⟩ := few_ev a1
  have hj : ∀ k, imprimaturlaw19_TrainWell.j0 (k + 1) l0 a1 l3 true = some true := fun k => by rw [imprimaturlaw19_TrainWell.j0, if_pos rfl, known_ev]; rfl
  cases b with
  | true =>
    refine ⟨l0.length + l3.length + 10000, ?_⟩
    unfold imprimaturlaw19_TrainWell.f
    rw [hb _ (by omega), Option.bind_some, if_pos rfl, hj]
  | false =>
    have sm := hsm rfl
    have sl := sm.hl
    cases f with
    | false =>
      refine ⟨l0.length + l3.length + 10000, ?_⟩
      unfold imprimaturlaw19_TrainWell.f
      rw [hb _ (by omega), Option.bind_some, if_neg (by simp), hf, Option.bind_some]
      exact hj _
    | true =>
      have h1 : X.Ev (fun k => imprimaturlaw19_own.f k l0) (ownS l0) := X.Ev.le _ (own_ev l0 (by omega))
      have h6 : X.Ev (fun k => imprimaturlaw19_TrainWell.j0 k l0 a1 l3 false) true := by
        by_cases c : askE (l0.map (fun x => x.f1)) a1 l3 = 0
        · obtain ⟨z1, z2, z3, z4, z5⟩ := askE_zero c
          have hfin := fin_ok l0 a1 a1.toNat l3 sm c
          obtain ⟨xa, xb, x1, x2, x3, x4, x5⟩ := lst_ext (l0.map (fun x => x.f1)) a1.toNat (st0 (l0.map (fun x => x.f0)) l3)
          have x2' : (fin l0 a1.toNat l3).ms = xb := x2
          have hm : (fin l0 a1.toNat l3).ms.length ≤ a1.toNat := by rw [x2']; exact x4
          have hm25 : (fin l0 a1.toNat l3).ms.length ≤ 25 := by have := hfew rfl; omega
          have hck := rcheck_ev hfin.2 hm25 z4 z5
          have hlen := vts_len (fin l0 a1.toNat l3) l3
          have hl2 := hfin.1.len
          refine X.Ev.step (f := fun k => (imprimaturlaw19_own.f k l0).bind fun t239 => ((train_Learn.f t239 a1 l3).bind fun bt242 => (if bt242.2.2 = 0 then ((imprimaturref11_Check.f k bt242.1 bt242.2.1).bind fun bt250 => (if bt250.2.2 = 0 then (if (bt242.1.length : Int) = (wrap64 ((wrap64 (256 + (bt242.2.1.length : Int))) + (l3.length : Int))) then (if (bt242.2.1.length : Int) ≤ a1 then ((imprimaturlaw19_known.f).bind fun t254 => (some t254)) else (none)) else (none)) else (none))) else (if (bt242.1.length : Int) = 0 then ((imprimaturlaw19_known.f).bind fun t255 => (some t255)) else (none))))) (fun k => by rw [imprimaturlaw19_TrainWell.j0, if_neg (by simp)]) (X.Ev.bind h1 ?_)
          simp only [learn_good l0 a1 l3 sm c, Option.bind_some, if_true]
          refine X.Ev.bind hck ?_
          have hw : wrap64 ((wrap64 (256 + ((fin l0 a1.toNat l3).ms.length : Int))) + (l3.length : Int)) = 256 + ((fin l0 a1.toNat l3).ms.length : Int) + (l3.length : Int) := wrap_two (Nat.le_trans hm25 (by decide)) (Nat.le_trans z4 (by decide))
          have hv : (((fin l0 a1.toNat l3).ts ++ l3.map (fun s => (⟨s, 0, true⟩ : S43))).length : Int) = 256 + ((fin l0 a1.toNat l3).ms.length : Int) + (l3.length : Int) := by
            show ((vts (fin l0 a1.toNat l3) l3).length : Int) = _
            rw [hlen, hl2]
            omega
          simp only [if_true, hw, if_pos hv, if_pos (show ((fin l0 a1.toNat l3).ms.length : Int) ≤ a1 by omega), known_ev, Option.bind_some]
          exact X.Ev.const
        · refine X.Ev.step (f := fun k => (imprimaturlaw19_own.f k l0).bind fun t239 => ((train_Learn.f t239 a1 l3).bind fun bt242 => (if bt242.2.2 = 0 then ((imprimaturref11_Check.f k bt242.1 bt242.2.1).bind fun bt250 => (if bt250.2.2 = 0 then (if (bt242.1.length : Int) = (wrap64 ((wrap64 (256 + (bt242.2.1.length : Int))) + (l3.length : Int))) then (if (bt242.2.1.length : Int) ≤ a1 then ((imprimaturlaw19_known.f).bind fun t254 => (some t254)) else (none)) else (none)) else (none))) else (if (bt242.1.length : Int) = 0 then ((imprimaturlaw19_known.f).bind fun t255 => (some t255)) else (none))))) (fun k => by rw [imprimaturlaw19_TrainWell.j0, if_neg (by simp)]) (X.Ev.bind h1 ?_)
          simp only [learn_bad l0 a1 l3 sm c, Option.bind_some, if_neg c, List.length_nil, Int.natCast_zero, if_true, known_ev]
          exact X.Ev.const
      obtain ⟨K, hK⟩ := h6
      refine ⟨K + l0.length + l3.length + 1, ?_⟩
      unfold imprimaturlaw19_TrainWell.f
      rw [hb _ (by omega), Option.bind_some, if_neg (by simp), hf, Option.bind_some]
      exact hK _ (by omega)
end Go.Proofs.Ytkdegcpfjfgajaa.Pure
