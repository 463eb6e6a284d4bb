/- The sort of a table's special tokens: the longest first, those of one length in their order. No condition. -/
import Derived.Test.YtlgagppdipdkeaaStsV
import Derived.Test.YtlgagppdipdkeaaXCdV
namespace Go.Proofs.Ytlgagppdipdkeaa.X
open Go.RowKit Go.Maps Go.Proofs.YtlgagppdipdkeaaW.PrintWords Go.Proofs.YtlgagppdipdkeaaW.PrintLast Go.Proofs.YtlgagppdipdkeaaW.PrintMore Go.Proofs.Ytlgagppdipdkeaa.Q
open Go.Shelf Go.Lib Go.Sort
set_option linter.unusedVariables false
set_option linter.unusedSimpArgs false
def tlen (ts : List S44) (i : Int) : Int := ((rd_T44 ts i).f0.length : Int)
set_option maxHeartbeats 2000000 in
set_option maxRecDepth 100000 in
theorem less_calls (B gT : Nat) (ad : Addr) (n ct : Nat) (i j : Int) (Ai Aj : Option Addr) (li lj ci cj : Nat) (w : World) (hb : w.cell? ⟨B, 0, none⟩ = some (.pointer (some ⟨gT, 0, none⟩))) (ht : w.cell? ⟨gT, 0, none⟩ = some (.slice (some ad) n ct))
    (i0 : 0 ≤ i) (i1 : i < (n : Int)) (j0 : 0 ≤ j) (j1 : j < (n : Int)) (hi : w.cell? (ad.add (i.toNat * 3)) = some (.slice Ai li ci)) (hj : w.cell? (ad.add (j.toNat * 3)) = some (.slice Aj lj cj)) (bi : li ≤ 1000000) (bj : lj ≤ 1000000) :
    Calls Try.prog 72 #[.int .i64 i, .int .i64 j, .pointer (some ⟨B, 0, none⟩)] w fun e w' => e = .returned (.int .i64 ((lj : Int) - (li : Int))) ∧ ∃ m, w' = w.drewN m := by
  have e1 : IntKind.i64.wrap ((lj : Int) - (li : Int)) = (lj : Int) - (li : Int) := IntWalk.i64_in _ (by omega)
  go_enter Try.func72, Try.ntmps72
  go_wp2
  refine wp_region_quiet_lit (by kernel_rfl) (by kernel_rfl) ?_
  repeat (go_big_quiet_step (fail))
  refine wpQuiet_nil ?_
  intro _ hw'
  obtain ⟨nq, rfl⟩ := hw'
  go_wp2
  go_ret
  exact ⟨rfl, _, rfl⟩
def lnCmp (ts : List S44) (i j : Int) : Int := tlen ts j - tlen ts i
def lnLt (ts : List S44) (i j : Int) : Bool := decide (tlen ts j < tlen ts i)
theorem lnCmp_lt (ts : List S44) (i j : Int) : decide (lnCmp ts i j < 0) = lnLt ts i j := by
  unfold lnCmp lnLt
  rw [Bool.eq_iff_iff]
  simp only [decide_eq_true_eq]
  omega
/-- The tokens' first cells. -/
def TkCells (W : World) (ad : Addr) (ts : List S44) : Prop := ∀ i : Int, 0 ≤ i → i < (ts.length : Int) → ∃ A c, W.cell? (ad.add (i.toNat * 3)) = some (.slice A (rd_T44 ts i).f0.length c) ∧ (rd_T44 ts i).f0.length ≤ 1000000
theorem so_lays (B gT blk : Nat) (ad : Addr) (ts : List S44) (ct N : Nat) (hN : ts.length = N + 1) (W : World) (hb : W.cell? ⟨B, 0, none⟩ = some (.pointer (some ⟨gT, 0, none⟩))) (ht : W.cell? ⟨gT, 0, none⟩ = some (.slice (some ad) ts.length ct)) (hT : TkCells W ad ts) (n1 : B ≠ blk) (n2 : gT ≠ blk) (n3 : ad.block ≠ blk) (size : Nat) :
    CmpLays1 Try.prog 72 #[.pointer (some ⟨B, 0, none⟩)] (Stb.E N) (fun x y => lnCmp ts x.val y.val) blk 0 size W := by
  intro m os dk hs x y
  have hx : (x.val : Int) < (ts.length : Int) := by have := x.isLt; omega
  have hy : (y.val : Int) < (ts.length : Int) := by have := y.isLt; omega
  obtain ⟨Ax, cx, x0, xl⟩ := hT x.val (by omega) hx
  obtain ⟨Ay, cy, y0, yl⟩ := hT y.val (by omega) hy
  have k1 := (cell?_sortWorld_other (Stb.E N) W blk 0 m dk os ⟨B, 0, none⟩ n1 (World.block_lt_of_cell? W _ hb)).trans hb
  have k2 := (cell?_sortWorld_other (Stb.E N) W blk 0 m dk os ⟨gT, 0, none⟩ n2 (World.block_lt_of_cell? W _ ht)).trans ht
  have k3 := (cell?_sortWorld_other (Stb.E N) W blk 0 m dk os (ad.add (((x.val : Nat) : Int).toNat * 3)) (by rw [add_block]; exact n3) (World.block_lt_of_cell? W _ x0)).trans x0
  have k4 := (cell?_sortWorld_other (Stb.E N) W blk 0 m dk os (ad.add (((y.val : Nat) : Int).toNat * 3)) (by rw [add_block]; exact n3) (World.block_lt_of_cell? W _ y0)).trans y0
  refine (less_calls B gT ad ts.length ct x.val y.val Ax Ay _ _ cx cy _ k1 k2 (by omega) hx (by omega) hy k3 k4 xl yl).mono ?_
  rintro e w' ⟨rfl, q, rfl⟩
  exact ⟨rfl, q, #[], by rw [Go.Sort.grow_empty]⟩
theorem so_swo (ts : List S44) (N : Nat) : Go.Sort.SWO (ltOf (fun x y : Stb.Ix N => lnCmp ts x.val y.val)) := by
  have e : ∀ x y : Stb.Ix N, ltOf (fun x y : Stb.Ix N => lnCmp ts x.val y.val) x y = lnLt ts x.val y.val := fun x y => lnCmp_lt ts x.val y.val
  refine ⟨fun x => ?_, fun x y z => ?_, fun x y z => ?_⟩
  · rw [e]; exact decide_eq_false (by omega)
  · rw [e, e, e]; unfold lnLt; simp only [decide_eq_true_eq]; omega
  · rw [e, e, e]; unfold lnLt; simp only [decide_eq_false_iff_not]; omega
theorem enter_run {P : Program} {f : FuncId} {fn : Func} {c : Code} (hf : P.funcs[f]? = some fn) (hname : (fn.name == "runtime.NumGoroutine") = false) (hb : fn.body = some c) (args : Array Value) (w : World) :
    (callFunc f args).run P w = .ok (.enter f args) w := by
  have h1 : fn.name ≠ "runtime.NumGoroutine" := by simpa using hname
  simp [callFunc, hf, h1, hb]
theorem sort_ints {N : Nat} (w : World) (blk m : Nat) (d : Array (Stb.Ix N)) (os : Array Obj) : sortWorld (Stb.E N) w blk 0 m d os = Go.Sort.grow (Go.Sort.putRow (Value.int .i64) (Go.Sort.ahead w m) blk 0 (d.toList.map fun x => (x.val : Int)).toArray) os := by
  unfold sortWorld Go.Sort.putRow
  have e : Go.Sort.putCells (Stb.E N) 0 d = Go.Sort.putCells (Value.int .i64) 0 (d.toList.map fun x => (x.val : Int)).toArray := by
    funext c
    unfold Go.Sort.putCells
    apply Array.ext
    · simp
    · intro i h1 h2
      simp only [Array.getElem_mapIdx, List.size_toArray, List.length_map, Array.length_toList]
      by_cases h : 0 ≤ i ∧ i < 0 + d.size
      · rw [if_pos h, if_pos h]
        have hi : i < d.size := by omega
        rw [Nat.sub_zero, getElem!_pos d i hi, getElem!_pos _ i (by simpa using hi)]
        simp [Stb.E]
      · rw [if_neg h, if_neg h]
  rw [e]
/-- The special tokens in the table's order. -/
def spOrd (ts : List S44) (sp : List Int) : List Int := Stb.isort (lnLt ts) sp
theorem so_calls (B gT blk cap base : Nat) (ok : Nat → Prop) (ad : Addr) (ts : List S44) (ct : Nat) (sp : List Int) (W : World) (hb : W.cell? ⟨B, 0, none⟩ = some (.pointer (some ⟨gT, 0, none⟩))) (ht : W.cell? ⟨gT, 0, none⟩ = some (.slice (some ad) ts.length ct)) (hT : TkCells W ad ts) (n1 : B ≠ blk) (n2 : gT ≠ blk) (n3 : ad.block ≠ blk)
    (hs : ∀ x ∈ sp, 0 ≤ x ∧ x < (ts.length : Int)) (hsl : sp.length ≤ 1000000000000) (HO : (Kd.int .i64).R 2 W base ok (.slice (some ⟨blk, 0, none⟩) sp.length cap) sp) :
    Calls Try.prog 71 #[.slice (some ⟨blk, 0, none⟩) sp.length cap, .func (.func 72) #[] #[.pointer (some ⟨B, 0, none⟩)]] W fun e w' => e = .returned (.tuple #[]) ∧ (Kd.int .i64).R 2 w' base ok (.slice (some ⟨blk, 0, none⟩) sp.length cap) (spOrd ts sp) ∧ KeepBut W w' blk none ∧ w'.os = W.os ∧ w'.tape = W.tape ∧ w'.output = W.output := by
  rcases Nat.eq_zero_or_pos ts.length with h0 | h0
  · have hsp : sp = [] := by
      cases sp with
      | nil => rfl
      | cons x l => have := hs x (by simp); omega
    subst hsp
    refine (Stb.sortStable0 _ _ _ _).mono ?_
    rintro e w' ⟨rfl, rfl⟩
    exact ⟨rfl, HO, ⟨Nat.le_refl _, fun _ _ _ _ => rfl⟩, rfl, rfl, rfl⟩
  obtain ⟨N, hN⟩ : ∃ N, ts.length = N + 1 := ⟨ts.length - 1, by omega⟩
  obtain ⟨d, hd⟩ : ∃ d : Array (Stb.Ix N), d = (sp.map fun x => (⟨min x.toNat N, by omega⟩ : Stb.Ix N)).toArray := ⟨_, rfl⟩
  have hdl : d.size = sp.length := by rw [hd]; simp
  have hdv : d.toList.map (fun x => (x.val : Int)) = sp := by
    rw [hd]
    simp only [List.map_map]
    conv => rhs; rw [← List.map_id sp]
    refine List.map_congr_left fun x hx => ?_
    have := hs x hx
    simp only [Function.comp, id]
    omega
  have hlt : blk < W.heap.size := Kd.R_lt HO blk rfl
  have hcells : ∀ j, j < sp.length → W.cell? ⟨blk, j, none⟩ = some (.int .i64 (rd sp j)) ∧ W.frozen? ⟨blk, j, none⟩ = false := fun j hj => by
    have h := Kd.R_cell (0 : Int) HO (j : Int) (by omega) (by omega)
    simpa [rd, rdOf] using h
  have R : Row1 (Stb.E N) W blk 0 d := by
    refine ⟨fun _ => rfl, fun j hj => ?_, hlt⟩
    have hj' : j < sp.length := by omega
    have e : Stb.E N d[j]! = .int .i64 (rd sp j) := by
      rw [getElem!_pos d j hj]
      have hx := hs (sp[j]) (List.getElem_mem _)
      have : rd sp (j : Int) = sp[j] := by
        unfold rd
        rw [List.getD_eq_getElem?_getD, Int.toNat_natCast, List.getElem?_eq_getElem hj']
        rfl
      rw [this]
      subst hd
      simp only [Stb.E, List.getElem_toArray, List.getElem_map]
      congr 1
      omega
    rw [e, Nat.zero_add]
    exact hcells j hj'
  have hc := Stb.sortStable (fun x y : Stb.Ix N => lnCmp ts x.val y.val) (so_swo ts N) 72 #[.pointer (some ⟨B, 0, none⟩)] blk 0 cap sp.length d W (fun args wx => enter_run Try.func72 (by kernel_rfl) rfl args wx) (so_lays B gT blk ad ts ct N hN W hb ht hT n1 n2 n3 d.size) R hdl (by omega)
  refine hc.mono ?_
  rintro e w' ⟨rfl, d', hp, hss, S⟩
  have hsz : d'.size = sp.length := by have := hp.perm.1; omega
  have hso : d'.toList = Stb.isort (ltOf fun x y : Stb.Ix N => lnCmp ts x.val y.val) d.toList := Stb.isort_is (so_swo ts N) (Stb.sortedL_of d' (by rw [hsz]; exact hss)) hp.st
  have hval : (d'.toList.map fun x => (x.val : Int)) = spOrd ts sp := by
    have e : (ltOf fun x y : Stb.Ix N => lnCmp ts x.val y.val) = fun x y : Stb.Ix N => lnLt ts x.val y.val := by
      funext x y; exact lnCmp_lt ts x.val y.val
    rw [hso, e, Stb.isort_map (lt := lnLt ts) (fun x : Stb.Ix N => (x.val : Int)), hdv]
    rfl
  obtain ⟨m, os, rfl⟩ := S
  have hkeep : KeepBut W (sortWorld (Stb.E N) W blk 0 m d' os) blk none := Stb.keep_sort W blk m d' os
  refine ⟨rfl, ?_, hkeep, by simp [sortWorld, Go.Sort.grow, Go.Sort.putRow, Go.Sort.mapBlock, Go.Sort.ahead], by simp [sortWorld, Go.Sort.grow, Go.Sort.putRow, Go.Sort.mapBlock, Go.Sort.ahead], by simp [sortWorld, Go.Sort.grow, Go.Sort.putRow, Go.Sort.mapBlock, Go.Sort.ahead]⟩
  rw [sort_ints, hval]
  have hlen2 : (spOrd ts sp).length = sp.length := by rw [← hval]; simpa using hsz
  obtain ⟨hok, inner, ho, _⟩ := HO
  rcases ho with ⟨_, ⟨h0, _⟩ | ⟨g, cap', cur, hv, hg, hh, h1, h2, h3, _⟩⟩
  · cases h0
  injection hv with hv1 hv2 hv3
  injection hv1 with hv1
  injection hv1 with hv1
  subst hv1 hv3
  have hown := ownsRow_sortedI (base := base) (n := m) (os := os) (ss := sp) (ts := spOrd ts sp) hlen2 hg hh h1 h2 h3
  refine Kd.R_of_own (enc := Value.int .i64) (h1 := fun _ => rfl) (ok := ok) (xs := spOrd ts sp) ?_ (fun k hk => hok k hk)
  rw [hlen2]
  simpa [encs] using hown
theorem so_any (B gT base : Nat) (ok : Nat → Prop) (At : Option Addr) (ts : List S44) (ct : Nat) (v3 : Value) (sp : List Int) (W : World) (hpos : 0 < ts.length) (hb : W.cell? ⟨B, 0, none⟩ = some (.pointer (some ⟨gT, 0, none⟩))) (ht : W.cell? ⟨gT, 0, none⟩ = some (.slice At ts.length ct)) (HC : Kd.C k44 W At ts.length ts) (hsh : ∀ j : Int, 0 ≤ j → j < (ts.length : Int) → (rd_T44 ts j).f0.length ≤ 32)
    (n1 : some B ≠ v3.ownBlock) (n2 : some gT ≠ v3.ownBlock) (n3 : ∀ ad, At = some ad → some ad.block ≠ v3.ownBlock) (hs : ∀ x ∈ sp, 0 ≤ x ∧ x < (ts.length : Int)) (hsl : sp.length ≤ 1000000000000) (HO : (Kd.int .i64).R 2 W base ok v3 sp) :
    Calls Try.prog 71 #[v3, .func (.func 72) #[] #[.pointer (some ⟨B, 0, none⟩)]] W fun e w' => e = .returned (.tuple #[]) ∧ (Kd.int .i64).R 2 w' base ok v3 (spOrd ts sp) ∧ (∀ k, k < W.heap.size → some k ≠ v3.ownBlock → w'.heap[k]? = W.heap[k]?) ∧ W.heap.size ≤ w'.heap.size ∧ w'.os = W.os ∧ w'.tape = W.tape ∧ w'.output = W.output := by
  obtain ⟨h0, inner, hown, hr⟩ := HO
  have HO : (Kd.int .i64).R 2 W base ok v3 sp := ⟨h0, inner, hown, hr⟩
  obtain ⟨A, c, hv⟩ := Kd.R_slice HO
  obtain ⟨ad, A0, c0, e, -⟩ := at_T44 HC 0 (by omega) (by omega)
  have hT : TkCells W ad ts := fun i a b => by
    obtain ⟨ad', A1, c1, e1, x0, -⟩ := at_T44 HC i a b
    rw [e] at e1
    cases e1
    exact ⟨A1, c1, x0, by have := hsh i a b; omega⟩
  subst e
  have hcase : (A = none ∧ sp = []) ∨ ∃ blk, A = some ⟨blk, 0, none⟩ := by
    subst hv
    rcases hown.2 with ⟨h1, h2⟩ | ⟨g, cap', cur, hv', hg, -⟩
    · left
      injection h1 with e1 e2
      exact ⟨e1, List.length_eq_zero_iff.1 e2⟩
    · right
      injection hv' with e1
      exact ⟨g, e1⟩
  rcases hcase with ⟨rfl, rfl⟩ | ⟨blk, rfl⟩
  · subst hv
    refine (Stb.sortStable0 _ _ _ _).mono ?_
    rintro e w' ⟨rfl, rfl⟩
    exact ⟨rfl, HO, fun _ _ _ => rfl, Nat.le_refl _, rfl, rfl, rfl⟩
  · subst hv
    refine (so_calls B gT blk c base ok ad ts ct sp W hb ht hT (fun e => n1 (by rw [e]; rfl)) (fun e => n2 (by rw [e]; rfl)) (fun e => n3 ad rfl (by rw [e]; rfl)) hs hsl HO).mono ?_
    rintro e w' ⟨rfl, k1, k2, k3⟩
    exact ⟨rfl, k1, fun k hk hn => k2.2 k hk (fun e => hn (by rw [e]; rfl)) (by simp), k2.1, k3⟩
end Go.Proofs.Ytlgagppdipdkeaa.X
