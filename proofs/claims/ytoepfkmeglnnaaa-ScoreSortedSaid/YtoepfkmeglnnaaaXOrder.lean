/- What score.Order answers for any numbers, as a Lean function, and that its Go text does: the places, the greater numbers first, equals in their order; by slices.SortStableFunc. No condition. -/
import Derived.Test.YtoepfkmeglnnaaaStw7
import Derived.Test.YtoepfkmeglnnaaaStp
import Derived.Test.YtoepfkmeglnnaaaQS1
import Derived.Sort.OwnSortedInts
import Derived.Shelf.SlSortFunc.HeapSort
set_option linter.unusedVariables false
namespace Go.Proofs.Ytoepfkmeglnnaaa.Stb
open Go.Shelf Go.RowKit Go.Lib Go.Sort Go.Proofs

theorem sortStable {N : Nat} (cf : Ix N → Ix N → Int) (hS : SWO (ltOf cf)) (g : Nat) (cb : Array Value) (blk off cap n : Nat) (d : Array (Ix N)) (w : World)
    (eg : ∀ args w, (callFunc g args).run Try.prog w = .ok (.enter g args) w) (hcmp : CmpLays1 Try.prog g cb (E N) cf blk off d.size w) (R : Row1 (E N) w blk off d) (hn : d.size = n) (hsz : n < 1152921504606846976) :
    Calls Try.prog 58 #[.slice (some ⟨blk, off, none⟩) n cap, .func (.func g) #[] cb] w fun e w' => e = .returned (.tuple #[]) ∧ ∃ d', Put (ltOf cf) 0 n d d' ∧ SortedIn (ltOf cf) 0 n d' ∧ SW (E N) w blk off d' w' := by
  have hc := stable cf hS g cb blk off cap n d w eg hcmp R hn hsz
  clear hcmp hn eg
  go_enter Try.func58, Try.ntmps58
  go_wp2_with (go_at_call 63; refine hc.mono ?_; rintro e w' ⟨rfl, h⟩)
  go_end0
  exact ⟨rfl, h⟩

theorem ins0 (A : Option Addr) (cap : Nat) (f : Value) (w : World) :
    Calls Try.prog 65 #[.slice A 0 cap, .int .i64 0, .int .i64 0, f] w fun e w' => e = .returned (.tuple #[]) ∧ w = w' := by
  go_enter Try.func65, Try.ntmps65
  go_wp2
  go_loopg [8] 0 (fun g1 va wr => va = .int .i64 1 ∧ w = wr)
  case atStart => exact ⟨rfl, rfl⟩
  case round =>
    obtain ⟨rfl, rfl⟩ := hrel
    go_wp2
    go_end0
    exact ⟨rfl, rfl⟩
/-- Of none there is nothing to sort. -/
theorem stable0 (A : Option Addr) (cap : Nat) (f : Value) (w : World) :
    Calls Try.prog 63 #[.slice A 0 cap, .int .i64 0, f] w fun e w' => e = .returned (.tuple #[]) ∧ w = w' := by
  have hc := ins0 A cap f w
  go_enter Try.func63, Try.ntmps63
  go_wp2
  go_loopg [7, 8] 0 (fun g1 va vb wr => va = .int .i64 0 ∧ vb = .int .i64 20 ∧ w = wr)
  case atStart => exact ⟨rfl, rfl, rfl⟩
  case round =>
    obtain ⟨rfl, rfl, rfl⟩ := hrel
    go_wp2_with (go_at_call 65; refine hc.mono ?_; rintro e w' ⟨rfl, rfl⟩)
    go_loopg [6] 0 (fun g1 va wr => va = .int .i64 20 ∧ w = wr)
    case atStart => exact ⟨rfl, rfl⟩
    case round =>
      obtain ⟨rfl, rfl⟩ := hrel
      go_wp2
      go_end0
      exact ⟨rfl, rfl⟩
theorem sortStable0 (A : Option Addr) (cap : Nat) (f : Value) (w : World) :
    Calls Try.prog 58 #[.slice A 0 cap, f] w fun e w' => e = .returned (.tuple #[]) ∧ w = w' := by
  have hc := stable0 A cap f w
  go_enter Try.func58, Try.ntmps58
  go_wp2_with (go_at_call 63; refine hc.mono ?_; rintro e w' ⟨rfl, rfl⟩)
  go_end0
  exact ⟨rfl, rfl⟩
end Go.Proofs.Ytoepfkmeglnnaaa.Stb
namespace Go.Proofs.Ytoepfkmeglnnaaa.Q
open Go.RowKit Go.Proofs.YtoepfkmeglnnaaaW.PrintWords Go.Proofs.YtoepfkmeglnnaaaW.PrintLast Go.Proofs.YtoepfkmeglnnaaaW.PrintMore
set_option linter.unusedVariables false

theorem order_less (A : Option Addr) (c B : Nat) (l : List Nat) (i j : Nat) (r : Int) (w : World) (hb : w.cell? ⟨B, 0, none⟩ = some (.slice A l.length c)) (hr : Kd.C Kd.float w A l.length l) (hi : i < l.length) (hj : j < l.length)
    (h : score_Compare.f (l.getD j 0) (l.getD i 0) = some r) :
    Calls Try.prog 59 #[.int .i64 i, .int .i64 j, .pointer (some ⟨B, 0, none⟩)] w fun e w' => e = .returned (.int .i64 r) ∧ ∃ m, w' = w.drewN m := by
  obtain ⟨ad, rfl, h1⟩ := Kd.at_float hr (i : Int) (by omega) (by omega)
  obtain ⟨ad2, e2, h2⟩ := Kd.at_float hr (j : Int) (by omega) (by omega)
  injection e2 with e2
  subst e2
  have hc : ∀ w, Calls Try.prog 21 #[.float .f64 (l.getD j 0), .float .f64 (l.getD i 0)] w fun e w' => e = .returned (.int .i64 r) ∧ ∃ m, w' = w.drewN m :=
    fun w => (score_Compare.calls (l.getD j 0) (l.getD i 0) r w h).mono fun e w' q => ⟨q.1, q.2.out⟩
  simp only [Int.toNat_natCast] at h1 h2
  have d1 : rdOf 0 l (i : Int) = l.getD i 0 := by simp [rdOf]
  have d2 : rdOf 0 l (j : Int) = l.getD j 0 := by simp [rdOf]
  rw [d1] at h1
  rw [d2] at h2
  have z1 : (i : Int) < (l.length : Int) := by omega
  have z2 : (j : Int) < (l.length : Int) := by omega
  have z3 : (0 : Int) ≤ (i : Int) := by omega
  have z4 : (0 : Int) ≤ (j : Int) := by omega
  generalize l.getD i 0 = x at *
  generalize l.getD j 0 = y at *
  clear d1 d2 h hr hi hj
  go_enter Try.func59, Try.ntmps59
  go_wp2_with fail
  go_quiet ((go_at_call 21; refine Calls.quiet_of (hc _)))
  go_wp2
  go_ret
  exact ⟨rfl, _, rfl⟩

/-- How Go's comparison of two places answers. -/
def ordCmp (l : List Nat) (i j : Nat) : Int := (score_Compare.f (l.getD j 0) (l.getD i 0)).getD 0

theorem keep_sort {N : Nat} (W : World) (blk m : Nat) (dk : Array (Stb.Ix N)) (os : Array Obj) : KeepBut W (sortWorld (Stb.E N) W blk 0 m dk os) blk none := by
  refine ⟨?_, fun k hk hne _ => ?_⟩
  · unfold sortWorld; simp
  · unfold sortWorld
    rw [Go.Sort.heap_grow_old _ _ (by simpa using hk)]
    have : blk ≠ k := fun e => hne e.symm
    simp [Go.Sort.putRow, Go.Sort.mapBlock, Go.Sort.ahead, Array.getElem?_modify, this]

theorem order_lays (A : Option Addr) (c B blk : Nat) (l : List Nat) (N : Nat) (hN : l.length = N + 1) (W : World) (hbox : W.cell? ⟨B, 0, none⟩ = some (.slice A l.length c)) (hne : B ≠ blk)
    (hr : ∀ W', KeepBut W W' blk none → Kd.C Kd.float W' A l.length l) (hcmp : ∀ a b, ∃ r, score_Compare.f a b = some r) (size : Nat) :
    CmpLays1 Try.prog 59 #[.pointer (some ⟨B, 0, none⟩)] (Stb.E N) (fun x y => ordCmp l x.val y.val) blk 0 size W := by
  intro m os dk hs x y
  have hB : B < W.heap.size := World.block_lt_of_cell? W _ hbox
  obtain ⟨r, hcr⟩ := hcmp (l.getD y.val 0) (l.getD x.val 0)
  have h := order_less A c B l x.val y.val r (sortWorld (Stb.E N) W blk 0 m dk os) ((cell?_sortWorld_other _ _ _ _ _ _ _ _ hne hB).trans hbox) (hr _ (keep_sort W blk m dk os)) (by have := x.isLt; omega) (by have := y.isLt; omega) hcr
  refine h.mono ?_
  rintro e w' ⟨rfl, q, rfl⟩
  have hv : ordCmp l x.val y.val = r := by unfold ordCmp; rw [hcr]; rfl
  exact ⟨by show _ = Ending.returned (.int .i64 (ordCmp l x.val y.val)); rw [hv], q, #[], by rw [Go.Sort.grow_empty]⟩

def upTo (n k : Nat) : List Int := (List.range n).map fun i => if i < k then (i : Int) else 0
theorem upTo_zero (n : Nat) : upTo n 0 = List.replicate n 0 := by
  apply List.ext_getElem <;> simp [upTo]
theorem upTo_len (n k : Nat) : (upTo n k).length = n := by simp [upTo]
theorem upTo_set (n k : Nat) (h : k < n) : (upTo n k).set k (k : Int) = upTo n (k + 1) := by
  apply List.ext_getElem
  · simp [upTo]
  · intro i h1 h2
    simp only [upTo, List.length_set, List.length_map, List.length_range] at h1
    rw [List.getElem_set]
    simp only [upTo, List.getElem_map, List.getElem_range]
    by_cases e : k = i
    · subst e; simp
    · rw [if_neg e]
      by_cases e2 : i < k
      · rw [if_pos e2, if_pos (by omega)]
      · rw [if_neg e2, if_neg (by omega)]

/-- A number's code. -/
def codeI (b : Nat) : Int := (score_Code.f b).getD 0
theorem code_any (b : Nat) : score_Code.f b = some (codeI b) := by
  have h : ∃ r, score_Code.f b = some r := Option.isSome_iff_exists.1 (by
    have h1 : ∃ r, score_Class.f b = some r := Option.isSome_iff_exists.1 (by unfold score_Class.f; (repeat' split) <;> rfl)
    obtain ⟨r, h1⟩ := h1
    unfold score_Code.f
    rw [h1]
    simp only [Option.bind_some]
    (repeat' split) <;> rfl)
  obtain ⟨r, h⟩ := h
  unfold codeI
  rw [h]; rfl
theorem compare_any (a b : Nat) : score_Compare.f a b = some (if codeI a > codeI b then 1 else if codeI a < codeI b then -1 else 0) := by
  unfold score_Compare.f
  rw [code_any a, code_any b]
  simp only [Option.bind_some]
  split
  · rfl
  · split <;> rfl
def ordLt (l : List Nat) (i j : Nat) : Bool := decide (codeI (l.getD j 0) < codeI (l.getD i 0))
theorem ordCmp_lt (l : List Nat) (i j : Nat) : decide (ordCmp l i j < 0) = ordLt l i j := by
  unfold ordCmp ordLt
  rw [compare_any]
  simp only [Option.getD_some]
  by_cases h : codeI (l.getD j 0) > codeI (l.getD i 0)
  · rw [if_pos h]; rw [decide_eq_false (by omega), decide_eq_false (by omega)]
  · rw [if_neg h]
    by_cases h2 : codeI (l.getD j 0) < codeI (l.getD i 0)
    · rw [if_pos h2, decide_eq_true (by omega), decide_eq_true h2]
    · rw [if_neg h2, decide_eq_false (by omega), decide_eq_false h2]
/-- The places in order. -/
def ordOf (l : List Nat) : List Nat := Stb.isort (ordLt l) (List.range l.length)
def score_Order.f (l0 : List Nat) : Option (List Int) := if l0.length ≤ 35184372088832 then some ((ordOf l0).map fun i : Nat => (i : Int)) else none

theorem enter_run {P : Program} {f : FuncId} {fn : Func} {c : Code} (hf : P.funcs[f]? = some fn) (hname : (fn.name == "runtime.NumGoroutine") = false) (hb : fn.body = some c) (args : Array Value) (w : World) :
    (callFunc f args).run P w = .ok (.enter f args) w := by
  have h1 : fn.name ≠ "runtime.NumGoroutine" := by simpa using hname
  simp [callFunc, hf, h1, hb]
theorem sort_ints {N : Nat} (w : World) (blk m : Nat) (d : Array (Stb.Ix N)) (os : Array Obj) : sortWorld (Stb.E N) w blk 0 m d os = Go.Sort.grow (Go.Sort.putRow (Value.int .i64) (Go.Sort.ahead w m) blk 0 (d.toList.map fun x => (x.val : Int)).toArray) os := by
  unfold sortWorld Go.Sort.putRow
  have e : Go.Sort.putCells (Stb.E N) 0 d = Go.Sort.putCells (Value.int .i64) 0 (d.toList.map fun x => (x.val : Int)).toArray := by
    funext c
    unfold Go.Sort.putCells
    apply Array.ext
    · simp
    · intro i h1 h2
      simp only [Array.getElem_mapIdx, List.size_toArray, List.length_map, Array.length_toList]
      by_cases h : 0 ≤ i ∧ i < 0 + d.size
      · rw [if_pos h, if_pos h]
        have hi : i < d.size := by omega
        rw [Nat.sub_zero, getElem!_pos d i hi, getElem!_pos _ i (by simpa using hi)]
        simp [Stb.E]
      · rw [if_neg h, if_neg h]
  rw [e]

theorem order_swo (l : List Nat) (N : Nat) : Go.Sort.SWO (ltOf (fun x y : Stb.Ix N => ordCmp l x.val y.val)) := by
  have e : ∀ x y : Stb.Ix N, ltOf (fun x y : Stb.Ix N => ordCmp l x.val y.val) x y = ordLt l x.val y.val := fun x y => ordCmp_lt l x.val y.val
  refine ⟨fun x => ?_, fun x y z => ?_, fun x y z => ?_⟩
  · rw [e]; exact decide_eq_false (by omega)
  · rw [e, e, e]; unfold ordLt; simp only [decide_eq_true_eq]; omega
  · rw [e, e, e]; unfold ordLt; simp only [decide_eq_false_iff_not]; omega

theorem order_sorts (A0 : Option Addr) (c0 : Nat) (l0 : List Nat) (n : Nat) (hn : n = l0.length) (hlen : n ≤ 35184372088832) (w wr : World) (hr0 : Kd.C Kd.float w A0 n l0)
    (HO : wr.ownsRow w.heap.size 3 1 (.slice (some ⟨w.heap.size + 1, 0, none⟩) n n) n (nums .i64 (upTo n n))) (HB : Below (w.heap.size + 1) (w.alloc (.cells #[.slice A0 n c0] 29)) wr) :
    Calls Try.prog 58 #[.slice (some ⟨w.heap.size + 1, 0, none⟩) n n, .func (.func 59) #[] #[.pointer (some ⟨w.heap.size, 0, none⟩)]] wr fun e w' => e = .returned (.tuple #[]) ∧
      Kd.R (Kd.int .i64) 3 w' w.heap.size (fun _ => True) (.slice (some ⟨w.heap.size + 1, 0, none⟩) n n) ((ordOf l0).map fun i : Nat => (i : Int)) ∧ Below w.heap.size w w' := by
  have hbw : Below w.heap.size w wr := ((Below.refl _ _).alloc (Nat.le_refl _) _).trans (HB.mono (by omega))
  cases hN : n with
  | zero =>
    subst hN
    have h0 : l0 = [] := List.eq_nil_of_length_eq_zero hn.symm
    subst h0
    refine (Stb.sortStable0 _ _ _ _).mono ?_
    rintro e w' ⟨rfl, rfl⟩
    refine ⟨rfl, ?_, hbw⟩
    have hh := Kd.R_of_own (enc := Value.int .i64) (h1 := fun _ => rfl) (ok := fun _ => True) (xs := ([] : List Int)) (by simpa [upTo, nums, encs] using HO) (fun _ _ => trivial)
    exact hh
  | succ N =>
    subst hN
    have hlt := own_lt HO (w.heap.size + 1) rfl
    have hbox : wr.cell? ⟨w.heap.size, 0, none⟩ = some (.slice A0 l0.length c0) := by
      rw [HB.cell (p := ⟨w.heap.size, 0, none⟩) (by simp), ← hn]; simp
    have hcells : ∀ j, j < N + 1 → wr.cell? ⟨w.heap.size + 1, j, none⟩ = some (.int .i64 j) ∧ wr.frozen? ⟨w.heap.size + 1, j, none⟩ = false := by
      intro j hj
      have h := own_at HO (j : Int) (by omega) (by omega)
      simp only [Int.toNat_natCast] at h
      have e : rd (upTo (N + 1) (N + 1)) (j : Int) = (j : Int) := by
        simp [rd, upTo, List.getD_eq_getElem?_getD, hj]
      rw [e] at h
      exact h
    have hd : ∀ j (hj : j < N + 1), (Array.ofFn (n := N + 1) (fun i => (i : Stb.Ix N)))[j]! = ⟨j, hj⟩ := by
      intro j hj
      rw [getElem!_pos _ j (by simpa using hj)]
      simp
    have R : Row1 (Stb.E N) wr (w.heap.size + 1) 0 (Array.ofFn (n := N + 1) (fun i => (i : Stb.Ix N))) := by
      refine ⟨fun _ => rfl, fun j hj => ?_, hlt⟩
      have hj' : j < N + 1 := by simpa using hj
      rw [hd j hj', Nat.zero_add]
      exact hcells j hj'
    have hcmp := order_lays A0 c0 w.heap.size (w.heap.size + 1) l0 N hn.symm wr hbox (by omega) (by rw [← hn]; exact Kd.C_foot_came Kd.heap_float hr0 hbw (by omega)) (fun a b => ⟨_, compare_any a b⟩) (Array.ofFn (n := N + 1) (fun i => (i : Stb.Ix N))).size
    have hc := Stb.sortStable (fun x y : Stb.Ix N => ordCmp l0 x.val y.val) (order_swo l0 N) 59 #[.pointer (some ⟨w.heap.size, 0, none⟩)] (w.heap.size + 1) 0 (N + 1) (N + 1) _ wr (fun args wx => enter_run Try.func59 (by kernel_rfl) rfl args wx) hcmp R (by simp) (by omega)
    refine hc.mono ?_
    rintro e w' ⟨rfl, d', hp, hs, S⟩
    have hsz : d'.size = N + 1 := by have := hp.perm.1; simpa using this
    have hso : d'.toList = Stb.isort (ltOf fun x y : Stb.Ix N => ordCmp l0 x.val y.val) (Array.ofFn (n := N + 1) (fun i => (i : Stb.Ix N))).toList :=
      Stb.isort_is (order_swo l0 N) (Stb.sortedL_of d' (by rw [hsz]; exact hs)) hp.st
    have hmap : (d'.toList.map fun x => x.val) = ordOf l0 := by
      have e : (ltOf fun x y : Stb.Ix N => ordCmp l0 x.val y.val) = fun x y : Stb.Ix N => ordLt l0 x.val y.val := by
        funext x y; exact ordCmp_lt l0 x.val y.val
      rw [hso, e, Stb.isort_map (lt := ordLt l0) (fun x : Stb.Ix N => x.val)]
      unfold ordOf
      congr 1
      rw [← hn, Array.toList_ofFn]
      apply List.ext_getElem
      · simp only [List.length_map, List.length_ofFn, List.length_range]
      · intro i h1 h2
        simp only [List.getElem_map, List.getElem_ofFn, List.getElem_range]
    have hval : (d'.toList.map fun x => (x.val : Int)) = (ordOf l0).map fun i : Nat => (i : Int) := by rw [← hmap, List.map_map]; rfl
    obtain ⟨m, os, rfl⟩ := S
    rw [sort_ints, hval]
    have hlen2 : ((ordOf l0).map fun i : Nat => (i : Int)).length = N + 1 := by rw [← hval]; simpa using hsz
    obtain ⟨_, ho⟩ := HO
    rcases ho with ⟨h0, _⟩ | ⟨g, cap, cur, hv, hg, hh, h1, h2, h3, _⟩
    · cases h0
    injection hv with hv1 hv2 hv3
    injection hv1 with hv1
    injection hv1 with hv1
    subst hv1 hv3
    have hown := ownsRow_sortedI (base := w.heap.size) (n := m) (os := os) (ss := List.replicate (N + 1) (0 : Int)) (ts := (ordOf l0).map fun i : Nat => (i : Int)) (by rw [hlen2]; simp) (by omega) hh (by rw [List.length_replicate]; exact h1) h2 h3
    refine ⟨rfl, ?_, ?_⟩
    · refine Kd.R_of_own (enc := Value.int .i64) (h1 := fun _ => rfl) (ok := fun _ => True) (xs := (ordOf l0).map fun i : Nat => (i : Int)) ?_ (fun _ _ => trivial)
      rw [hlen2]
      simpa [encs] using hown
    · refine hbw.grown (Go.grownBy_sortedI _) hbw.size ?_
      intro k hk
      injection hk with hk
      omega
set_option maxHeartbeats 4000000 in
set_option maxRecDepth 100000 in
theorem score_Order.calls (A0 : Option Addr) (c0 : Nat) (l0 : List Nat) (r : List Int) (w : World) (hr0 : Kd.C Kd.float w A0 l0.length l0) (hc0 : l0.length ≤ c0) (h : score_Order.f l0 = some r) :
    Calls Try.prog 46 #[.slice A0 l0.length c0] w fun e w' => ∃ v0_ : Value, e = .returned (v0_) ∧ Kd.R (Kd.int .i64) 3 w' w.heap.size (fun _ => True) v0_ r ∧ Below w.heap.size w w' := by
  unfold score_Order.f at h
  by_cases hlen : l0.length ≤ 35184372088832
  case neg => rw [if_neg hlen] at h; cases h
  rw [if_pos hlen] at h
  obtain rfl := Option.some.inj h
  clear h
  have HR := Aside0.mk hr0
  obtain ⟨n, hn⟩ : ∃ n, n = l0.length := ⟨_, rfl⟩
  have HN := Aside0.mk hn
  rw [← hn] at hlen hc0 ⊢
  have hmk := print_make (P := Try.prog) 51 3 .i64 8 Try.underlying51 (by kernel_rfl) (by omega) n (by omega)
  clear hr0 hn
  go_enter Try.func46, Try.ntmps46
  go_wp2
  have HO0 : Aside0 (((w.alloc (.cells #[.slice A0 n c0] 29)).alloc (.cells (madeCells #[.int .i64 0] n) 3)).ownsRow w.heap.size 3 1 (.slice (some ⟨w.heap.size + 1, 0, none⟩) n n) n (nums .i64 (upTo n 0))) := ⟨by
    have h := own_made (w.alloc (.cells #[.slice A0 n c0] 29)) w.heap.size 3 .i64 n (by simp) (by omega)
    rw [upTo_zero]; simpa using h⟩
  have HB0 : Aside0 (Below (w.heap.size + 1) (w.alloc (.cells #[.slice A0 n c0] 29)) ((w.alloc (.cells #[.slice A0 n c0] 29)).alloc (.cells (madeCells #[.int .i64 0] n) 3))) := ⟨(Below.refl _ _).alloc (by simp) _⟩
  generalize ((w.alloc (.cells #[.slice A0 n c0] 29)).alloc (.cells (madeCells #[.int .i64 0] n) 3)) = W0 at HO0 HB0 ⊢
  go_loopg [10] n (fun g1 va wr => ∃ k : Nat, va = .int .i64 k ∧ k ≤ n ∧ n - k ≤ g1 ∧ Aside0 (wr.ownsRow w.heap.size 3 1 (.slice (some ⟨w.heap.size + 1, 0, none⟩) n n) n (nums .i64 (upTo n k))) ∧ Aside0 (Below (w.heap.size + 1) (w.alloc (.cells #[.slice A0 n c0] 29)) wr))
  case atStart => exact ⟨0, rfl, Nat.zero_le _, Nat.le_refl _, HO0, HB0⟩
  case round =>
    clear HO0 HB0
    obtain ⟨k, rfl, hk, hg1, HO, HB⟩ := hrel
    by_cases hlt : k < n
    · have hltz : (k : Int) < (n : Int) := by omega
      have hk0 : (0 : Int) ≤ (k : Int) := by omega
      obtain ⟨h1, h2⟩ := own_at HO.out (k : Int) (by omega) (by omega)
      have S0 := own_store HO.out (k : Int) (k : Int)
      simp only [Int.toNat_natCast] at h1 h2 S0
      rw [upTo_set n k hlt] at S0
      have S1 := Aside0.mk S0
      clear S0
      go_wp2
      go_roundg (n - (k + 1))
      case measure => omega
      case rel => exact ⟨k + 1, by go_num, by omega, Nat.le_refl _, ⟨S1.out.1⟩, ⟨HB.out.setCell (by simp) _⟩⟩
    · have hltz : ¬ (k : Int) < (n : Int) := by omega
      have hkn : n = k := by omega
      subst hkn
      have hc := order_sorts A0 c0 l0 n HN.out hlen w wr (by rw [HN.out]; exact HR.out) HO.out HB.out
      clear hmk
      go_wp2_with (go_at_call 58; (with_reducible refine hc.mono ?_); rintro e w' ⟨rfl, hR, hB⟩)
      go_ret
      exact ⟨_, rfl, hR, hB⟩
end Go.Proofs.Ytoepfkmeglnnaaa.Q
