/- The learner's four kinds of maps. No condition. -/
import Derived.Test.YtkdegcpfjfgajaaMgW
import Derived.Test.YtkdegcpfjfgajaaProg
import Derived.Test.YtkdegcpfjfgajaaWWordsW
import Derived.DeepKeys4
import Derived.KernelRfl
namespace Go.Proofs.Ytkdegcpfjfgajaa.X
open Go Go.RowKit Go.Maps Go.Proofs.YtkdegcpfjfgajaaW.PrintWords Go.Proofs.Ytkdegcpfjfgajaa.Mg
open Go.WideMaps (KeyLaw)
set_option linter.unusedVariables false
set_option linter.unusedSimpArgs false
theorem laidOutX : laidOutB Try.prog = true := by kernel_rfl
set_option maxRecDepth 100000 in
theorem row79 : (79 : TypeId) < Try.prog.types.size := of_decide_eq_true (by kernel_rfl)
set_option maxRecDepth 100000 in
theorem wide79 : (match Try.prog.underlying 79 with | some (.array _ _) | some (.struct _) => true | _ => false) = true := by kernel_rfl
set_option maxRecDepth 100000 in
theorem elder79 : KeyLaw Try.prog 79 := deep_law_laid laidOutX (m := 2) (by omega) row79 (by kernel_rfl) wide79
theorem law79 : Keyed Try.prog 79 := Keyed.of_law elder79
set_option maxRecDepth 100000 in
theorem keyType79 : Try.prog.keyType 79 = true := by kernel_rfl
theorem cells79 : Try.prog.cellsOf 79 = 2 := by kernel_rfl
theorem cells2 : Try.prog.cellsOf 2 = 1 := by kernel_rfl
theorem keyOf_struct {P : Program} {k : TypeId} {fs : Array Field} (hu : P.underlying k = some (.struct fs)) (v : Value) : keyOf P k v = if P.keyType k && v.formed P k then (P.keyLits (P.types.size + 1) k v.cells.toList).map (fun ls => Lit.string (keyBytes ls)) else none := by
  unfold keyOf
  rw [hu]
theorem suc_two {z : Nat} (h : 1 ≤ z) : ∃ n, z + 1 = n + 2 := ⟨z - 1, by omega⟩
def two (a c : Int) : Value := .agg #[.int .i64 a, .int .i64 c]
def W64 (a : Int) : Prop := -9223372036854775808 ≤ a ∧ a < 9223372036854775808
theorem wf64 {a : Int} (h : W64 a) : (Lit.int .i64 a).wf = true := WalkArith.wf_i64 ⟨h.1, by have := h.2; omega⟩
theorem wf64_inv {a : Int} (h : (Lit.int .i64 a).wf = true) : W64 a := by
  unfold W64
  simp only [Lit.wf, Bool.and_eq_true, decide_eq_true_eq] at h
  have e1 : IntKind.i64.min = -9223372036854775808 := by decide
  have e2 : IntKind.i64.max = 9223372036854775807 := by decide
  rw [e1, e2] at h
  exact ⟨h.1, by have := h.2; omega⟩
def klOf (a c : Int) : Lit := .string (keyBytes [.int .i64 a, .int .i64 c])
theorem lits_two (n : Nat) (a c : Int) (ha : W64 a) (hc : W64 c) : Try.prog.keyLits (n + 2) 79 [.int .i64 a, .int .i64 c] = some [.int .i64 a, .int .i64 c] := by
  have e1 := wf64 ha
  have e2 := wf64 hc
  simp [Program.keyLits, Try.underlying79, Try.underlying2, cells79, cells2, e1, e2]
set_option maxRecDepth 100000 in
theorem key_two (a c : Int) (ha : W64 a) (hc : W64 c) : keyOf Try.prog 79 (two a c) = some (klOf a c) := by
  have hsz : (1 : Nat) ≤ Try.prog.types.size := Nat.le_trans (by decide) (Nat.le_of_lt row79)
  obtain ⟨n, hn⟩ : ∃ n, Try.prog.types.size + 1 = n + 2 := suc_two hsz
  have hf : (two a c).formed Try.prog 79 = true := by simp [Value.formed, two, Try.underlying79, cells79]
  have hl : Try.prog.keyLits (Try.prog.types.size + 1) 79 [.int .i64 a, .int .i64 c] = some [.int .i64 a, .int .i64 c] := hn ▸ lits_two n a c ha hc
  rw [keyOf_struct Try.underlying79, keyType79, hf, Bool.and_self, if_pos rfl]
  have hcs : (two a c).cells.toList = [.int .i64 a, .int .i64 c] := rfl
  rw [hcs, hl]
  rfl
theorem two_inj {a c a' c' : Int} (h : two a c = two a' c') : (a, c) = (a', c') := by
  unfold two at h
  simp only [Value.agg.injEq, Array.mk.injEq, List.cons.injEq, Value.int.injEq, true_and, and_true] at h
  rw [h.1, h.2]
set_option maxRecDepth 100000 in
theorem lit_one (n : Nat) (u : Value) (ls : List Lit) (h : Try.prog.keyLits (n + 1) 2 [u] = some ls) : ∃ a, W64 a ∧ u = .int .i64 a := by
  unfold Program.keyLits at h
  rw [Try.underlying2] at h
  cases u <;> simp at h
  rename_i q a
  obtain ⟨⟨rfl, hw⟩, _⟩ := h
  exact ⟨a, wf64_inv hw, rfl⟩
theorem lits_inv (n : Nat) (u v : Value) (ls : List Lit) (h : Try.prog.keyLits (n + 2) 79 [u, v] = some ls) : ∃ a c, W64 a ∧ W64 c ∧ u = .int .i64 a ∧ v = .int .i64 c := by
  unfold Program.keyLits at h
  simp only [Try.underlying79, cells79, List.length_cons, List.length_nil, Nat.zero_add, Nat.reduceAdd, true_and] at h
  split at h
  · obtain ⟨lss, h1, _⟩ := Option.map_eq_some_iff.1 h
    simp only [List.mapM_cons, List.mapM_nil, List.drop_zero, List.drop_succ_cons, cells2, List.take_succ_cons, List.take_zero] at h1
    obtain ⟨l1, e1, h2⟩ := Option.bind_eq_some_iff.1 h1
    obtain ⟨l2, e2, h3⟩ := Option.bind_eq_some_iff.1 h2
    obtain ⟨l3, e3, h4⟩ := Option.bind_eq_some_iff.1 e2
    obtain ⟨a, ha, rfl⟩ := lit_one n u l1 e1
    obtain ⟨c, hc, rfl⟩ := lit_one n v l3 e3
    exact ⟨a, c, ha, hc, rfl, rfl⟩
  · cases h
set_option maxRecDepth 100000 in
theorem key_inv (v : Value) (l : Lit) (h : keyOf Try.prog 79 v = some l) : ∃ x : Int × Int, (W64 x.1 ∧ W64 x.2) ∧ v = two x.1 x.2 ∧ l = klOf x.1 x.2 := by
  have h0 := h
  rw [keyOf_struct Try.underlying79, keyType79, Bool.true_and] at h
  split at h
  · rename_i hf
    cases v <;> simp [Value.formed, Try.underlying79, cells79] at hf
    rename_i cs
    obtain ⟨n, hn⟩ : ∃ n, Try.prog.types.size + 1 = n + 2 := suc_two (Nat.le_trans (by decide) (Nat.le_of_lt row79))
    obtain ⟨ls, hls, _⟩ := Option.map_eq_some_iff.1 h
    rw [hn] at hls
    obtain ⟨u, v, hcs⟩ : ∃ u v, cs.toList = [u, v] := by
      have hl : cs.toList.length = 2 := by simpa using hf
      match cs.toList, hl with
      | [u, v], _ => exact ⟨u, v, rfl⟩
    have e : (Value.agg cs).cells.toList = cs.toList := rfl
    rw [e, hcs] at hls
    obtain ⟨a, c, ha, hc, rfl, rfl⟩ := lits_inv n u v ls hls
    have e2 : Value.agg cs = two a c := by
      unfold two
      congr 1
      exact Array.toList_inj.1 hcs
    rw [e2, key_two a c ha hc] at h0
    exact ⟨(a, c), ⟨ha, hc⟩, e2, (Option.some.inj h0).symm⟩
  · cases h
theorem law9 : Keyed Try.prog 9 := string_keyed Try.underlying9
theorem law3 : Keyed Try.prog 3 := int_keyed Try.underlying3
theorem zero2 (w : World) : (zeroValue 2).run Try.prog w = .ok (.int .i64 0) w := by kernel_rfl
theorem zero3 (w : World) : (zeroValue 3).run Try.prog w = .ok (.int .i64 0) w := by kernel_rfl
theorem zero111 (w : World) : (zeroValue 111).run Try.prog w = .ok (.map none) w := by kernel_rfl
theorem lit_inj {a c : Int} (h : (DataW.lit (.int .i64 a) : DataW Unit) = .lit (.int .i64 c)) : a = c := by
  simp only [DataW.lit.injEq, Lit.int.injEq, true_and] at h
  exact h
set_option maxRecDepth 100000 in
theorem str_inv (v : Value) (l : Lit) (h : keyOf Try.prog 9 v = some l) : ∃ s : ByteArray, s.size ≤ maxLen ∧ v = .string s ∧ l = .string s.data.toList := by
  unfold keyOf at h
  rw [Try.underlying9] at h
  unfold mapKey at h
  rw [Try.underlying9] at h
  cases v <;> simp at h
  exact ⟨_, h.1, rfl, h.2.symm⟩
/-- map[pair]int64 -/
noncomputable def MW : MK Try.prog (Int × Int) Int where
  t := 73
  k := 79
  e := 2
  law := law79
  und := Try.underlying73
  kv := fun x => two x.1 x.2
  kl := fun x => klOf x.1 x.2
  ok := fun x => W64 x.1 ∧ W64 x.2
  key := fun x hx => key_two x.1 x.2 hx.1 hx.2
  inv := key_inv
  inj := fun x y h => two_inj h
  ev := Value.int .i64
  wf := W64
  dat := fun a => .lit (.int .i64 a)
  R := plainElem Try.prog 2
  Rok := fun x hx => plainElem_int Try.underlying2 (wf64 hx)
  Rinv := fun v y h => by
    obtain ⟨a, rfl, rfl, hw⟩ := plainElem_int_inv Try.underlying2 h
    exact ⟨a, wf64_inv hw, rfl, rfl⟩
  dinj := fun x y h => lit_inj h
  z := 0
  zwf := by unfold W64; omega
  zero := zero2
def dq : Option Nat → DataW Unit
  | none => .nil
  | some q => .lit (.int .i64 (q : Int))
def Rq : Value → Option (DataW Unit × List MemPlace)
  | .map o => some (dq o, [])
  | _ => none
/-- map[pair]map[int]int: the elements as blocks -/
noncomputable def MI : MK Try.prog (Int × Int) (Option Nat) where
  t := 74
  k := 79
  e := 111
  law := law79
  und := Try.underlying74
  kv := fun x => two x.1 x.2
  kl := fun x => klOf x.1 x.2
  ok := fun x => W64 x.1 ∧ W64 x.2
  key := fun x hx => key_two x.1 x.2 hx.1 hx.2
  inv := key_inv
  inj := fun x y h => two_inj h
  ev := Value.map
  wf := fun _ => True
  dat := dq
  R := Rq
  Rok := fun x _ => rfl
  Rinv := fun v y h => by
    cases v <;> simp [Rq] at h
    exact ⟨_, trivial, rfl, by rw [← h]⟩
  dinj := fun x y h => by
    cases x <;> cases y <;> simp [dq] at h
    · rfl
    · exact congrArg some (by omega)
  z := none
  zwf := trivial
  zero := zero111
/-- map[int]int -/
noncomputable def MN : MK Try.prog Int Int where
  t := 111
  k := 3
  e := 3
  law := law3
  und := Try.underlying111
  kv := Value.int .i64
  kl := fun a => .int .i64 a
  ok := W64
  key := fun x hx => keyOf_int_mk Try.underlying3 (wf64 hx)
  inv := fun v l h => by
    obtain ⟨a, rfl, rfl, hw⟩ := Maps.keyOf_int_inv Try.underlying3 h
    exact ⟨a, wf64_inv hw, rfl, rfl⟩
  inj := fun x y h => by simpa using h
  ev := Value.int .i64
  wf := W64
  dat := fun a => .lit (.int .i64 a)
  R := plainElem Try.prog 3
  Rok := fun x hx => plainElem_int Try.underlying3 (wf64 hx)
  Rinv := fun v y h => by
    obtain ⟨a, rfl, rfl, hw⟩ := plainElem_int_inv Try.underlying3 h
    exact ⟨a, wf64_inv hw, rfl, rfl⟩
  dinj := fun x y h => lit_inj h
  z := 0
  zwf := by unfold W64; omega
  zero := zero3
/-- map[string]int -/
noncomputable def MS : MK Try.prog ByteArray Int where
  t := 75
  k := 9
  e := 3
  law := law9
  und := Try.underlying75
  kv := Value.string
  kl := fun s => .string s.data.toList
  ok := fun s => s.size ≤ maxLen
  key := fun x hx => Go.WideMaps.keyOf_string_mk Try.underlying9 hx
  inv := str_inv
  inj := fun x y h => by simpa using h
  ev := Value.int .i64
  wf := W64
  dat := fun a => .lit (.int .i64 a)
  R := plainElem Try.prog 3
  Rok := fun x hx => plainElem_int Try.underlying3 (wf64 hx)
  Rinv := fun v y h => by
    obtain ⟨a, rfl, rfl, hw⟩ := plainElem_int_inv Try.underlying3 h
    exact ⟨a, wf64_inv hw, rfl, rfl⟩
  dinj := fun x y h => lit_inj h
  z := 0
  zwf := by unfold W64; omega
  zero := zero3
end Go.Proofs.Ytkdegcpfjfgajaa.X
