/- What came in as data of a type lies in memory as a kind of the printed words, and its parts are good. No condition. -/
import Derived.Test.YtgijcafgnonjjaaFl
import Derived.ChangeArms
import Derived.DataReads
import Derived.DataElems
namespace Go.Proofs.Ytgijcafgnonjjaa.Op
open Go.Proofs.YtgijcafgnonjjaaW.PrintWords

/-- Whatever reads as type t by so much fuel lies as kind d, and is good. -/
def At (P : Program) {α : Type} (d : Kd α) (good : α → Prop) (t : TypeId) (fuel : Nat) : Prop :=
  ∀ (H : Type) (enc : TypeId × Value → H) (w : World) (spare : Nat → Bool) (cs : List Value) (x : DataW H × List MemPlace),
    DataW.trod enc P w 0 spare true fuel t cs = some x → ∃ v, d.K w v cs ∧ good v

section
variable {P : Program} {t : TypeId} {fuel : Nat}
theorem int {k : IntKind} (ht : P.underlying t = some (.int k)) : At P (Kd.int k) (fun n => (Lit.int k n).wf = true) t fuel := by
  intro H enc w spare cs x h
  obtain ⟨n, rfl, _, hw⟩ := DataW.trod_int ht h
  exact ⟨n, rfl, hw⟩
theorem bool (ht : P.underlying t = some .bool) : At P Kd.bool (fun _ => True) t fuel := by
  intro H enc w spare cs x h
  obtain ⟨n, rfl, _⟩ := DataW.trod_bool ht h
  exact ⟨n, rfl, trivial⟩
theorem string (ht : P.underlying t = some .string) : At P Kd.string (fun s => s.size ≤ maxLen) t fuel := by
  intro H enc w spare cs x h
  obtain ⟨s, rfl, _, hs⟩ := DataW.trod_string ht h
  exact ⟨s, rfl, hs⟩
theorem trod_float {H : Type} {enc : TypeId × Value → H} {w : World} {spare : Nat → Bool} {cs : List Value} {x : DataW H × List MemPlace} (ht : P.underlying t = some (.float .f64)) (h : DataW.trod enc P w 0 spare true fuel t cs = some x) : ∃ b, cs = [.float .f64 b] ∧ (Lit.float .f64 b).wf = true := by
  cases fuel with
  | zero => simp [DataW.trod] at h
  | succ n =>
    unfold DataW.trod at h
    rw [ht] at h
    split at h <;> simp_all
theorem float (ht : P.underlying t = some (.float .f64)) : At P Kd.float (fun b => b < 18446744073709551616) t fuel := by
  intro H enc w spare cs x h
  obtain ⟨b, rfl, hw⟩ := trod_float ht h
  exact ⟨b, rfl, by simpa [Lit.wf] using hw⟩
theorem choose_list {α : Type} {Q : Nat → α → Prop} : ∀ n, (∀ i, i < n → ∃ v, Q i v) → ∃ l : List α, l.length = n ∧ ∀ i v, l[i]? = some v → Q i v := by
  intro n
  induction n with
  | zero => intro _; exact ⟨[], rfl, fun i v h => by simp at h⟩
  | succ n ih =>
    intro h
    obtain ⟨l, hl, hq⟩ := ih (fun i hi => h i (by omega))
    obtain ⟨v, hv⟩ := h n (by omega)
    refine ⟨l ++ [v], by simp [hl], fun i u hu => ?_⟩
    rcases Nat.lt_trichotomy i n with hi | hi | hi
    · rw [List.getElem?_append_left (by omega)] at hu
      exact hq i u hu
    · subst hi
      rw [List.getElem?_append_right (by omega), hl] at hu
      simp at hu
      exact hu ▸ hv
    · rw [List.getElem?_eq_none (by simp; omega)] at hu
      cases hu
theorem slice {α : Type} {d : Kd α} {good : α → Prop} {e : TypeId} (e' : Nat) (ht : P.underlying t = some (.slice e)) (hd : d.sz = P.cellsOf e) (he : ∀ m, m < fuel → At P d good e m) :
    At P (Kd.slice e' d) (fun l => ∀ x ∈ l, good x) t fuel := by
  intro H enc w spare cs x h
  rcases DataW.trod_slice ht h with ⟨rfl, _⟩ | ⟨a, len, cap, elems, rest, n, hn, rfl, rfl, hb, hl, hm, hlen, hel, _, _⟩
  · exact ⟨[], ⟨none, 0, rfl, Nat.le_refl _, rfl, by simp, fun h => absurd h (by simp)⟩, by simp⟩
  have each : ∀ i, i < len → ∃ v, ((∃ c, c.length = d.sz ∧ d.K w v c ∧ ∀ j u, c[j]? = some u → w.cell? (a.add (i * d.sz + j)) = some u) ∧ good v) := by
    intro i hi
    have h1 := hel i hi
    rw [List.getElem?_eq_getElem (by omega), Option.bind_eq_some_iff] at h1
    obtain ⟨c, hc, hy⟩ := h1
    obtain ⟨_, hcl, hcell⟩ := World.cells?_some hc
    obtain ⟨v, hv, hg⟩ := he n (by omega) H enc w spare c _ hy
    refine ⟨v, ⟨c, by omega, hv, fun j u hu => ?_⟩, hg⟩
    have hj : j < c.length := (List.getElem?_eq_some_iff.1 hu).1
    rw [← hu, ← hcell j (by omega), Addr.add_add, hd]
  obtain ⟨l, hll, hq⟩ := choose_list len each
  refine ⟨l, ⟨some a, cap, by rw [hll], by omega, rfl, by unfold maxLen at hm; omega, fun _ => ⟨a, rfl, fun j p hj => (hq j p hj).1⟩⟩, fun x hx => ?_⟩
  obtain ⟨i, hi⟩ := List.getElem?_of_mem hx
  exact (hq i x hi).2

/-- The fields of a struct from one place on. -/
def Flds (P : Program) {α : Type} (d : Kd α) (good : α → Prop) (fs : List Field) (fuel off : Nat) : Prop :=
  d.sz = (fs.map fun f => P.cellsOf f.type).sum ∧
  ∀ (H : Type) (enc : TypeId × Value → H) (w : World) (spare : Nat → Bool) (cs : List Value), cs.length = off + d.sz →
    (∀ f ∈ fs, ∃ y, DataW.trod enc P w 0 spare true fuel f.type ((cs.drop f.offset).take (P.cellsOf f.type)) = some y) → ∃ v, d.K w v (cs.drop off) ∧ good v
theorem last {α : Type} {d : Kd α} {good : α → Prop} {f : Field} {off : Nat} (ho : f.offset = off) (hs : d.sz = P.cellsOf f.type) (h : At P d good f.type fuel) : Flds P d good [f] fuel off := by
  refine ⟨by simp [hs], fun H enc w spare cs hl hf => ?_⟩
  obtain ⟨y, hy⟩ := hf f (by simp)
  obtain ⟨v, hv, hg⟩ := h H enc w spare _ _ hy
  refine ⟨v, ?_, hg⟩
  rw [ho, List.take_of_length_le (by simp; omega)] at hv
  exact hv
theorem more {α β : Type} {d : Kd α} {good : α → Prop} {d' : Kd β} {good' : β → Prop} {f : Field} {fs : List Field} {off : Nat} (ho : f.offset = off) (hs : d.sz = P.cellsOf f.type) (h : At P d good f.type fuel) (h' : Flds P d' good' fs fuel (off + d.sz)) :
    Flds P (Kd.pair d d') (fun x => good x.1 ∧ good' x.2) (f :: fs) fuel off := by
  refine ⟨by simp [Kd.pair, hs, h'.1], fun H enc w spare cs hl hf => ?_⟩
  have hl' : cs.length = off + d.sz + d'.sz := by simpa [Kd.pair, Nat.add_assoc] using hl
  obtain ⟨y, hy⟩ := hf f (by simp)
  obtain ⟨v, hv, hg⟩ := h H enc w spare _ _ hy
  obtain ⟨v', hv', hg'⟩ := h'.2 H enc w spare cs hl' (fun g hm => hf g (by simp [hm]))
  refine ⟨(v, v'), ⟨_, _, ?_, hv, hv'⟩, hg, hg'⟩
  rw [ho, hs, show off + P.cellsOf f.type = off + P.cellsOf f.type from rfl, ← List.drop_drop, List.take_append_drop]
theorem struct {α β : Type} {d : Kd α} {good : α → Prop} {fs : Array Field} (ht : P.underlying t = some (.struct fs)) (f : β → α) (g : α → β) (hfg : ∀ a, f (g a) = a) (hd : d.sz = P.cellsOf t)
    (h : ∀ m, m < fuel → Flds P d good fs.toList m 0) : At P (Kd.iso d f) (fun x => good (f x)) t fuel := by
  intro H enc w spare cs x hx
  obtain ⟨xs, n, hn, _, hl, hlen, hf⟩ := DataW.trod_struct ht hx
  obtain ⟨v, hv, hg⟩ := (h n (by omega)).2 H enc w spare cs (by omega) (fun q hq => by
    obtain ⟨i, hi⟩ := List.getElem?_of_mem hq
    have hi' : fs[i]? = some q := by simpa using hi
    have h1 := hf i q hi'
    have hlt : i < fs.size := (Array.getElem?_eq_some_iff.1 hi').1
    rw [List.getElem?_eq_getElem (by omega)] at h1
    exact ⟨_, h1⟩)
  exact ⟨g v, by simpa [Kd.iso, hfg] using hv, by simpa [hfg] using hg⟩
theorem fix {α : Type} {F : Kd α → Kd α} {sz : Nat} {E : List Nat} {hs : ∀ n, (Kd.upto F sz E n).sz = sz} {hE : ∀ n q, q ∈ (Kd.upto F sz E n).E → q ∈ E} {good : α → Prop}
    (step : ∀ fuel d, d.sz = sz → (∀ m, m < fuel → At P d good t m) → At P (F d) good t fuel) : At P (Kd.fix F sz E hs hE) good t fuel := by
  have key : ∀ m fuel, fuel ≤ m → At P (Kd.upto F sz E m) good t fuel := by
    intro m
    induction m with
    | zero =>
      intro fuel hf H enc w spare cs x hx
      obtain rfl : fuel = 0 := by omega
      simp [DataW.trod] at hx
    | succ m ih => intro fuel hf; exact step fuel _ (hs m) (fun k hk => ih k (by omega))
  intro H enc w spare cs x hx
  obtain ⟨v, hv, hg⟩ := key fuel fuel (Nat.le_refl _) H enc w spare cs x hx
  exact ⟨v, ⟨fuel, hv⟩, hg⟩
theorem imp {α : Type} {d : Kd α} {good good' : α → Prop} (h : At P d good t fuel) (hi : ∀ x, good x → good' x) : At P d good' t fuel := by
  intro H enc w spare cs x hx
  obtain ⟨v, hv, hg⟩ := h H enc w spare cs x hx
  exact ⟨v, hv, hi v hg⟩
end

/-- An argument that is a slice. -/
theorem arg_slice {H : Type} {enc : TypeId × Value → H} {P : Program} {w : World} {t : TypeId} {α : Type} {d : Kd α} {good : List α → Prop} {e : Nat} {a : Option Addr} {len cap : Nat} {x : DataW H} {ps : List MemPlace}
    (h : DataW.Trod enc P w 0 (fun _ => true) true t (.slice a len cap) x ps) (ho : ∀ fuel, At P (Kd.slice e d) good t fuel) : ∃ l, len = l.length ∧ l.length ≤ cap ∧ d.C w a l.length l ∧ good l := by
  obtain ⟨fuel, hf⟩ := h
  obtain ⟨l, ⟨A, c, he, hc, hr⟩, hg⟩ := ho fuel H enc w _ _ _ hf
  simp [Value.cells] at he
  obtain ⟨rfl, rfl, rfl⟩ := he
  exact ⟨l, rfl, hc, hr, hg⟩
/-- An argument that is a struct. -/
theorem arg_struct {H : Type} {enc : TypeId × Value → H} {P : Program} {w : World} {t : TypeId} {α : Type} {d : Kd α} {good : α → Prop} {cs : Array Value} {x : DataW H} {ps : List MemPlace}
    (h : DataW.Trod enc P w 0 (fun _ => true) true t (.agg cs) x ps) (ho : ∀ fuel, At P d good t fuel) : ∃ v, d.K w v cs.toList ∧ good v := by
  obtain ⟨fuel, hf⟩ := h
  exact ho fuel H enc w _ _ _ hf
end Go.Proofs.Ytgijcafgnonjjaa.Op
