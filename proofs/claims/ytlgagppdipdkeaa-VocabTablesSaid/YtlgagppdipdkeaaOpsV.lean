/- What came in as a vocabulary lies in memory as a kind of the printed words, and its parts are good. No condition. -/
import Derived.Test.YtlgagppdipdkeaaFlV
import Derived.ChangeArms
import Derived.DataReads
import Derived.DataElems
import Derived.Handed
import Derived.JoinedAt
import Derived.Test.YtlgagppdipdkeaaQ0V
import Derived.KernelRfl
section
namespace Go.Proofs.Ytlgagppdipdkeaa.Op
open Go.Proofs.YtlgagppdipdkeaaW.PrintWords

/-- Whatever reads as type t by so much fuel lies as kind d, and is good. -/
def At (P : Program) {α : Type} (d : Kd α) (good : α → Prop) (t : TypeId) (fuel : Nat) : Prop :=
  ∀ (H : Type) (enc : TypeId × Value → H) (w : World) (spare : Nat → Bool) (cs : List Value) (x : DataW H × List MemPlace),
    DataW.trod enc P w 0 spare true fuel t cs = some x → (∀ n ∈ x.1.weights P t, n ≤ reachBytes) → ∃ v, d.K w v cs ∧ good v
theorem all_mem {H : Type} {P : Program} {e : TypeId} {n : Nat} {d : DataW H} : ∀ {ds : List (DataW H)}, d ∈ ds → n ∈ d.weights P e → n ∈ DataW.weightsAll P e ds
  | [], h, _ => by cases h
  | x :: r, h, hn => by
    simp only [DataW.weightsAll, List.mem_append]
    rcases List.mem_cons.1 h with rfl | h
    · exact Or.inl hn
    · exact Or.inr (all_mem h hn)
theorem each_mem {H : Type} {P : Program} {n : Nat} {t : TypeId} {d : DataW H} : ∀ {ts : List TypeId} {ds : List (DataW H)} (i : Nat), ts[i]? = some t → ds[i]? = some d → n ∈ d.weights P t → n ∈ DataW.weightsEach P ts ds
  | [], _, i, h, _, _ => by simp at h
  | _ :: _, [], i, _, h, _ => by simp at h
  | t0 :: ts, d0 :: ds, 0, h1, h2, hn => by
    simp only [List.getElem?_cons_zero, Option.some.injEq] at h1 h2
    subst h1 h2
    simp only [DataW.weightsEach, List.mem_append]
    exact Or.inl hn
  | t0 :: ts, d0 :: ds, i + 1, h1, h2, hn => by
    simp only [List.getElem?_cons_succ] at h1 h2
    simp only [DataW.weightsEach, List.mem_append]
    exact Or.inr (each_mem i h1 h2 hn)

section
variable {P : Program} {t : TypeId} {fuel : Nat}
theorem int {k : IntKind} (ht : P.underlying t = some (.int k)) : At P (Kd.int k) (fun n => (Lit.int k n).wf = true) t fuel := by
  intro H enc w spare cs x h _
  obtain ⟨n, rfl, _, hw⟩ := DataW.trod_int ht h
  exact ⟨n, rfl, hw⟩
theorem bool (ht : P.underlying t = some .bool) : At P Kd.bool (fun _ => True) t fuel := by
  intro H enc w spare cs x h _
  obtain ⟨n, rfl, _⟩ := DataW.trod_bool ht h
  exact ⟨n, rfl, trivial⟩
theorem string (ht : P.underlying t = some .string) : At P Kd.string (fun s => s.size ≤ 140737488351232) t fuel := by
  intro H enc w spare cs x h hw
  obtain ⟨s, rfl, rfl, hs⟩ := DataW.trod_string ht h
  exact ⟨s, rfl, by have := hw s.data.toList.length (by simp [DataW.weights]); simpa [reachBytes] using this⟩
theorem trod_float {H : Type} {enc : TypeId × Value → H} {w : World} {spare : Nat → Bool} {cs : List Value} {x : DataW H × List MemPlace} (ht : P.underlying t = some (.float .f64)) (h : DataW.trod enc P w 0 spare true fuel t cs = some x) : ∃ b, cs = [.float .f64 b] ∧ (Lit.float .f64 b).wf = true := by
  cases fuel with
  | zero => simp [DataW.trod] at h
  | succ n =>
    unfold DataW.trod at h
    rw [ht] at h
    split at h <;> simp_all
theorem float (ht : P.underlying t = some (.float .f64)) : At P Kd.float (fun b => b < 18446744073709551616) t fuel := by
  intro H enc w spare cs x h _
  obtain ⟨b, rfl, hw⟩ := trod_float ht h
  exact ⟨b, rfl, by simpa [Lit.wf] using hw⟩
theorem choose_list {α : Type} {Q : Nat → α → Prop} : ∀ n, (∀ i, i < n → ∃ v, Q i v) → ∃ l : List α, l.length = n ∧ ∀ i v, l[i]? = some v → Q i v := by
  intro n
  induction n with
  | zero => intro _; exact ⟨[], rfl, fun i v h => by simp at h⟩
  | succ n ih =>
    intro h
    obtain ⟨l, hl, hq⟩ := ih (fun i hi => h i (by omega))
    obtain ⟨v, hv⟩ := h n (by omega)
    refine ⟨l ++ [v], by simp [hl], fun i u hu => ?_⟩
    rcases Nat.lt_trichotomy i n with hi | hi | hi
    · rw [List.getElem?_append_left (by omega)] at hu
      exact hq i u hu
    · subst hi
      rw [List.getElem?_append_right (by omega), hl] at hu
      simp at hu
      exact hu ▸ hv
    · rw [List.getElem?_eq_none (by simp; omega)] at hu
      cases hu
theorem slice {α : Type} {d : Kd α} {good : α → Prop} {e : TypeId} (e' : Nat) (bytes : Nat) (hbytes : P.bytesOf e = bytes) (ht : P.underlying t = some (.slice e)) (hd : d.sz = P.cellsOf e) (he : ∀ m, m < fuel → At P d good e m) :
    At P (Kd.slice e' d) (fun l => (∀ x ∈ l, good x) ∧ l.length * bytes ≤ 140737488351232) t fuel := by
  intro H enc w spare cs x h hwt
  rcases DataW.trod_slice ht h with ⟨rfl, _⟩ | ⟨a, len, cap, elems, rest, n, hn, rfl, rfl, hb, hl, hm, hlen, hel, _, _⟩
  · exact ⟨[], ⟨none, 0, rfl, Nat.le_refl _, rfl, by simp, fun h => absurd h (by simp)⟩, by simp⟩
  have each : ∀ i, i < len → ∃ v, ((∃ c, c.length = d.sz ∧ d.K w v c ∧ ∀ j u, c[j]? = some u → w.cell? (a.add (i * d.sz + j)) = some u) ∧ good v) := by
    intro i hi
    have h1 := hel i hi
    rw [List.getElem?_eq_getElem (by omega), Option.bind_eq_some_iff] at h1
    obtain ⟨c, hc, hy⟩ := h1
    obtain ⟨_, hcl, hcell⟩ := World.cells?_some hc
    obtain ⟨v, hv, hg⟩ := he n (by omega) H enc w spare c _ hy (fun k hk => hwt k (by
      simp only [DataW.weights, ht, List.mem_cons, List.mem_append]
      exact Or.inr (Or.inl (all_mem (List.mem_map_of_mem (List.getElem_mem _)) hk))))
    refine ⟨v, ⟨c, by omega, hv, fun j u hu => ?_⟩, hg⟩
    have hj : j < c.length := (List.getElem?_eq_some_iff.1 hu).1
    rw [← hu, ← hcell j (by omega), Addr.add_add, hd]
  obtain ⟨l, hll, hq⟩ := choose_list len each
  refine ⟨l, ⟨some a, cap, by rw [hll], by omega, rfl, by unfold maxLen at hm; omega, fun _ => ⟨a, rfl, fun j p hj => (hq j p hj).1⟩⟩, fun x hx => ?_, ?_⟩
  rotate_left 1
  · have h1 := hwt ((elems.length + rest.length) * bytes) (by simp only [DataW.weights, ht, List.mem_cons, List.length_map, hbytes]; exact Or.inl trivial)
    have h2 : l.length * bytes ≤ (elems.length + rest.length) * bytes := Nat.mul_le_mul_right _ (by omega)
    exact Nat.le_trans h2 h1
  obtain ⟨i, hi⟩ := List.getElem?_of_mem hx
  exact (hq i x hi).2

/-- The fields of a struct from one place on. -/
def Flds (P : Program) {α : Type} (d : Kd α) (good : α → Prop) (fs : List Field) (fuel off : Nat) : Prop :=
  d.sz = (fs.map fun f => P.cellsOf f.type).sum ∧
  ∀ (H : Type) (enc : TypeId × Value → H) (w : World) (spare : Nat → Bool) (cs : List Value), cs.length = off + d.sz →
    (∀ f ∈ fs, ∃ y, DataW.trod enc P w 0 spare true fuel f.type ((cs.drop f.offset).take (P.cellsOf f.type)) = some y ∧ ∀ n ∈ y.1.weights P f.type, n ≤ reachBytes) → ∃ v, d.K w v (cs.drop off) ∧ good v
theorem last {α : Type} {d : Kd α} {good : α → Prop} {f : Field} {off : Nat} (ho : f.offset = off) (hs : d.sz = P.cellsOf f.type) (h : At P d good f.type fuel) : Flds P d good [f] fuel off := by
  refine ⟨by simp [hs], fun H enc w spare cs hl hf => ?_⟩
  obtain ⟨y, hy, hyw⟩ := hf f (by simp)
  obtain ⟨v, hv, hg⟩ := h H enc w spare _ _ hy hyw
  refine ⟨v, ?_, hg⟩
  rw [ho, List.take_of_length_le (by simp; omega)] at hv
  exact hv
theorem more {α β : Type} {d : Kd α} {good : α → Prop} {d' : Kd β} {good' : β → Prop} {f : Field} {fs : List Field} {off : Nat} (ho : f.offset = off) (hs : d.sz = P.cellsOf f.type) (h : At P d good f.type fuel) (h' : Flds P d' good' fs fuel (off + d.sz)) :
    Flds P (Kd.pair d d') (fun x => good x.1 ∧ good' x.2) (f :: fs) fuel off := by
  refine ⟨by simp [Kd.pair, hs, h'.1], fun H enc w spare cs hl hf => ?_⟩
  have hl' : cs.length = off + d.sz + d'.sz := by simpa [Kd.pair, Nat.add_assoc] using hl
  obtain ⟨y, hy, hyw⟩ := hf f (by simp)
  obtain ⟨v, hv, hg⟩ := h H enc w spare _ _ hy hyw
  obtain ⟨v', hv', hg'⟩ := h'.2 H enc w spare cs hl' (fun g hm => hf g (by simp [hm]))
  refine ⟨(v, v'), ⟨_, _, ?_, hv, hv'⟩, hg, hg'⟩
  rw [ho, hs, show off + P.cellsOf f.type = off + P.cellsOf f.type from rfl, ← List.drop_drop, List.take_append_drop]
theorem struct {α β : Type} {d : Kd α} {good : α → Prop} {fs : Array Field} (ht : P.underlying t = some (.struct fs)) (f : β → α) (g : α → β) (hfg : ∀ a, f (g a) = a) (hd : d.sz = P.cellsOf t)
    (h : ∀ m, m < fuel → Flds P d good fs.toList m 0) : At P (Kd.iso d f) (fun x => good (f x)) t fuel := by
  intro H enc w spare cs x hx hwt
  obtain ⟨xs, n, hn, rfl, hl, hlen, hf⟩ := DataW.trod_struct ht hx
  obtain ⟨v, hv, hg⟩ := (h n (by omega)).2 H enc w spare cs (by omega) (fun q hq => by
    obtain ⟨i, hi⟩ := List.getElem?_of_mem hq
    have hi' : fs[i]? = some q := by simpa using hi
    have h1 := hf i q hi'
    have hlt : i < fs.size := (Array.getElem?_eq_some_iff.1 hi').1
    have hlx : i < xs.length := by omega
    rw [List.getElem?_eq_getElem hlx] at h1
    exact ⟨_, h1, fun k hk => hwt k (by
      simp only [DataW.weights, ht]
      exact each_mem i (by simp [hi']) (by rw [List.getElem?_map, List.getElem?_eq_getElem hlx]; rfl) hk)⟩)
  exact ⟨g v, by simpa [Kd.iso, hfg] using hv, by simpa [hfg] using hg⟩
theorem fix {α : Type} {F : Kd α → Kd α} {sz : Nat} {E : List Nat} {hs : ∀ n, (Kd.upto F sz E n).sz = sz} {hE : ∀ n q, q ∈ (Kd.upto F sz E n).E → q ∈ E} {good : α → Prop}
    (step : ∀ fuel d, d.sz = sz → (∀ m, m < fuel → At P d good t m) → At P (F d) good t fuel) : At P (Kd.fix F sz E hs hE) good t fuel := by
  have key : ∀ m fuel, fuel ≤ m → At P (Kd.upto F sz E m) good t fuel := by
    intro m
    induction m with
    | zero =>
      intro fuel hf H enc w spare cs x hx _
      obtain rfl : fuel = 0 := by omega
      simp [DataW.trod] at hx
    | succ m ih => intro fuel hf; exact step fuel _ (hs m) (fun k hk => ih k (by omega))
  intro H enc w spare cs x hx hwt
  obtain ⟨v, hv, hg⟩ := key fuel fuel (Nat.le_refl _) H enc w spare cs x hx hwt
  exact ⟨v, ⟨fuel, hv⟩, hg⟩
theorem imp {α : Type} {d : Kd α} {good good' : α → Prop} (h : At P d good t fuel) (hi : ∀ x, good x → good' x) : At P d good' t fuel := by
  intro H enc w spare cs x hx hwt
  obtain ⟨v, hv, hg⟩ := h H enc w spare cs x hx hwt
  exact ⟨v, hv, hi v hg⟩
end

/-- An argument that is a slice. -/
theorem arg_slice {H : Type} {enc : TypeId × Value → H} {P : Program} {w : World} {t : TypeId} {α : Type} {d : Kd α} {good : List α → Prop} {e : Nat} {a : Option Addr} {len cap : Nat} {x : DataW H} {ps : List MemPlace}
    (h : DataW.Trod enc P w 0 (fun _ => true) true t (.slice a len cap) x ps) (hwt : ∀ n ∈ x.weights P t, n ≤ reachBytes) (ho : ∀ fuel, At P (Kd.slice e d) good t fuel) : ∃ l, len = l.length ∧ l.length ≤ cap ∧ d.C w a l.length l ∧ good l := by
  obtain ⟨fuel, hf⟩ := h
  obtain ⟨l, ⟨A, c, he, hc, hr⟩, hg⟩ := ho fuel H enc w _ _ _ hf hwt
  simp [Value.cells] at he
  obtain ⟨rfl, rfl, rfl⟩ := he
  exact ⟨l, rfl, hc, hr, hg⟩
/-- An argument that is a struct. -/
theorem arg_struct {H : Type} {enc : TypeId × Value → H} {P : Program} {w : World} {t : TypeId} {α : Type} {d : Kd α} {good : α → Prop} {cs : Array Value} {x : DataW H} {ps : List MemPlace}
    (h : DataW.Trod enc P w 0 (fun _ => true) true t (.agg cs) x ps) (hwt : ∀ n ∈ x.weights P t, n ≤ reachBytes) (ho : ∀ fuel, At P d good t fuel) : ∃ v, d.K w v cs.toList ∧ good v := by
  obtain ⟨fuel, hf⟩ := h
  exact ho fuel H enc w _ _ _ hf hwt
/-- The reach of the arguments, one by one. -/
theorem arg_weights {H : Type} {P : Program} {ts : List TypeId} {ds : List (DataW H)} (h : (DataW.weightsEach P ts ds).all (· ≤ reachBytes) = true) (i : Nat) (t : TypeId) (d : DataW H) (ht : ts[i]? = some t) (hd : ds[i]? = some d) : ∀ n ∈ d.weights P t, n ≤ reachBytes :=
  fun n hn => of_decide_eq_true (List.all_eq_true.1 h n (each_mem i ht hd hn))
/-- The form of a row, the reach handed on. -/
theorem handed {H : Type} {enc : TypeId × Value → H} {a : Assume} {C : Checked} {os : Os} {f : FuncId} {fn : Func} {s : ChangeSpec} {conds : List PathCond} {apart fresh handsOn again : Bool}
    (own : ownKnob C.prog.godebug = none) (started : os.Started) (noInit : C.prog.inits.idxOf? f = none) (hfn : C.prog.funcs[f]? = some fn)
    (witness : ∃ (w : World) (tape : Tape) (i : Input), w.os = os ∧ (w.forCall tape i).Shaped C.prog ∧ i.vars = [] ∧ Input.okWide C.prog (w.forCall tape i) .any w.heap.size f i ∧
      s.pre6 enc C.prog fn conds apart (w.forCall tape i).memory i.args ∧ a.holds C.prog (lone (Frame.enter C.prog f i.args .normal) [] (w.forCall tape i)))
    (contract : ∀ (W : World) (base : Nat) (args : Array Value) (ds gs : List (DataW H)) (before : List MemPlace),
      (∀ (j : Nat) t v, fn.params[j]? = some t → args[j]? = some v → Value.okWide C.prog W .any base t v) →
      DataW.Whole enc C.prog fn.params.toList s.vars apart W args.toList ds gs before →
      (DataW.weightsEach C.prog (fn.params.toList ++ (OpenSpec.ofChange s).bare.plain.varTypes C.prog) (ds ++ gs)).all (· ≤ reachBytes) = true →
      a.holds C.prog (lone (Frame.enter C.prog f args .normal) [] W) →
      Calls C.prog f args W fun e W' => ∃ v, e = .returned v ∧ s.post enc C.prog fn apart fresh handsOn again W args v W') :
    ReturnsInHanded a C os f .any (s.pre6 enc C.prog fn conds apart) (s.post enc C.prog fn apart fresh handsOn again) := by
  refine returnsInHanded_of_calls own started noInit witness ?_
  intro w tape i _ _ _ hok hpre hholds
  obtain ⟨_, _, _, fn', hfn', _, _, _, _, hval⟩ := hok
  have e : fn' = fn := Option.some.inj (hfn'.symm.trans hfn)
  subst e
  obtain ⟨⟨ds, gs, before, hw, hc⟩, hz⟩ := hpre
  have hw' := DataW.Whole.of_heap (w' := w.forCall tape i) (by rfl) hw
  refine (contract (w.forCall tape i) w.heap.size i.args ds gs before hval hw' (hz.weights hw) hholds).mono fun e W' ⟨v, he, hp⟩ => ?_
  subst he
  exact ChangeSpec.post_blind hp
end Go.Proofs.Ytlgagppdipdkeaa.Op

end
namespace Go.Proofs.Ytlgagppdipdkeaa.Q
open Go.RowKit Go.Proofs.YtlgagppdipdkeaaW.PrintWords
structure S25 where
  f0 : List S44
  f1 : List S50
def k25 : Kd S25 := Kd.iso (Kd.pair (Kd.slice 44 k44) (Kd.slice 50 k50)) (fun x : S25 => (x.f0, x.f1))
theorem k25_open {w : World} {x : S25} {cs : List Value} (h : k25.K w x cs) : ∃ A0 c0 A1 c1, cs = [.slice A0 x.f0.length c0, .slice A1 x.f1.length c1] ∧ x.f0.length ≤ c0 ∧ k44.C w A0 x.f0.length x.f0 ∧ x.f1.length ≤ c1 ∧ k50.C w A1 x.f1.length x.f1 := by
  obtain ⟨_, _, rfl, ⟨A0, c0, rfl, l0, g0⟩, ⟨A1, c1, rfl, l1, g1⟩⟩ := h
  exact ⟨A0, c0, A1, c1, rfl, l0, g0, l1, g1⟩
end Go.Proofs.Ytlgagppdipdkeaa.Q
namespace Go.Proofs.Ytlgagppdipdkeaa.Ops
open Go.RowKit Go.Proofs.YtlgagppdipdkeaaW.PrintWords Go.Proofs.Ytlgagppdipdkeaa.Q
def good44 (x : S44) : Prop := ((∀ y ∈ x.f0, (Lit.int .u8 y).wf = true) ∧ x.f0.length * 1 ≤ 140737488351232) ∧ x.f1 < 18446744073709551616
theorem o44 (fuel : Nat) : Op.At Try.prog k44 good44 44 fuel :=
  Op.imp (Op.struct Try.underlying44 (fun x : S44 => (x.f0, x.f1, x.f2)) (fun p => (⟨p.1, p.2.1, p.2.2⟩ : S44)) (fun _ => rfl) (by kernel_rfl)
    (fun m _ => Op.more rfl (by kernel_rfl) (Op.slice 5 1 (by kernel_rfl) Try.underlying37 (by kernel_rfl) (fun _ _ => Op.int Try.underlying5)) (Op.more rfl (by kernel_rfl) (Op.float Try.underlying42) (Op.last rfl (by kernel_rfl) (Op.bool Try.underlying4))))) (fun x h => ⟨h.1, h.2.1⟩)
def good50 (x : S50) : Prop := (Lit.int .i64 x.f0).wf = true ∧ (Lit.int .i64 x.f1).wf = true ∧ (Lit.int .i64 x.f2).wf = true
theorem o50 (fuel : Nat) : Op.At Try.prog k50 good50 50 fuel :=
  Op.imp (Op.struct Try.underlying50 (fun x : S50 => (x.f0, x.f1, x.f2)) (fun p => (⟨p.1, p.2.1, p.2.2⟩ : S50)) (fun _ => rfl) (by kernel_rfl)
    (fun m _ => Op.more rfl (by kernel_rfl) (Op.int Try.underlying2) (Op.more rfl (by kernel_rfl) (Op.int Try.underlying2) (Op.last rfl (by kernel_rfl) (Op.int Try.underlying2))))) (fun x h => h)
def good25 (x : S25) : Prop := ((∀ y ∈ x.f0, good44 y) ∧ x.f0.length * 40 ≤ 140737488351232) ∧ ((∀ y ∈ x.f1, good50 y) ∧ x.f1.length * 24 ≤ 140737488351232)
theorem o25 (fuel : Nat) : Op.At Try.prog k25 good25 25 fuel :=
  Op.imp (Op.struct Try.underlying25 (fun x : S25 => (x.f0, x.f1)) (fun p => (⟨p.1, p.2⟩ : S25)) (fun _ => rfl) (by kernel_rfl)
    (fun m _ => Op.more rfl (by kernel_rfl) (Op.slice 44 40 (by kernel_rfl) Try.underlying22 (by kernel_rfl) (fun m _ => o44 m)) (Op.last rfl (by kernel_rfl) (Op.slice 50 24 (by kernel_rfl) Try.underlying23 (by kernel_rfl) (fun m _ => o50 m))))) (fun x h => h)
end Go.Proofs.Ytlgagppdipdkeaa.Ops
