/- The plain law of a stable order: there is one list only that falls and holds equals in the order in which they came: what insertion makes. No program here. -/
import Derived.Test.YtoepfkmeglnnaaaStk
namespace Go.Proofs.Ytoepfkmeglnnaaa.Stb
open Go.Sort
set_option linter.unusedSectionVars false
set_option linter.unusedVariables false
section
variable {α : Type} [Inhabited α] {lt : α → α → Bool}

/-- Put in behind all that it isn't ahead of. -/
def insK (lt : α → α → Bool) (x : α) : List α → List α
  | [] => [x]
  | y :: r => if lt x y = true then x :: y :: r else y :: insK lt x r
def isort (lt : α → α → Bool) (l : List α) : List α := l.foldl (fun out x => insK lt x out) []

theorem mem_insK (x z : α) : ∀ l : List α, z ∈ insK lt x l ↔ z = x ∨ z ∈ l
  | [] => by simp [insK]
  | y :: r => by
    unfold insK
    split
    · simp
    · have := mem_insK x z r
      simp only [List.mem_cons, this]
      constructor
      · rintro (h | h | h) <;> simp [h]
      · rintro (h | h | h) <;> simp [h]
theorem sorted_insK (hS : SWO lt) (x : α) : ∀ l : List α, SortedL lt l → SortedL lt (insK lt x l)
  | [], _ => by unfold insK SortedL; simp
  | y :: r, h => by
    have h1 := List.pairwise_cons.mp h
    unfold insK
    by_cases c : lt x y = true
    · rw [if_pos c]
      refine List.pairwise_cons.mpr ⟨fun z hz => ?_, h⟩
      rcases List.mem_cons.mp hz with rfl | hz
      · cases e : lt z x with
        | false => rfl
        | true => have := hS.trans x z x c e; rw [hS.irrefl] at this; cases this
      · cases e : lt z x with
        | false => rfl
        | true => have := hS.trans z x y e c; rw [h1.1 z hz] at this; cases this
    · rw [if_neg c]
      refine List.pairwise_cons.mpr ⟨fun z hz => ?_, sorted_insK hS x r h1.2⟩
      rcases (mem_insK x z r).mp hz with rfl | hz
      · exact Bool.eq_false_iff.mpr c
      · exact h1.1 z hz
theorem class_insK (hS : SWO lt) (x z : α) : ∀ l : List α, SortedL lt l → (insK lt x l).filter (eqv lt z) = l.filter (eqv lt z) ++ [x].filter (eqv lt z)
  | [], _ => by simp [insK]
  | y :: r, h => by
    have h1 := List.pairwise_cons.mp h
    unfold insK
    by_cases c : lt x y = true
    · rw [if_pos c]
      by_cases e : eqv lt z x = true
      · -- nobody behind is x's equal
        have hn : (y :: r).filter (eqv lt z) = [] := by
          apply List.filter_eq_nil_iff.mpr
          intro u hu hb
          simp only [eqv, Bool.and_eq_true, Bool.not_eq_true'] at e hb
          have hxu : lt x u = true := by
            rcases List.mem_cons.mp hu with rfl | hu
            · exact c
            · cases q : lt x u with
              | true => rfl
              | false =>
                have := hS.ntrans x u y q (h1.1 u hu)
                rw [c] at this; cases this
          have := hS.ntrans x z u e.2 hb.1
          rw [hxu] at this; cases this
        rw [hn, List.filter_cons_of_pos e, hn]; simp [e]
      · rw [List.filter_cons_of_neg e]; simp [e]
    · rw [if_neg c]
      have ih := class_insK hS x z r h1.2
      by_cases e : eqv lt z y = true
      · rw [List.filter_cons_of_pos e, List.filter_cons_of_pos e, ih]; rfl
      · rw [List.filter_cons_of_neg e, List.filter_cons_of_neg e, ih]
theorem isort_go (hS : SWO lt) : ∀ (l out : List α), SortedL lt out → SortedL lt (l.foldl (fun o x => insK lt x o) out) ∧ StL lt (out ++ l) (l.foldl (fun o x => insK lt x o) out)
  | [], out, h => ⟨h, by simpa using StL.refl out⟩
  | x :: l, out, h => by
    have h1 := isort_go hS l (insK lt x out) (sorted_insK hS x out h)
    refine ⟨h1.1, fun z => ?_⟩
    rw [List.foldl_cons, h1.2 z, List.filter_append, class_insK hS x z out h, List.filter_append, show x :: l = [x] ++ l from rfl, List.filter_append, List.append_assoc]
theorem isort_sorted (hS : SWO lt) (l : List α) : SortedL lt (isort lt l) := (isort_go hS l [] (by unfold SortedL; simp)).1
theorem isort_stable (hS : SWO lt) (l : List α) : StL lt l (isort lt l) := by
  have := (isort_go hS l [] (by unfold SortedL; simp)).2
  rwa [List.nil_append] at this
theorem isort_is (hS : SWO lt) {l l' : List α} (h : SortedL lt l') (hs : StL lt l l') : l' = isort lt l :=
  uniq hS h (isort_sorted hS l) ((hs.symm).trans (isort_stable hS l))
theorem insK_map {β : Type} (f : β → α) (x : β) : ∀ l : List β, (insK (fun a b => lt (f a) (f b)) x l).map f = insK lt (f x) (l.map f)
  | [] => rfl
  | y :: r => by
    simp only [insK, List.map_cons]
    split
    · simp
    · rw [List.map_cons, insK_map f x r]
theorem isort_map {β : Type} (f : β → α) (l : List β) : (isort (fun a b => lt (f a) (f b)) l).map f = isort lt (l.map f) := by
  unfold isort
  have : ∀ (l out : List β), (l.foldl (fun o x => insK (fun a b => lt (f a) (f b)) x o) out).map f = (l.map f).foldl (fun o x => insK lt x o) (out.map f) := by
    intro l
    induction l with
    | nil => intro out; rfl
    | cons x l ih => intro out; simp only [List.foldl_cons, List.map_cons]; rw [ih, insK_map]
  simpa using this l []
theorem insK_congr {lt' : α → α → Bool} (x : α) : ∀ l : List α, (∀ y ∈ l, lt x y = lt' x y) → insK lt x l = insK lt' x l
  | [], _ => rfl
  | y :: r, h => by
    unfold insK
    rw [h y (by simp), insK_congr x r (fun z hz => h z (by simp [hz]))]
theorem length_insK (x : α) : ∀ l : List α, (insK lt x l).length = l.length + 1
  | [] => rfl
  | y :: r => by
    unfold insK
    split
    · simp
    · simp [length_insK x r]
theorem length_isort (l : List α) : (isort lt l).length = l.length := by
  have : ∀ (l out : List α), (l.foldl (fun o x => insK lt x o) out).length = out.length + l.length := by
    intro l
    induction l with
    | nil => intro out; rfl
    | cons x l ih => intro out; simp only [List.foldl_cons, List.length_cons]; rw [ih, length_insK]; omega
  simpa [isort] using this l []
theorem mem_isort (l : List α) (z : α) : z ∈ isort lt l ↔ z ∈ l := by
  have : ∀ (l out : List α), z ∈ l.foldl (fun o x => insK lt x o) out ↔ z ∈ out ∨ z ∈ l := by
    intro l
    induction l with
    | nil => intro out; simp
    | cons x l ih =>
      intro out
      simp only [List.foldl_cons]
      rw [ih, mem_insK]
      simp only [List.mem_cons]
      constructor
      · rintro ((h | h) | h) <;> simp [h]
      · rintro (h | h | h) <;> simp [h]
  simpa [isort] using this l []
end
end Go.Proofs.Ytoepfkmeglnnaaa.Stb
