/- The plain law of the stable sort's blocks: runs of one length in order, then of twice that length. -/
import Derived.Test.YtoepfkmeglnnaaaStb
namespace Go.Proofs.Ytoepfkmeglnnaaa.Stb
open Go.Sort
set_option linter.unusedVariables false
variable {α : Type} [Inhabited α] {lt : α → α → Bool}

/-- Each run of bs that begins in [lo, hi) is in order (none reaches beyond n). -/
def Blk (lt : α → α → Bool) (bs lo hi n : Nat) (d : Array α) : Prop := ∀ p, bs ∣ p → lo ≤ p → p < hi → SortedIn lt p (min (p + bs) n) d

theorem dvd_step (bs p a : Nat) (h1 : bs ∣ p) (h2 : bs ∣ a) (h : p < a) : p + bs ≤ a := by
  obtain ⟨x, rfl⟩ := h1
  obtain ⟨y, rfl⟩ := h2
  have : x < y := Nat.lt_of_mul_lt_mul_left h
  calc bs * x + bs = bs * (x + 1) := by rw [Nat.mul_add, Nat.mul_one]
    _ ≤ bs * y := Nat.mul_le_mul_left _ this

theorem Blk.keep {bs lo hi n x y : Nat} {d d' : Array α} (h : Blk lt bs lo hi n d) (hp : Put lt x y d d') (hd : ∀ p, bs ∣ p → lo ≤ p → p < hi → min (p + bs) n ≤ x ∨ y ≤ p) : Blk lt bs lo hi n d' := by
  intro p h1 h2 h3
  refine Stb.SortedIn.off (h p h1 h2 h3) fun i i1 i2 => hp.off i ?_
  rcases hd p h1 h2 h3 with c | c
  · exact Or.inl (by omega)
  · exact Or.inr (by omega)

/-- A run more at the end. -/
theorem Blk.snoc {bs lo a n : Nat} {d : Array α} (h : Blk lt bs lo a n d) (ha : bs ∣ a) (hs : SortedIn lt a (min (a + bs) n) d) : Blk lt bs lo (a + bs) n d := by
  intro p h1 h2 h3
  by_cases c : p < a
  · exact h p h1 h2 c
  · have : p = a := by
      by_cases c2 : a < p
      · have := dvd_step bs a p ha h1 c2
        omega
      · omega
    rw [this]; exact hs

/-- What is done and what is to do, while runs of bs become runs of twice bs: all ahead of a is done. -/
structure Mid (lt : α → α → Bool) (bs a n : Nat) (d0 d : Array α) : Prop where
  put : Put lt 0 n d0 d
  done : Blk lt (2 * bs) 0 a n d
  todo : Blk lt bs a n n d

theorem Mid.step {bs a n : Nat} {d0 d d' : Array α} (h : Mid lt bs a n d0 d) (hn : n ≤ d0.size) (hbs : 0 < bs) (ha : 2 * bs ∣ a) (hb : a + 2 * bs ≤ n) (hp : Put lt a (a + 2 * bs) d d') (hs : SortedIn lt a (a + 2 * bs) d') : Mid lt bs (a + 2 * bs) n d0 d' := by
  have hsz := h.put.size
  refine ⟨h.put.trans (hp.mono (Nat.zero_le _) hb (by omega)), ?_, ?_⟩
  · refine Blk.snoc (h.done.keep hp fun p h1 h2 h3 => Or.inl ?_) ha ?_
    · have := dvd_step _ p a h1 ha h3
      omega
    · rw [show min (a + 2 * bs) n = a + 2 * bs by omega]; exact hs
  · intro p h1 h2 h3
    have := h.todo.keep hp (d' := d')
    refine Stb.SortedIn.off (h.todo p h1 (by omega) h3) fun i i1 i2 => hp.off i (Or.inr (by omega))

theorem Blk.whole {bs a n : Nat} {d : Array α} (h : Blk lt bs 0 a n d) (ha : bs ∣ a) (hn : n ≤ a + bs) (hs : a < n → SortedIn lt a n d) : Blk lt bs 0 n n d := by
  intro p h1 h2 h3
  by_cases c : p < a
  · exact h p h1 h2 c
  · have : p = a := by
      by_cases c2 : a < p
      · have := dvd_step bs a p ha h1 c2
        omega
      · omega
    subst this
    rw [show min (p + bs) n = n by omega]
    exact hs h3

theorem Mid.last {bs a n : Nat} {d0 d d' : Array α} (h : Mid lt bs a n d0 d) (hn : n ≤ d0.size) (ha : 2 * bs ∣ a) (hb : n ≤ a + 2 * bs) (han : a ≤ n) (hp : Put lt a n d d') (hs : SortedIn lt a n d') : Put lt 0 n d0 d' ∧ Blk lt (2 * bs) 0 n n d' := by
  have hsz := h.put.size
  refine ⟨h.put.trans (hp.mono (Nat.zero_le _) (Nat.le_refl _) (by omega)), Blk.whole (h.done.keep hp fun p h1 h2 h3 => Or.inl ?_) ha hb fun _ => hs⟩
  have := dvd_step _ p a h1 ha h3
  omega

theorem Mid.rest {bs a n : Nat} {d0 d : Array α} (h : Mid lt bs a n d0 d) (ha : bs ∣ a) (hb : n ≤ a + bs) (han : a < n) : SortedIn lt a n d := by
  have := h.todo a ha (Nat.le_refl _) han
  rwa [show min (a + bs) n = n by omega] at this

theorem Blk.one {bs n : Nat} {d : Array α} (h : Blk lt bs 0 n n d) (hn : n ≤ bs) (h0 : 0 < n) : SortedIn lt 0 n d := by
  have := h 0 (Nat.dvd_zero _) (Nat.le_refl _) h0
  rwa [show min (0 + bs) n = n by omega] at this

end Go.Proofs.Ytoepfkmeglnnaaa.Stb
