/- The longest special token that bytes begin with: out of the specials in order, and by the document: plainly. Condition: no special token is empty. -/
import Derived.Test.YtlgagppdipdkeaaXSpV
import Derived.Test.YtlgagppdipdkeaaXSoV
import Derived.Test.YtlgagppdipdkeaaXBuV
namespace Go.Proofs.Ytlgagppdipdkeaa.X
open Go.RowKit Go.Proofs.YtlgagppdipdkeaaW.PrintWords Go.Proofs.Ytlgagppdipdkeaa.Q
set_option linter.unusedVariables false
set_option linter.unusedSimpArgs false
def sln (ts : List S44) (i : Int) : Int := ((rd_T44 ts i).f0.length : Int)
def sfind (ts : List S44) (l : List Int) : List Int → Int × Int
  | [] => (0, 0)
  | y :: r => if hasPre l (rd_T44 ts y).f0 = true then (y, sln ts y) else sfind ts l r
theorem spcGo_find (ts : List S44) (l sp : List Int) : ∀ d k : Nat, k + d = sp.length → spcGo ts l sp d k = sfind ts l (sp.drop k)
  | 0, k, h => by rw [spcGo, List.drop_eq_nil_of_le (by omega)]; rfl
  | d + 1, k, h => by
    have hk : k < sp.length := by omega
    have e : rd sp (k : Int) = sp[k] := by rw [rd, Int.toNat_natCast, List.getD_eq_getElem?_getD, List.getElem?_eq_getElem hk, Option.getD_some]
    rw [spcGo, spcGo_find ts l sp d (k + 1) (by omega), List.drop_eq_getElem_cons hk, sfind, e]
    rfl
theorem lnLt_sln (ts : List S44) (x y : Int) : lnLt ts x y = decide (sln ts y < sln ts x) := rfl
def Desc (ts : List S44) (L : List Int) : Prop := L.Pairwise (fun y z => sln ts z ≤ sln ts y)
theorem find_le (ts : List S44) (l : List Int) : ∀ (y : Int) (r : List Int), Desc ts (y :: r) → (sfind ts l (y :: r)).2 ≤ sln ts y
  | y, r, h => by
    rw [sfind]
    split
    · exact Int.le_refl _
    · match r, h with
      | [], h => show (0 : Int) ≤ _; unfold sln; omega
      | z :: r, h =>
        have h1 := (List.pairwise_cons.1 h).1 z (by simp)
        exact Int.le_trans (find_le ts l z r (List.pairwise_cons.1 h).2) h1
theorem mem_ins (ts : List S44) (x z : Int) : ∀ L : List Int, z ∈ Stb.insK (lnLt ts) x L → z = x ∨ z ∈ L
  | [], h => by simpa [Stb.insK] using h
  | y :: r, h => by
    rw [Stb.insK] at h
    split at h
    · simpa using h
    · rcases List.mem_cons.1 h with h | h
      · exact .inr (by simp [h])
      · rcases mem_ins ts x z r h with h | h
        · exact .inl h
        · exact .inr (List.mem_cons_of_mem _ h)
theorem desc_ins (ts : List S44) (x : Int) : ∀ L : List Int, Desc ts L → Desc ts (Stb.insK (lnLt ts) x L)
  | [], _ => by simp [Stb.insK, Desc]
  | y :: r, h => by
    have h1 := List.pairwise_cons.1 h
    rw [Stb.insK, lnLt_sln]
    by_cases c : sln ts y < sln ts x
    · rw [if_pos (decide_eq_true c)]
      refine List.pairwise_cons.2 ⟨fun z hz => ?_, h⟩
      rcases List.mem_cons.1 hz with hz | hz
      · rw [hz]; omega
      · have := h1.1 z hz; omega
    · rw [if_neg (by simpa using c)]
      refine List.pairwise_cons.2 ⟨fun z hz => ?_, desc_ins ts x r h1.2⟩
      rcases mem_ins ts x z r hz with hz | hz
      · rw [hz]; omega
      · exact h1.1 z hz
theorem find_ins (ts : List S44) (l : List Int) (x : Int) (hx : 1 ≤ sln ts x) : ∀ L : List Int, Desc ts L → sfind ts l (Stb.insK (lnLt ts) x L) = if hasPre l (rd_T44 ts x).f0 = true ∧ (sfind ts l L).2 < sln ts x then (x, sln ts x) else sfind ts l L
  | [], _ => by
    rw [Stb.insK, sfind, sfind]
    by_cases c : hasPre l (rd_T44 ts x).f0 = true
    · rw [if_pos c, if_pos ⟨c, by show (0 : Int) < _; omega⟩]
    · rw [if_neg c, if_neg (fun h => c h.1)]; rfl
  | y :: r, h => by
    have h1 := List.pairwise_cons.1 h
    rw [Stb.insK, lnLt_sln]
    by_cases c : sln ts y < sln ts x
    · have hle := find_le ts l y r h
      rw [if_pos (decide_eq_true c), sfind]
      by_cases d : hasPre l (rd_T44 ts x).f0 = true
      · rw [if_pos d, if_pos ⟨d, by omega⟩]
      · rw [if_neg d, if_neg (fun h => d h.1)]
    · rw [if_neg (by simpa using c), sfind, find_ins ts l x hx r h1.2, sfind]
      by_cases d : hasPre l (rd_T44 ts y).f0 = true
      · rw [if_pos d, if_pos d, if_neg (fun h => c h.2)]
      · rw [if_neg d, if_neg d]
theorem isort_snoc (ts : List S44) (L : List Int) (x : Int) : spOrd ts (L ++ [x]) = Stb.insK (lnLt ts) x (spOrd ts L) := by
  unfold spOrd Stb.isort
  rw [List.foldl_append]; rfl
theorem desc_ord (ts : List S44) : ∀ i : Nat, Desc ts (spOrd ts (sps ts i))
  | 0 => List.Pairwise.nil
  | i + 1 => by
    rw [sps]
    split
    · rw [isort_snoc]; exact desc_ins ts _ _ (desc_ord ts i)
    · exact desc_ord ts i
theorem spRef_find (ts : List S44) (l : List Int) (hs : ∀ i : Nat, i < ts.length → (rd_T44 ts (i : Int)).f2 = true → 1 ≤ sln ts (i : Int)) : ∀ d i : Nat, i + d = ts.length → spRef ts l d (i : Int) (sfind ts l (spOrd ts (sps ts i))) = sfind ts l (spOrd ts (sps ts ts.length))
  | 0, i, h => by rw [spRef, show i = ts.length by omega]
  | d + 1, i, h => by
    have ih := spRef_find ts l hs d (i + 1) (by omega)
    rw [spRef, show (i : Int) + 1 = ((i + 1 : Nat) : Int) by omega, ← ih]
    congr 1
    rw [sps]
    by_cases c : (rd_T44 ts (i : Int)).f2 = true
    · rw [if_pos c, isort_snoc, find_ins ts l _ (hs i (by omega) c) _ (desc_ord ts i)]
      by_cases c2 : hasPre l (rd_T44 ts (i : Int)).f0 = true ∧ (sfind ts l (spOrd ts (sps ts i))).2 < sln ts (i : Int)
      · rw [if_pos c2, if_pos ⟨c, c2.2, c2.1⟩]; rfl
      · rw [if_neg c2, if_neg (fun h => c2 ⟨h.2.2, h.2.1⟩)]
    · rw [if_neg c, if_neg (fun h => c h.1)]
theorem special_law (ts : List S44) (l : List Int) (hs : ∀ i : Nat, i < ts.length → (rd_T44 ts (i : Int)).f2 = true → 1 ≤ sln ts (i : Int)) : spcGo ts l (spOrd ts (sps ts ts.length)) (spOrd ts (sps ts ts.length)).length 0 = spRef ts l ts.length 0 (0, 0) := by
  rw [spcGo_find ts l _ _ 0 (by omega), List.drop_zero, ← spRef_find ts l hs ts.length 0 (by omega)]
  rfl
end Go.Proofs.Ytlgagppdipdkeaa.X
