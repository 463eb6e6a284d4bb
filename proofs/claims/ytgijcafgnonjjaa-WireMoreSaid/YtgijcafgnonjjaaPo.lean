/- The size of a value, whether it is right, and what the program's writing answers, plain. -/
import Derived.Test.YtgijcafgnonjjaaPw
import Derived.Test.YtgijcafgnonjjaaLW1
import Derived.Test.YtgijcafgnonjjaaOps
import Derived.OpenShut
namespace Go.Proofs.Ytgijcafgnonjjaa.Pw
open Go.RowKit Go.Proofs.YtgijcafgnonjjaaW.PrintWords Go.Proofs.Ytgijcafgnonjjaa.Q Go.Proofs.Ytgijcafgnonjjaa.X Go.Proofs.Ytgijcafgnonjjaa.Pc
set_option linter.unusedVariables false
set_option linter.unusedSimpArgs false
open Ops (good26 good26L)
theorem good_mem : ∀ (l : List S26), good26L l → ∀ y ∈ l, good26 y
  | [], _, y, h => by cases h
  | x :: xs, hg, y, h => by
    simp only [good26L] at hg
    rcases List.mem_cons.1 h with rfl | h
    · exact hg.1
    · exact good_mem xs hg.2 y h
mutual
theorem fit_of : ∀ x : S26, good26 x → fit x
  | ⟨k, n, b, l⟩, h => by
    simp only [good26] at h
    exact ⟨bounds_u64 h.2.1, fun y hy => bounds_u8 (h.2.2.1.1 y hy), fitL_of l h.2.2.2.1⟩
theorem fitL_of : ∀ l : List S26, good26L l → fitL l
  | [], _ => trivial
  | x :: xs, h => by
    simp only [good26L] at h
    exact ⟨fit_of x h.1, fitL_of xs h.2⟩
end
theorem rd26 (xs : List S26) (i : Nat) (h : i < xs.length) : rd_T26 xs (i : Int) = xs[i] := by
  unfold rd_T26
  rw [List.getD_eq_getElem?_getD, Int.toNat_natCast, List.getElem?_eq_getElem h]
  rfl
/-- What a size comes to, as far as most. -/
def SizeIs (most n r t : Int) : Prop := (r ≤ most → r = t) ∧ (r > most → t > most) ∧ n ≤ r ∧ r ≤ most + 140737488355328
theorem size_loop (most : Int) (h0 : 0 ≤ most) (h1 : most ≤ 1000000) (a0 a1 : Int) (a2 : List Int) (xs : List S26) (hx : xs.length ≤ 10000000000000) (hg : ∀ y ∈ xs, good26 y)
    (IH : ∀ y, good26 y → ∀ m' : Int, 0 ≤ m' → m' < most → ∃ K r, (∀ k, K ≤ k → LW.imprimaturref03_Size.f k y.f0 y.f1 y.f2 y.f3 m' = some r) ∧ SizeIs m' 1 r (bulk y)) :
    ∀ (d i : Nat) (n : Int), 1 ≤ n → n ≤ most + 140737488355328 → most + 1 - n ≤ d → i ≤ xs.length → ∃ K r, (∀ k, K ≤ k → LW.imprimaturref03_Size.l0 k most n i a0 a1 a2 xs = some r) ∧ SizeIs most n r (n + bulkL (xs.drop i)) := by
  intro d
  induction d with
  | zero =>
    intro i n n1 n2 hd hi
    have hb := bulk_posL (xs.drop i)
    have hp := posL (xs.drop i)
    refine ⟨1, n, fun k hk => ?_, by omega, by omega, by omega, n2⟩
    obtain ⟨k, rfl⟩ : ∃ k', k = k' + 1 := ⟨k - 1, by omega⟩
    simp only [LW.imprimaturref03_Size.l0]
    by_cases c : (i : Int) < xs.length
    · rw [if_pos c, if_neg (by omega)]
    · rw [if_neg c]
  | succ d ih =>
    intro i n n1 n2 hd hi
    by_cases c : i < xs.length
    rotate_left 1
    · refine ⟨1, n, fun k hk => ?_, ?_⟩
      · obtain ⟨k, rfl⟩ : ∃ k', k = k' + 1 := ⟨k - 1, by omega⟩
        simp only [LW.imprimaturref03_Size.l0]
        rw [if_neg (by omega)]
      · rw [List.drop_eq_nil_of_le (by omega)]
        simp only [bulkL]
        exact ⟨by omega, by omega, by omega, n2⟩
    by_cases c2 : n ≤ most
    rotate_left 1
    · have hb := bulk_posL (xs.drop i)
      have hp := posL (xs.drop i)
      refine ⟨1, n, fun k hk => ?_, by omega, by omega, by omega, n2⟩
      obtain ⟨k, rfl⟩ : ∃ k', k = k' + 1 := ⟨k - 1, by omega⟩
      simp only [LW.imprimaturref03_Size.l0]
      rw [if_pos (by omega), if_neg c2]
    obtain ⟨K1, r1, H1, s1, s2, s3, s4⟩ := IH xs[i] (hg _ (List.getElem_mem c)) (most - n) (by omega) (by omega)
    obtain ⟨K2, r2, H2, t1, t2, t3, t4⟩ := ih (i + 1) (n + r1) (by omega) (by omega) (by omega) (by omega)
    have hb := bulk_posL (xs.drop (i + 1))
    have hp := posL (xs.drop (i + 1))
    have hbx := bulk_pos xs[i]
    have hpx := pos xs[i]
    rw [List.drop_eq_getElem_cons c]
    simp only [bulkL]
    refine ⟨max K1 K2 + 1, r2, fun k hk => ?_, by omega, by omega, by omega, t4⟩
    obtain ⟨k, rfl⟩ : ∃ k', k = k' + 1 := ⟨k - 1, by omega⟩
    simp only [LW.imprimaturref03_Size.l0]
    rw [if_pos (by omega), if_pos c2, if_pos (by omega), rd26 xs i c, w64 (x := most - n) (by omega) (by omega), H1 k (by omega), Option.bind_some, w64 (x := n + r1) (by omega) (by omega), w64 (x := (i : Int) + 1) (by omega) (by omega)]
    rw [show ((i : Int) + 1) = ((i + 1 : Nat) : Int) by omega]
    exact H2 k (by omega)
theorem size_ev : ∀ (s : Nat) (x : S26) (most : Int), good26 x → 0 ≤ most → most ≤ 1000000 → most ≤ s → ∃ K r, (∀ k, K ≤ k → LW.imprimaturref03_Size.f k x.f0 x.f1 x.f2 x.f3 most = some r) ∧ SizeIs most 1 r (bulk x) := by
  intro s
  induction s with
  | zero =>
    rintro ⟨f0, f1, f2, f3⟩ most hg h0 h1 hs
    simp only [good26] at hg
    obtain ⟨g1, g2, g3, g4, g5⟩ := hg
    have hb := bulk_posL f3
    have hp := posL f3
    have hmem := good_mem f3 g4
    obtain ⟨K, r, H, s1, s2, s3, s4⟩ := size_loop most h0 h1 f0 f1 f2 f3 (by omega) hmem (fun y _ m' _ _ => by omega) 1 0 (1 + f2.length) (by omega) (by omega) (by omega) (by omega)
    rw [List.drop_zero] at s1 s2
    refine ⟨K + 1, r, fun k hk => ?_, ?_⟩
    · obtain ⟨k, rfl⟩ : ∃ k', k = k' + 1 := ⟨k - 1, by omega⟩
      simp only [LW.imprimaturref03_Size.f]
      rw [w64 (by omega) (by omega)]
      exact H k (by omega)
    · simp only [bulk]
      exact ⟨by omega, by omega, by omega, s4⟩
  | succ s ih =>
    rintro ⟨f0, f1, f2, f3⟩ most hg h0 h1 hs
    simp only [good26] at hg
    obtain ⟨g1, g2, g3, g4, g5⟩ := hg
    have hb := bulk_posL f3
    have hp := posL f3
    have hmem := good_mem f3 g4
    obtain ⟨K, r, H, s1, s2, s3, s4⟩ := size_loop most h0 h1 f0 f1 f2 f3 (by omega) hmem (fun y hy m' h3 h4 => ih y m' hy h3 (by omega) (by omega)) (most + 1).toNat 0 (1 + f2.length) (by omega) (by omega) (by omega) (by omega)
    rw [List.drop_zero] at s1 s2
    refine ⟨K + 1, r, fun k hk => ?_, ?_⟩
    · obtain ⟨k, rfl⟩ : ∃ k', k = k' + 1 := ⟨k - 1, by omega⟩
      simp only [LW.imprimaturref03_Size.f]
      rw [w64 (by omega) (by omega)]
      exact H k (by omega)
    · simp only [bulk]
      exact ⟨by omega, by omega, by omega, s4⟩
/-- Whether a value is more than these statements look at; if not, it is small. -/
theorem great_ev (x : S26) (hg : good26 x) : ∃ K t, (∀ k, K ≤ k → LW.imprimaturlaw03_great.f k x.f0 x.f1 x.f2 x.f3 = some t) ∧ (t = false → bulk x ≤ 2000) := by
  obtain ⟨K, r, H, s1, s2, s3, s4⟩ := size_ev 2000 x 2000 hg (by omega) (by omega) (by omega)
  refine ⟨K, decide (r > 2000), fun k hk => ?_, fun h => ?_⟩
  · unfold LW.imprimaturlaw03_great.f
    rw [H k hk, Option.bind_some]
  · have : ¬ r > 2000 := of_decide_eq_false h
    omega
theorem right_f (x : S26) : ∀ (f0 f1 : Int) (f2 : List Int) (f3 : List S26), x = ⟨f0, f1, f2, f3⟩ → right x = ((decide (f0 = 1) && (f2.isEmpty && f3.isEmpty)) || (decide (f0 = 2) && (decide (f1 = 0) && f3.isEmpty)) || (decide (f0 = 3) && (decide (f1 = 0) && f2.isEmpty) && rightL f3)) := by
  intro f0 f1 f2 f3 h
  subst h
  rfl
theorem isEmpty_len {α : Type} (l : List α) : l.isEmpty = ((l.length : Int) == 0) := by cases l <;> simp <;> omega
theorem right_mem : ∀ (l : List S26), rightL l = l.all right
  | [] => rfl
  | x :: xs => by simp [rightL, right_mem xs]
theorem wr_loop (a0 a1 : Int) (a2 : List Int) (a3 xs : List S26) (hx : xs.length ≤ 10000000000000) (IH : ∀ y ∈ xs, ∃ K, ∀ k, K ≤ k → wire_Right.f k y.f0 y.f1 y.f2 y.f3 = some (right y)) :
    ∀ (d i : Nat), xs.length = i + d → ∃ K, ∀ k, K ≤ k → wire_Right.l0 k xs xs.length i a0 a1 a2 a3 = some (rightL (xs.drop i) && (decide (a1 = 0) && ((a2.length : Int) == 0)))
  | 0, i, h => ⟨1, fun k hk => by
    obtain ⟨k, rfl⟩ : ∃ k', k = k' + 1 := ⟨k - 1, by omega⟩
    simp only [wire_Right.l0]
    rw [if_neg (by omega), List.drop_eq_nil_of_le (by omega)]
    by_cases c : a1 = 0 <;> simp [c, rightL]⟩
  | d + 1, i, h => by
    have hlt : i < xs.length := by omega
    obtain ⟨K1, H1⟩ := IH xs[i] (List.getElem_mem hlt)
    obtain ⟨K2, H2⟩ := wr_loop a0 a1 a2 a3 xs hx IH d (i + 1) (by omega)
    refine ⟨max K1 K2 + 1, fun k hk => ?_⟩
    obtain ⟨k, rfl⟩ : ∃ k', k = k' + 1 := ⟨k - 1, by omega⟩
    simp only [wire_Right.l0]
    rw [if_pos (by omega), if_pos (by omega), if_pos (by omega), rd26 xs i hlt, H1 k (by omega), Option.bind_some, List.drop_eq_getElem_cons hlt]
    simp only [rightL]
    cases right xs[i]
    · simp
    · rw [if_pos rfl, w64 (by omega) (by omega), show ((i : Int) + 1) = ((i + 1 : Nat) : Int) by omega, H2 k (by omega)]
      simp
theorem wr_ev : ∀ (s : Nat) (x : S26), count x ≤ s → s ≤ 1000000 → ∃ K, ∀ k, K ≤ k → wire_Right.f k x.f0 x.f1 x.f2 x.f3 = some (right x) := by
  intro s
  induction s with
  | zero => intro x h _; have := pos x; omega
  | succ s ih =>
    rintro ⟨f0, f1, f2, f3⟩ hx hs
    simp only [count] at hx
    have hp := posL f3
    obtain ⟨K, HK⟩ := wr_loop f0 f1 f2 f3 f3 (by omega) (fun y hy => ih y (by
      have : ∀ l : List S26, y ∈ l → count y ≤ countL l := by
        intro l
        induction l with
        | nil => intro h; cases h
        | cons z zs ihl =>
          intro h
          have h1 := pos z
          have h2 := posL zs
          simp only [countL]
          rcases List.mem_cons.1 h with rfl | h
          · omega
          · have := ihl h; omega
      have := this f3 hy
      omega) (by omega)) f3.length 0 (by omega)
    refine ⟨K + 1, fun k hk => ?_⟩
    obtain ⟨k, rfl⟩ : ∃ k', k = k' + 1 := ⟨k - 1, by omega⟩
    have hK := HK k (by omega)
    rw [List.drop_zero, show ((0 : Nat) : Int) = 0 from rfl] at hK
    simp only [wire_Right.f, right, isEmpty_len]
    rw [hK]
    by_cases c1 : f0 = 1
    · subst c1
      rcases f2 with _ | ⟨y, ys⟩
      · simp
      · have : ¬ (ys.length : Int) + 1 = 0 := by omega
        simp [this]
    rw [if_neg c1]
    by_cases c2 : f0 = 2
    · subst c2
      by_cases e : f1 = 0 <;> simp [e]
    rw [if_neg c2]
    by_cases c3 : f0 = 3
    · subst c3
      simp [Bool.and_comm]
    · rw [if_neg c3]
      simp [c1, c2, c3]
theorem count_in (y : S26) : ∀ l : List S26, y ∈ l → count y ≤ countL l
  | [], h => by cases h
  | z :: zs, h => by
    have h1 := pos z
    have h2 := posL zs
    simp only [countL]
    rcases List.mem_cons.1 h with rfl | h
    · omega
    · have := count_in y zs h; omega
/-- What writing answers, by the document and by the program. -/
def wans (B D M E : Int) (x : S26) : List Int × Int :=
  if right x = true then match err D M E x 1 0 with
    | some e => ([], e)
    | none => if mx 0 B < ((Pc.bytesOf x).length : Int) then ([], 2) else (Pc.bytesOf x, 0)
  else ([], 21)
theorem ownwrite (B D M E : Int) (x : S26) (hf : fit x) (hb : bulk x ≤ 2000) : ∃ K, ∀ k, K ≤ k → wire_Write.f k x.f0 x.f1 x.f2 x.f3 B D M E = some (wans B D M E x) := by
  have hbp := bulk_pos x
  have hp := pos x
  obtain ⟨K1, H1⟩ := wr_ev 2000 x (by omega) (by omega)
  by_cases hr : right x = true
  rotate_left 1
  · refine ⟨K1, fun k hk => ?_⟩
    unfold wire_Write.f wans
    rw [H1 k hk, Option.bind_some, if_neg hr, if_neg hr]
  obtain ⟨K2, H2⟩ := wval_eq D M E x 1 [] 0 hr hf (by omega) (by omega) (by omega) (by omega) (by simp only [List.length_nil]; omega)
  refine ⟨max K1 K2, fun k hk => ?_⟩
  unfold wire_Write.f wans
  have h2 := H2 k (by omega)
  rw [H1 k (by omega), Option.bind_some, if_pos hr, if_pos hr]
  have e : (⟨x.f0, x.f1, x.f2, x.f3⟩ : S26) = x := by cases x; rfl
  rw [e, h2, Option.bind_some]
  unfold wres
  rcases err D M E x 1 0 with _ | er
  · simp only [List.nil_append]
    by_cases c : mx 0 B < ((Pc.bytesOf x).length : Int)
    · rw [if_pos c, if_pos c]
    · rw [if_neg c, if_neg c]
  · rfl
theorem samebytes (l : List Int) : imprimaturref01_SameBytes.f l l = some true := by
  unfold imprimaturref01_SameBytes.f
  simp
theorem wans_cases (B D M E : Int) (x : S26) : (wans B D M E x = (Pc.bytesOf x, 0) ∧ right x = true ∧ err D M E x 1 0 = none ∧ ((Pc.bytesOf x).length : Int) ≤ mx 0 B) ∨ (∃ e, wans B D M E x = ([], e) ∧ e ≠ 0) := by
  unfold wans
  by_cases hr : right x = true
  · rw [if_pos hr]
    rcases he : err D M E x 1 0 with _ | e
    · simp only
      by_cases c : mx 0 B < ((Pc.bytesOf x).length : Int)
      · rw [if_pos c]
        exact Or.inr ⟨2, rfl, by omega⟩
      · rw [if_neg c]
        exact Or.inl ⟨rfl, hr, trivial, by omega⟩
    · have := err_val D M E x 1 0 e he
      exact Or.inr ⟨e, rfl, by omega⟩
  · rw [if_neg hr]
    exact Or.inr ⟨21, rfl, by omega⟩
theorem wans_of (B D M E : Int) (x : S26) (h1 : right x = true) (h2 : err D M E x 1 0 = none) (h3 : ((Pc.bytesOf x).length : Int) ≤ mx 0 B) : wans B D M E x = (Pc.bytesOf x, 0) := by
  unfold wans
  rw [if_pos h1, h2]
  simp only
  rw [if_neg (by omega)]
end Go.Proofs.Ytgijcafgnonjjaa.Pw
