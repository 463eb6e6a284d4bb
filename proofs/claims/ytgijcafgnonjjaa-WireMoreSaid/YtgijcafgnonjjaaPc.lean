/- Counts: the program's reading and the document's are one; what is written is read. Plain. -/
import Derived.Test.YtgijcafgnonjjaaLC2
import Derived.Test.YtgijcafgnonjjaaXCount
import Derived.Test.YtgijcafgnonjjaaQ1
import Derived.OpenShut
import Derived.KernelRfl
namespace Go.Proofs.Ytgijcafgnonjjaa.Pc
open Go.RowKit Go.Proofs.YtgijcafgnonjjaaW.PrintWords Go.Proofs.Ytgijcafgnonjjaa.Q Go.Proofs.Ytgijcafgnonjjaa.X
set_option linter.unusedVariables false

/-- The number of d bytes from a on, behind n. -/
def be (l : List Int) : Nat → Int → Int → Int
  | 0, _, n => n
  | d + 1, a, n => be l d (a + 1) (n * 256 + rd l a)
theorem bGo_tail (l : List Int) (frm size : Int) : ∀ (d i : Nat) (a n : Int), 1 ≤ i → (size ≠ 1 ∨ d = 0) → a ≤ l.length → bGo l frm size d i a n = if a + d ≤ l.length then .inl (be l d a n, a + d) else .inr (frm, 20)
  | 0, i, a, n, hi, hs, ha => by simp [bGo, be, ha]
  | d + 1, i, a, n, hi, hs, ha => by
    have hs1 : size ≠ 1 := by omega
    simp only [bGo]
    by_cases c1 : a = l.length
    · rw [if_pos c1, if_neg (by omega)]
    · rw [if_neg c1, if_neg (by omega), if_neg (by omega), show ((i : Int) + 1) = ((i + 1 : Nat) : Int) by omega, bGo_tail l frm size d (i + 1) (a + 1) _ (by omega) (by omega) (by omega)]
      by_cases c2 : a + 1 + d ≤ l.length
      · rw [if_pos c2, if_pos (by omega)]
        simp only [be]
        rw [show a + 1 + (d : Int) = a + ((d + 1 : Nat) : Int) by omega]
      · rw [if_neg c2, if_neg (by omega)]
theorem be_bound (l : List Int) (hby : ∀ i, 0 ≤ rd l i ∧ rd l i ≤ 255) : ∀ (d i : Nat) (a : Int) (n : Nat), i + d ≤ 8 → n < 256 ^ i → 0 ≤ be l d a n ∧ be l d a n < 256 ^ 8
  | 0, i, a, n, hi, hn => by
    have h8 : n < 256 ^ 8 := Nat.lt_of_lt_of_le hn (Nat.pow_le_pow_right (by omega) (by omega))
    simp only [be]
    omega
  | d + 1, i, a, n, hi, hn => by
    have hb := hby a
    obtain ⟨x, hx⟩ : ∃ x : Nat, rd l a = (x : Int) := ⟨(rd l a).toNat, by omega⟩
    simp only [be]
    rw [hx, show ((n : Int) * 256 + x) = ((n * 256 + x : Nat) : Int) by omega]
    exact be_bound l hby d (i + 1) (a + 1) (n * 256 + x) (by omega) (by rw [Nat.pow_succ]; omega)
/-- What stands at a place, told in one go. -/
theorem cnt_eq (l : List Int) (hby : ∀ i, 0 ≤ rd l i ∧ rd l i ≤ 255) (a : Int) (h0 : 0 ≤ a) (h1 : a ≤ l.length) :
    cnt l a = if a = l.length then .inr (a, 20) else if rd l a < 192 then .inl (rd l a, a + 1) else if 199 < rd l a then .inr (a, 22)
      else if a + 1 = l.length then .inr (a, 20) else if rd l (a + 1) = 0 then .inr (a, 22) else if rd l a = 192 ∧ rd l (a + 1) < 192 then .inr (a, 22)
      else if a + 1 + (rd l a - 191) ≤ l.length then .inl (be l (rd l a - 191).toNat (a + 1) 0, a + 1 + (rd l a - 191)) else .inr (a, 20) := by
  have hb := hby a
  unfold cnt
  by_cases c1 : a = l.length
  · rw [if_pos c1, if_pos c1]
  rw [if_neg c1, if_neg c1]
  by_cases c2 : rd l a < 192
  · rw [if_pos c2, if_pos c2]
  rw [if_neg c2, if_neg c2]
  by_cases c3 : 199 < rd l a
  · rw [if_pos c3, if_pos c3]
  rw [if_neg c3, if_neg c3]
  have e := cGo_eq l hby a (rd l a - 191) (rd l a - 191).toNat 0 (a + 1) 0 (by omega) (by decide)
  rw [show ((0 : Nat) : Int) = (0 : Int) from rfl] at e
  rw [e]
  obtain ⟨d, hd⟩ : ∃ d : Nat, (rd l a - 191).toNat = d + 1 := ⟨(rd l a - 191).toNat - 1, by omega⟩
  rw [hd]
  simp only [bGo]
  by_cases c4 : a + 1 = l.length
  · rw [if_pos c4, if_pos c4]
  rw [if_neg c4, if_neg c4]
  by_cases c5 : rd l (a + 1) = 0
  · rw [if_pos ⟨trivial, c5⟩, if_pos c5]
  rw [if_neg (by simp [c5]), if_neg c5]
  by_cases c6 : rd l a = 192 ∧ rd l (a + 1) < 192
  · rw [if_pos (by omega), if_pos c6]
  rw [if_neg (by omega), if_neg c6]
  have hb1 := hby (a + 1)
  have t := bGo_tail l a (rd l a - 191) d 1 (a + 1 + 1) (0 * 256 + rd l (a + 1)) (by omega) (by omega) (by omega)
  rw [show ((1 : Nat) : Int) = (0 + 1 : Int) from rfl] at t
  rw [t]
  by_cases c7 : a + 1 + (rd l a - 191) ≤ l.length
  · rw [if_pos c7, if_pos (by omega), show a + 1 + 1 + (d : Int) = a + 1 + (rd l a - 191) by omega]
    rfl
  · rw [if_neg c7, if_neg (by omega)]
theorem rd_drop (l : List Int) (a i : Int) (h0 : 0 ≤ a) (hi : 0 ≤ i) : rd (l.drop a.toNat) i = rd l (a + i) := by
  unfold rd
  rw [List.getD_eq_getElem?_getD, List.getD_eq_getElem?_getD, List.getElem?_drop, show a.toNat + i.toNat = (a + i).toNat by omega]
theorem w64 {x : Int} (h0 : -9223372036854775808 ≤ x) (h1 : x < 9223372036854775808) : wrap64 x = x := by
  unfold wrap64
  omega
theorem wu64 {x : Int} (h0 : 0 ≤ x) (h1 : x < 18446744073709551616) : IntKind.u64.wrap x = x := by
  rw [IntKind.wrap_u64]
  omega
theorem ref_loop (l : List Int) (hby : ∀ i, 0 ≤ rd l i ∧ rd l i ≤ 255) (a x1 x8 : Int) (h0 : 0 ≤ a) (hx8 : x8 ≤ 8) (hlen : a + x8 < l.length) (hl : (l.length : Int) < 9223372036854775808) : ∀ (d k i : Nat) (n : Nat), (i : Int) + d = x8 + 1 → 1 ≤ i → n < 256 ^ (i - 1) → d + 1 ≤ k →
    LC.imprimaturref03_ReadCount.l0 k x1 (l.drop a.toNat) x8 n i = some (be l d (a + i) n, wrap64 ((wrap64 (x1 + 1)) + x8), 0)
  | 0, k, i, n, hd, hi, hn, hk => by
    obtain ⟨k, rfl⟩ : ∃ k', k = k' + 1 := ⟨k - 1, by omega⟩
    simp only [LC.imprimaturref03_ReadCount.l0, be]
    rw [if_neg (by omega)]
  | d + 1, k, i, n, hd, hi, hn, hk => by
    obtain ⟨k, rfl⟩ : ∃ k', k = k' + 1 := ⟨k - 1, by omega⟩
    have hb := hby (a + i)
    obtain ⟨x, hx⟩ : ∃ x : Nat, rd l (a + i) = (x : Int) := ⟨(rd l (a + i)).toNat, by omega⟩
    have h7 : n < 256 ^ 7 := Nat.lt_of_lt_of_le hn (Nat.pow_le_pow_right (by omega) (by omega))
    have hlz : ((l.drop a.toNat).length : Int) = l.length - a := by rw [List.length_drop]; omega
    simp only [LC.imprimaturref03_ReadCount.l0, be]
    rw [if_pos (by omega), if_pos (by omega), if_pos (by omega), rd_drop l a i h0 (by omega), hx, wu64 (x := (n : Int) * 256) (by omega) (by omega), wu64 (x := (x : Int)) (by omega) (by omega), wu64 (by omega) (by omega), w64 (x := (i : Int) + 1) (by omega) (by omega)]
    have ih := ref_loop l hby a x1 x8 h0 hx8 hlen hl d k (i + 1) (n * 256 + x) (by omega) (by omega) (by rw [show i + 1 - 1 = (i - 1) + 1 by omega, Nat.pow_succ]; omega) (by omega)
    rw [show ((n : Int) * 256 + (x : Int)) = ((n * 256 + x : Nat) : Int) by omega, show ((i : Int) + 1) = ((i + 1 : Nat) : Int) by omega, ih, show a + ((i + 1 : Nat) : Int) = a + (i : Int) + 1 by omega]
theorem ref_count (l : List Int) (hk : okb l = true) (a : Int) (ha : -9223372036854775808 ≤ a ∧ a ≤ 9223372036854775807) : LC.imprimaturref03_ReadCount.f 20 l a = wire_ReadCount.f l a := by
  have hl := okb_len hk
  have hby := okb_rd hk
  unfold wire_ReadCount.f LC.imprimaturref03_ReadCount.f
  rw [if_pos hk]
  by_cases c1 : a < 0
  · rw [if_pos c1, if_pos c1]
    simp [LC.imprimaturref03_ReadCount.j0]
  rw [if_neg c1, if_neg c1]
  by_cases c2 : (l.length : Int) < a
  · rw [if_pos c2, decide_eq_true (show a > (l.length : Int) from c2)]
    simp [LC.imprimaturref03_ReadCount.j0]
  rw [if_neg c2, decide_eq_false (show ¬ a > (l.length : Int) from c2), cnt_eq l hby a (by omega) (by omega)]
  have hlz : ((l.drop a.toNat).length : Int) = l.length - a := by rw [List.length_drop]; omega
  have hb := hby a
  have hb1 := hby (a + 1)
  simp only [LC.imprimaturref03_ReadCount.j0]
  rw [if_neg (by simp), if_pos (by omega), if_pos (by omega), hlz]
  by_cases c3 : a = l.length
  · rw [if_pos (by omega), if_pos c3]
  rw [if_neg (by omega), if_neg c3, if_pos (by omega), rd_drop l a 0 (by omega) (by omega), Int.add_zero]
  by_cases c4 : rd l a < 192
  · rw [if_pos c4, if_pos c4, wu64 (by omega) (by omega), w64 (by omega) (by omega)]
  rw [if_neg c4, if_neg c4, w64 (x := rd l a) (by omega) (by omega), w64 (x := rd l a - 191) (by omega) (by omega)]
  by_cases c5 : 199 < rd l a
  · rw [if_pos (by omega), if_pos c5]
  rw [if_neg (by omega), if_neg c5]
  by_cases c6 : a + 1 = l.length
  · rw [if_neg (by omega), if_pos c6]
    simp only [LC.imprimaturref03_ReadCount.j1]
    rw [if_neg (by simp), if_pos (by omega)]
  rw [if_pos (by omega), if_pos (by omega), if_neg c6, rd_drop l a 1 (by omega) (by omega)]
  by_cases c7 : rd l (a + 1) = 0
  · rw [if_pos c7, if_pos c7]
    simp only [LC.imprimaturref03_ReadCount.j1]
    rw [if_pos trivial]
  rw [if_neg c7, if_neg c7]
  have tail : ∀ b : Bool, (b = true ↔ rd l a = 192 ∧ rd l (a + 1) < 192) → LC.imprimaturref03_ReadCount.j1 19 a (l.drop a.toNat) (rd l a - 191) b = (match (if rd l a = 192 ∧ rd l (a + 1) < 192 then (.inr (a, 22)) else if a + 1 + (rd l a - 191) ≤ l.length then .inl (be l (rd l a - 191).toNat (a + 1) 0, a + 1 + (rd l a - 191)) else .inr (a, 20) : Res) with | .inl (n, a) => some (n, a, 0) | .inr (p, er) => some (0, p, er)) := by
    intro b hb2
    simp only [LC.imprimaturref03_ReadCount.j1]
    by_cases c8 : rd l a = 192 ∧ rd l (a + 1) < 192
    · rw [if_pos (hb2.2 c8), if_pos c8]
    rw [if_neg (fun h => c8 (hb2.1 h)), if_neg c8]
    by_cases c9 : a + 1 + (rd l a - 191) ≤ l.length
    · rw [if_neg (by omega), if_pos c9]
      have t := ref_loop l hby a a (rd l a - 191) (by omega) (by omega) (by omega) (by omega) (rd l a - 191).toNat 18 1 0 (by omega) (by omega) (by decide) (by omega)
      rw [show ((1 : Nat) : Int) = 1 from rfl, show ((0 : Nat) : Int) = 0 from rfl] at t
      rw [t, w64 (x := a + 1) (by omega) (by omega), w64 (by omega) (by omega)]
    · rw [if_pos (by omega), if_neg c9]
  by_cases c10 : rd l a - 191 = 1
  · rw [if_pos c10]
    exact tail _ (by simp only [decide_eq_true_eq]; omega)
  · rw [if_neg c10]
    exact tail _ (by simp; omega)
theorem p8 {n : Int} (h : n ≤ 18446744073709551615) : n < 256 ^ 8 := by
  have : (256 : Int) ^ 8 = 18446744073709551616 := by rfl
  omega
theorem pw (d : Nat) (hd : d ≤ 8) (n : Int) (h : n < 256 ^ d) : n < 18446744073709551616 := by
  have : d = 0 ∨ d = 1 ∨ d = 2 ∨ d = 3 ∨ d = 4 ∨ d = 5 ∨ d = 6 ∨ d = 7 ∨ d = 8 := by omega
  rcases this with rfl | rfl | rfl | rfl | rfl | rfl | rfl | rfl | rfl <;> omega
/-- The digits of a number, the least first. -/
def le : Nat → Int → List Int
  | 0, _ => []
  | d + 1, n => if n > 0 then n % 256 :: le d (n / 256) else []
theorem le_len : ∀ d n, (le d n).length ≤ d
  | 0, _ => by simp [le]
  | d + 1, n => by
    simp only [le]
    by_cases h : n > 0
    · rw [if_pos h]; simp only [List.length_cons]; have := le_len d (n / 256); omega
    · rw [if_neg h]; simp
theorem le_byte : ∀ d n x, x ∈ le d n → 0 ≤ x ∧ x ≤ 255
  | 0, _, x, h => by simp [le] at h
  | d + 1, n, x, h => by
    simp only [le] at h
    by_cases c : n > 0
    · rw [if_pos c, List.mem_cons] at h
      rcases h with rfl | h
      · omega
      · exact le_byte d _ x h
    · rw [if_neg c] at h; simp at h
def enc (n : Int) : List Int := if n < 192 then [n] else (191 + ((le 8 n).length : Int)) :: (le 8 n).reverse
theorem rev9 (l : List Int) (h : l.length ≤ 9) : slices_Reverse_byte_byte.f 20 l = some l.reverse := by
  rcases l with _ | ⟨a, _ | ⟨b, _ | ⟨c, _ | ⟨d, _ | ⟨e, _ | ⟨f, _ | ⟨g, _ | ⟨i, _ | ⟨j, _ | ⟨m, l⟩⟩⟩⟩⟩⟩⟩⟩⟩⟩
  · kernel_rfl
  · kernel_rfl
  · kernel_rfl
  · kernel_rfl
  · kernel_rfl
  · kernel_rfl
  · kernel_rfl
  · kernel_rfl
  · kernel_rfl
  · kernel_rfl
  · simp only [List.length_cons] at h; omega
theorem wc_loop : ∀ (d k : Nat) (n : Int) (acc : List Int), 0 ≤ n → n < 256 ^ d → acc.length + d ≤ 8 → d + 21 ≤ k → wire_Count.l0 k n acc = some ((191 + ((acc ++ le d n).length : Int)) :: (acc ++ le d n).reverse)
  | d, k, n, acc, h0, h1, hl, hk => by
    obtain ⟨k, rfl⟩ : ∃ k', k = k' + 1 := ⟨k - 1, by omega⟩
    by_cases c : n > 0
    · cases d with
      | zero => omega
      | succ d =>
        have hz : n / 256 < 256 ^ d := by rw [Int.pow_succ] at h1; omega
        have ih := wc_loop d k (n / 256) (acc ++ [n % 256]) (by omega) hz (by simp only [List.length_append, List.length_cons, List.length_nil]; omega) (by omega)
        simp only [wire_Count.l0, le]
        rw [if_pos c, if_pos (by omega), ih, if_pos c, List.append_assoc, List.singleton_append]
    · have e : le d n = [] := by cases d <;> simp [le, c]
      simp only [wire_Count.l0]
      rw [if_neg c, if_pos (by omega), e, List.append_nil]
      have hr := at_rounds (slices_Reverse_byte_byte.mono (acc ++ [(wrap64 ((wrap64 (192 + (acc.length : Int))) - 1)) % 256])) (show 20 ≤ k by omega) (rev9 _ (by simp only [List.length_append, List.length_cons, List.length_nil]; omega))
      rw [hr]
      rw [w64 (x := 192 + (acc.length : Int)) (by omega) (by omega), w64 (by omega) (by omega), Option.bind_some, List.reverse_append]
      simp only [List.reverse_cons, List.reverse_nil, List.nil_append, List.singleton_append]
      rw [show (192 + (acc.length : Int) - 1) % 256 = 191 + (acc.length : Int) by omega]
theorem wc (n : Int) (h0 : 0 ≤ n) (h1 : n ≤ 18446744073709551615) : wire_Count.f 30 n = some (enc n) := by
  unfold wire_Count.f enc
  by_cases c : n < 192
  · rw [if_pos c, if_pos c, show n % 256 = n by omega]
  · rw [if_neg c, if_neg c, wc_loop 8 30 n [] h0 (p8 h1) (by simp) (by omega)]
    simp
theorem rc_loop : ∀ (d k : Nat) (n : Int) (acc : List Int), 0 ≤ n → n < 256 ^ d → acc.length + d ≤ 8 → d + 1 ≤ k → LC.imprimaturref03_Count.l0 k n acc (acc.length : Int) = some ((191 + (((le d n).reverse ++ acc).length : Int)) :: ((le d n).reverse ++ acc))
  | d, k, n, acc, h0, h1, hl, hk => by
    obtain ⟨k, rfl⟩ : ∃ k', k = k' + 1 := ⟨k - 1, by omega⟩
    by_cases c : n > 0
    · cases d with
      | zero => omega
      | succ d =>
        have hz : n / 256 < 256 ^ d := by rw [Int.pow_succ] at h1; omega
        have h64 : n < 18446744073709551616 := pw (d + 1) (by omega) n h1
        have ih := rc_loop d k (n / 256) (n % 256 :: acc) (by omega) hz (by simp only [List.length_cons]; omega) (by omega)
        have et : Int.tmod n 256 % 256 = n % 256 := by rw [Int.tmod_eq_emod_of_nonneg h0]; omega
        have ed : IntKind.u64.wrap (Int.tdiv n 256) = n / 256 := by rw [Int.tdiv_eq_ediv_of_nonneg h0, wu64 (by omega) (by omega)]
        simp only [LC.imprimaturref03_Count.l0, le]
        rw [if_pos c, Option.bind_some, et, ed, if_pos (by simp only [List.length_cons, List.length_nil]; omega), List.singleton_append, w64 (x := (acc.length : Int) + 1) (by omega) (by omega)]
        rw [show ((acc.length : Int) + 1) = ((n % 256 :: acc).length : Int) by simp, ih, if_pos c, List.reverse_cons, List.append_assoc, List.singleton_append]
    · have e : le d n = [] := by cases d <;> simp [le, c]
      simp only [LC.imprimaturref03_Count.l0]
      rw [if_neg c, Option.bind_some, if_pos (by simp only [List.length_cons, List.length_nil]; omega), e, w64 (by omega) (by omega), show (191 + (acc.length : Int)) % 256 = 191 + (acc.length : Int) by omega]
      simp
theorem rc (n : Int) (h0 : 0 ≤ n) (h1 : n ≤ 18446744073709551615) : LC.imprimaturref03_Count.f 30 n = some (enc n) := by
  unfold LC.imprimaturref03_Count.f enc
  by_cases c : n < 192
  · rw [if_pos c, if_pos c, show n % 256 = n by omega]
  · have t := rc_loop 8 30 n [] h0 (p8 h1) (by simp) (by omega)
    rw [if_neg c, if_neg c]
    simpa using t
theorem le_zero (d : Nat) : le d 0 = [] := by cases d <;> simp [le]
theorem le_val : ∀ (d : Nat) (n : Int), 0 ≤ n → n < 256 ^ d → (le d n).reverse.foldl (fun m x => m * 256 + x) 0 = n
  | 0, n, h0, h1 => by
    have : n = 0 := by omega
    subst this
    simp [le]
  | d + 1, n, h0, h1 => by
    simp only [le]
    by_cases c : n > 0
    · have hz : n / 256 < 256 ^ d := by rw [Int.pow_succ] at h1; omega
      rw [if_pos c, List.reverse_cons, List.foldl_append, le_val d (n / 256) (by omega) hz]
      simp only [List.foldl_cons, List.foldl_nil]
      omega
    · rw [if_neg c]
      simp only [List.reverse_nil, List.foldl_nil]
      omega
theorem le_top : ∀ (d : Nat) (n : Int), 0 < n → n < 256 ^ d → ∃ t ys, (le d n).reverse = t :: ys ∧ 0 < t ∧ (ys = [] → t = n)
  | 0, n, h0, h1 => by omega
  | d + 1, n, h0, h1 => by
    have hz : n / 256 < 256 ^ d := by rw [Int.pow_succ] at h1; omega
    simp only [le]
    rw [if_pos (show n > 0 from h0), List.reverse_cons]
    by_cases c : 0 < n / 256
    · obtain ⟨t, ys, e, ht, _⟩ := le_top d (n / 256) c hz
      exact ⟨t, ys ++ [n % 256], by rw [e, List.cons_append], ht, fun h => absurd h (by simp)⟩
    · rw [show n / 256 = 0 by omega, le_zero]
      exact ⟨n % 256, [], rfl, by omega, fun _ => by omega⟩
theorem be_app : ∀ (ys p : List Int) (n : Int), be (p ++ ys) ys.length (p.length : Int) n = ys.foldl (fun m x => m * 256 + x) n
  | [], p, n => rfl
  | y :: ys, p, n => by
    have hr : rd (p ++ y :: ys) (p.length : Int) = y := by
      unfold rd
      rw [List.getD_eq_getElem?_getD, Int.toNat_natCast, List.getElem?_append_right (Nat.le_refl _), Nat.sub_self]
      rfl
    have ih := be_app ys (p ++ [y]) (n * 256 + y)
    rw [List.append_assoc, List.singleton_append, List.length_append] at ih
    simp only [List.length_cons, be, List.foldl_cons]
    rw [hr, ← ih]
    rfl
theorem enc_okb (n : Int) (h0 : 0 ≤ n) : okb (enc n) = true := by
  unfold okb enc
  by_cases c : n < 192
  · rw [if_pos c]
    simp
    omega
  · rw [if_neg c]
    have hl := le_len 8 n
    simp only [Bool.and_eq_true, decide_eq_true_eq, List.all_eq_true, List.length_cons, List.length_reverse, List.mem_cons, List.mem_reverse]
    refine ⟨by omega, fun x hx => ?_⟩
    rcases hx with rfl | hx
    · omega
    · exact le_byte 8 n x hx
theorem cnt_enc (n : Int) (h0 : 0 ≤ n) (h1 : n ≤ 18446744073709551615) : cnt (enc n) 0 = .inl (n, ((enc n).length : Int)) := by
  rw [cnt_eq (enc n) (okb_rd (enc_okb n h0)) 0 (Int.le_refl _) (by omega)]
  unfold enc
  by_cases c : n < 192
  · rw [if_pos c]
    have hr : rd [n] 0 = n := rfl
    rw [if_neg (by simp), hr, if_pos c]
    rfl
  · rw [if_neg c]
    obtain ⟨t, ys, e, ht, hy⟩ := le_top 8 n (by omega) (p8 h1)
    have hv := le_val 8 n h0 (p8 h1)
    have hl := le_len 8 n
    have hll : (le 8 n).length = ys.length + 1 := by rw [← List.length_reverse, e]; rfl
    rw [e] at hv ⊢
    rw [hll] at hl ⊢
    have hr0 : rd ((191 + ((ys.length + 1 : Nat) : Int)) :: t :: ys) 0 = 191 + ((ys.length + 1 : Nat) : Int) := rfl
    have hr1 : rd ((191 + ((ys.length + 1 : Nat) : Int)) :: t :: ys) (0 + 1) = t := rfl
    have hlen : ((((191 + ((ys.length + 1 : Nat) : Int)) :: t :: ys).length : Nat) : Int) = (ys.length : Int) + 2 := by simp only [List.length_cons]; omega
    have ht2 : t ∈ le 8 n := by rw [← List.mem_reverse, e]; simp
    have htb := le_byte 8 n t ht2
    rw [hlen, hr0, hr1, if_neg (by omega), if_neg (by omega), if_neg (by omega), if_neg (by omega), if_neg (by omega)]
    rw [if_neg (fun hc => by
      have : ys = [] := by cases ys with
        | nil => rfl
        | cons a b => simp only [List.length_cons] at hc; omega
      have := hy this
      omega), if_pos (by omega)]
    have hb := be_app (t :: ys) [191 + ((ys.length + 1 : Nat) : Int)] 0
    rw [hv, List.singleton_append] at hb
    rw [show (191 + ((ys.length + 1 : Nat) : Int) - 191).toNat = (t :: ys).length by simp only [List.length_cons]; omega]
    rw [show ((0 : Int) + 1) = (([191 + ((ys.length + 1 : Nat) : Int)].length : Nat) : Int) from rfl, hb]
    rw [show (([191 + ((ys.length + 1 : Nat) : Int)].length : Nat) : Int) + (191 + ((ys.length + 1 : Nat) : Int) - 191) = (ys.length : Int) + 2 by simp only [List.length_cons, List.length_nil]; omega]
end Go.Proofs.Ytgijcafgnonjjaa.Pc
