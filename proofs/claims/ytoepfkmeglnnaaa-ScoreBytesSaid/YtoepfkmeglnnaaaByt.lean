/- The eight bytes of a word and the word of eight bytes; the printed functions of package score and of the reference. -/
import Derived.Test.YtoepfkmeglnnaaaNext
import Derived.OpenShut
namespace Go.Proofs.Ytoepfkmeglnnaaa.M
open Go.RowKit Go.Proofs.YtoepfkmeglnnaaaW.PrintWords Go.Proofs.Ytoepfkmeglnnaaa.Q

def by8 (b : Nat) : List Int := [((b / 72057594037927936 % 256 : Nat) : Int), ((b / 281474976710656 % 256 : Nat) : Int), ((b / 1099511627776 % 256 : Nat) : Int), ((b / 4294967296 % 256 : Nat) : Int), ((b / 16777216 % 256 : Nat) : Int), ((b / 65536 % 256 : Nat) : Int), ((b / 256 % 256 : Nat) : Int), ((b % 256 : Nat) : Int)]
theorem shr_at (x : Nat) (i : Int) (n : Nat) (h : wrap64 (56 - wrap64 (8 * i)) = (n : Int)) (hn : n ≤ 64) : shr .u64 (x : Int) (wrap64 (56 - wrap64 (8 * i))) % 256 = ((x / 2 ^ n % 256 : Nat) : Int) := by
  unfold shr
  rw [h, show min ((n : Int).toNat) IntKind.u64.bits = n from by rw [Int.toNat_natCast]; exact Nat.min_eq_left hn]
  rw [show ((2 : Int) ^ n) = ((2 ^ n : Nat) : Int) by simp]
  omega
theorem bytes_step (x : Nat) (l : List Int) (i n : Nat) (k : Nat) (h8 : i < 8) (hl : l.length = 8) (h : 56 = 8 * i + n) :
    score_Bytes.l0 (k + 1) x l 8 (i : Int) = score_Bytes.l0 k x (l.set i ((x / 2 ^ n % 256 : Nat) : Int)) 8 ((i + 1 : Nat) : Int) := by
  have h' : wrap64 (56 - wrap64 (8 * (i : Int))) = (n : Int) := by unfold wrap64; omega
  have e2 : wrap64 ((i : Int) + 1) = ((i + 1 : Nat) : Int) := by unfold wrap64; omega
  simp only [score_Bytes.l0]
  rw [if_pos (by omega), if_pos (by rw [h']; omega), if_pos (by omega), if_pos (by omega), shr_at x i n h' (by omega), e2, Int.toNat_natCast]
theorem bytes_p (b : Nat) (hb : b < 18446744073709551616) (k : Nat) : score_Bytes.f (k + 9) b = some (if vld b = true then (by8 b, 0) else ([], 10)) := by
  unfold score_Bytes.f
  rw [valid_p b hb]
  simp only [Option.bind_some]
  cases vld b with
  | false => rfl
  | true =>
    simp only [if_true]
    rw [if_pos (by omega)]
    show score_Bytes.l0 (k + 9) (b : Int) (List.replicate 8 0) 8 ((0 : Nat) : Int) = some (by8 b, 0)
    rw [bytes_step b _ 0 56 _ (by omega) (by simp) (by omega), bytes_step b _ 1 48 _ (by omega) (by simp) (by omega), bytes_step b _ 2 40 _ (by omega) (by simp) (by omega), bytes_step b _ 3 32 _ (by omega) (by simp) (by omega), bytes_step b _ 4 24 _ (by omega) (by simp) (by omega), bytes_step b _ 5 16 _ (by omega) (by simp) (by omega), bytes_step b _ 6 8 _ (by omega) (by simp) (by omega), bytes_step b _ 7 0 _ (by omega) (by simp) (by omega)]
    simp only [score_Bytes.l0]
    rw [if_neg (by omega)]
    have e0 : b / 2 ^ 0 % 256 = b % 256 := by rw [Nat.pow_zero, Nat.div_one]
    rw [e0]
    rfl
theorem bytes_rstep (x : Nat) (hx : x < 18446744073709551616) (l : List Int) (i : Int) (k : Nat) (h8 : i < 8) (hl : l.length ≤ 8) :
    imprimaturref01_Bytes.l0 (k + 1) x l i = imprimaturref01_Bytes.l0 k ((x / 256 : Nat) : Int) (((x % 256 : Nat) : Int) :: l) (wrap64 (i + 1)) := by
  simp only [imprimaturref01_Bytes.l0, Option.bind_some]
  have e1 : (Int.tmod (x : Int) 256) % 256 = ((x % 256 : Nat) : Int) := by rw [Int.tmod_eq_emod_of_nonneg (by omega)]; omega
  have e2 : IntKind.u64.wrap (Int.tdiv (x : Int) 256) = ((x / 256 : Nat) : Int) := by rw [wu64, tdiv_u _ (by omega)]; omega
  rw [if_pos h8, if_pos (by simp only [List.length_cons, List.length_nil]; omega), e1, e2]
  rfl
theorem bytes_r (b : Nat) (hb : b < 18446744073709551616) (k : Nat) : imprimaturref01_Bytes.f (k + 9) b = some (if vld b = true then (by8 b, 0) else ([], 10)) := by
  unfold imprimaturref01_Bytes.f
  rw [valid_r b hb]
  simp only [Option.bind_some]
  cases vld b with
  | false => rfl
  | true =>
    simp only [if_true]
    rw [bytes_rstep b hb _ _ _ (by omega) (by simp), bytes_rstep _ (by omega) _ _ _ (by decide +kernel) (by simp), bytes_rstep _ (by omega) _ _ _ (by decide +kernel) (by simp), bytes_rstep _ (by omega) _ _ _ (by decide +kernel) (by simp), bytes_rstep _ (by omega) _ _ _ (by decide +kernel) (by simp), bytes_rstep _ (by omega) _ _ _ (by decide +kernel) (by simp), bytes_rstep _ (by omega) _ _ _ (by decide +kernel) (by simp), bytes_rstep _ (by omega) _ _ _ (by decide +kernel) (by simp)]
    simp only [imprimaturref01_Bytes.l0]
    rw [if_neg (by decide +kernel)]
    unfold by8
    simp only [Nat.div_div_eq_div_mul, Nat.reduceMul]
/-- The word of bytes. -/
def wd (l : List Int) : Nat := l.foldl (fun n c => n * 256 + c.toNat) 0
def rdv (l : List Int) : Nat × Int := if l.length = 8 then (if vld (wd l) = true then (wd l, 0) else (0, 10)) else (0, 1)
theorem eight {l : List Int} (h : l.length = 8) : ∃ a b c d e f g i, l = [a, b, c, d, e, f, g, i] := by
  match l, h with
  | [a, b, c, d, e, f, g, i], _ => exact ⟨a, b, c, d, e, f, g, i, rfl⟩
theorem or_byte (n : Nat) (c : Int) (hn : n < 72057594037927936) (h0 : 0 ≤ c) (h1 : c ≤ 255) : Go.bits .or .u64 (IntKind.u64.wrap ((n : Int) * 256)) (IntKind.u64.wrap c) = ((n * 256 + c.toNat : Nat) : Int) := by
  obtain ⟨d, rfl⟩ := Int.eq_ofNat_of_zero_le h0
  have e1 : IntKind.u64.wrap ((n : Int) * 256) = ((n * 256 : Nat) : Int) := by rw [wu64]; omega
  have e2 : IntKind.u64.wrap (d : Int) = (d : Int) := by rw [wu64]; omega
  rw [e1, e2, u64_or_nat _ _ (by omega) (by omega), nat_join8 _ _ (by omega) (by omega), Int.toNat_natCast]
theorem read_step (n : Nat) (l : List Int) (i : Nat) (c : Int) (k : Nat) (hn : n < 72057594037927936) (hl : l.length = 8) (hi : i < 8) (hc : l[i]? = some c) (h0 : 0 ≤ c) (h1 : c ≤ 255) :
    score_Read.l0 (k + 1) n l 8 i = score_Read.l0 k ((n * 256 + c.toNat : Nat) : Int) l 8 ((i + 1 : Nat) : Int) := by
  simp only [score_Read.l0]
  have e : rd l (i : Int) = c := by simp [rd, List.getD_eq_getElem?_getD, hc]
  have e2 : wrap64 ((i : Int) + 1) = ((i + 1 : Nat) : Int) := by unfold wrap64; omega
  rw [if_pos (by omega), if_pos (by omega), if_pos (by omega), e, or_byte n c hn h0 h1, e2]
theorem read_rstep (n : Nat) (l : List Int) (i : Nat) (c : Int) (k : Nat) (hn : n < 72057594037927936) (hl : l.length = 8) (hi : i < 8) (hc : l[i]? = some c) (h0 : 0 ≤ c) (h1 : c ≤ 255) :
    imprimaturref01_Read.l0 (k + 1) l n i = imprimaturref01_Read.l0 k l ((n * 256 + c.toNat : Nat) : Int) ((i + 1 : Nat) : Int) := by
  simp only [imprimaturref01_Read.l0]
  have e : rd l (i : Int) = c := by simp [rd, List.getD_eq_getElem?_getD, hc]
  have e2 : wrap64 ((i : Int) + 1) = ((i + 1 : Nat) : Int) := by unfold wrap64; omega
  have e3 : IntKind.u64.wrap (IntKind.u64.wrap ((n : Int) * 256) + IntKind.u64.wrap c) = ((n * 256 + c.toNat : Nat) : Int) := by simp only [wu64]; omega
  rw [if_pos (by omega), if_pos (by omega), if_pos (by omega), e, e3, e2]
theorem wd8 {a b c d e f g i : Int} (h : ∀ x ∈ [a, b, c, d, e, f, g, i], 0 ≤ x ∧ x ≤ 255) : wd [a, b, c, d, e, f, g, i] < 18446744073709551616 := by
  simp only [List.mem_cons, List.not_mem_nil, or_false, forall_eq_or_imp, forall_eq] at h
  simp only [wd, List.foldl]
  omega
theorem read_p (l : List Int) (hl : ∀ x ∈ l, 0 ≤ x ∧ x ≤ 255) (k : Nat) : score_Read.f (k + 9) l = some (rdv l) := by
  unfold score_Read.f rdv
  by_cases h : l.length = 8
  · rw [if_pos (by omega), if_pos h]
    obtain ⟨a, b, c, d, e, f, g, i, rfl⟩ := eight h
    have hw := wd8 hl
    simp only [List.mem_cons, List.not_mem_nil, or_false, forall_eq_or_imp, forall_eq] at hl
    have e0 : score_Read.l0 (k + 9) 0 [a, b, c, d, e, f, g, i] (([a, b, c, d, e, f, g, i] : List Int).length : Int) 0 = score_Read.l0 (k + 9) ((0 : Nat) : Int) [a, b, c, d, e, f, g, i] 8 ((0 : Nat) : Int) := rfl
    rw [e0, read_step 0 _ 0 a _ (by omega) rfl (by omega) rfl (by omega) (by omega), read_step _ _ 1 b _ (by omega) rfl (by omega) rfl (by omega) (by omega), read_step _ _ 2 c _ (by omega) rfl (by omega) rfl (by omega) (by omega), read_step _ _ 3 d _ (by omega) rfl (by omega) rfl (by omega) (by omega), read_step _ _ 4 e _ (by omega) rfl (by omega) rfl (by omega) (by omega), read_step _ _ 5 f _ (by omega) rfl (by omega) rfl (by omega) (by omega), read_step _ _ 6 g _ (by omega) rfl (by omega) rfl (by omega) (by omega), read_step _ _ 7 i _ (by omega) rfl (by omega) rfl (by omega) (by omega)]
    have ew : ((((((((0 * 256 + a.toNat) * 256 + b.toNat) * 256 + c.toNat) * 256 + d.toNat) * 256 + e.toNat) * 256 + f.toNat) * 256 + g.toNat) * 256 + i.toNat) = wd [a, b, c, d, e, f, g, i] := rfl
    rw [ew]
    simp only [score_Read.l0]
    rw [if_neg (by omega), Int.toNat_natCast, valid_p _ hw]
    simp only [Option.bind_some]
    split <;> rfl
  · rw [if_neg (by omega), if_neg h]
theorem read_r (l : List Int) (hl : ∀ x ∈ l, 0 ≤ x ∧ x ≤ 255) (k : Nat) : imprimaturref01_Read.f (k + 10) l = some (rdv l) := by
  unfold imprimaturref01_Read.f rdv
  by_cases h : l.length = 8
  · rw [if_pos (by omega), if_pos h]
    obtain ⟨a, b, c, d, e, f, g, i, rfl⟩ := eight h
    have hw := wd8 hl
    simp only [List.mem_cons, List.not_mem_nil, or_false, forall_eq_or_imp, forall_eq] at hl
    have e0 : imprimaturref01_Read.l0 (k + 10) [a, b, c, d, e, f, g, i] 0 0 = imprimaturref01_Read.l0 (k + 10) [a, b, c, d, e, f, g, i] ((0 : Nat) : Int) ((0 : Nat) : Int) := rfl
    rw [e0, read_rstep 0 _ 0 a _ (by omega) rfl (by omega) rfl (by omega) (by omega), read_rstep _ _ 1 b _ (by omega) rfl (by omega) rfl (by omega) (by omega), read_rstep _ _ 2 c _ (by omega) rfl (by omega) rfl (by omega) (by omega), read_rstep _ _ 3 d _ (by omega) rfl (by omega) rfl (by omega) (by omega), read_rstep _ _ 4 e _ (by omega) rfl (by omega) rfl (by omega) (by omega), read_rstep _ _ 5 f _ (by omega) rfl (by omega) rfl (by omega) (by omega), read_rstep _ _ 6 g _ (by omega) rfl (by omega) rfl (by omega) (by omega), read_rstep _ _ 7 i _ (by omega) rfl (by omega) rfl (by omega) (by omega)]
    have ew : ((((((((0 * 256 + a.toNat) * 256 + b.toNat) * 256 + c.toNat) * 256 + d.toNat) * 256 + e.toNat) * 256 + f.toNat) * 256 + g.toNat) * 256 + i.toNat) = wd [a, b, c, d, e, f, g, i] := rfl
    rw [ew]
    simp only [imprimaturref01_Read.l0]
    rw [if_neg (by omega), Int.toNat_natCast, valid_r _ hw]
    simp only [Option.bind_some]
    split <;> rfl
  · rw [if_neg (by omega), if_neg h]
theorem by8_ok (b : Nat) : ∀ x ∈ by8 b, 0 ≤ x ∧ x ≤ 255 := by
  intro x hx
  simp only [by8, List.mem_cons, List.not_mem_nil, or_false] at hx
  omega
theorem wd_by8 (b : Nat) (hb : b < 18446744073709551616) : wd (by8 b) = b := by
  simp only [by8, wd, List.foldl, Int.toNat_natCast]
  omega
set_option maxHeartbeats 1000000 in
theorem by8_wd (l : List Int) (hl : ∀ x ∈ l, 0 ≤ x ∧ x ≤ 255) (h : l.length = 8) : by8 (wd l) = l := by
  obtain ⟨a, b, c, d, e, f, g, i, rfl⟩ := eight h
  simp only [List.mem_cons, List.not_mem_nil, or_false, forall_eq_or_imp, forall_eq] at hl
  obtain ⟨ha, hb, hc, hd, he, hf, hg, hi⟩ := hl
  obtain ⟨a, rfl⟩ := Int.eq_ofNat_of_zero_le ha.1
  obtain ⟨b, rfl⟩ := Int.eq_ofNat_of_zero_le hb.1
  obtain ⟨c, rfl⟩ := Int.eq_ofNat_of_zero_le hc.1
  obtain ⟨d, rfl⟩ := Int.eq_ofNat_of_zero_le hd.1
  obtain ⟨e, rfl⟩ := Int.eq_ofNat_of_zero_le he.1
  obtain ⟨f, rfl⟩ := Int.eq_ofNat_of_zero_le hf.1
  obtain ⟨g, rfl⟩ := Int.eq_ofNat_of_zero_le hg.1
  obtain ⟨i, rfl⟩ := Int.eq_ofNat_of_zero_le hi.1
  have hn : a < 256 ∧ b < 256 ∧ c < 256 ∧ d < 256 ∧ e < 256 ∧ f < 256 ∧ g < 256 ∧ i < 256 := by omega
  clear ha hb hc hd he hf hg hi h
  simp only [by8, wd, List.foldl, Int.toNat_natCast]
  obtain ⟨ha, hb, hc, hd, he, hf, hg, hi⟩ := hn
  have e1 : (((((((0 * 256 + a) * 256 + b) * 256 + c) * 256 + d) * 256 + e) * 256 + f) * 256 + g) * 256 + i = a * 72057594037927936 + (b * 281474976710656 + (c * 1099511627776 + (d * 4294967296 + (e * 16777216 + (f * 65536 + (g * 256 + i)))))) := by omega
  rw [e1]
  have q1 : (a * 72057594037927936 + (b * 281474976710656 + (c * 1099511627776 + (d * 4294967296 + (e * 16777216 + (f * 65536 + (g * 256 + i))))))) / 72057594037927936 % 256 = a := by omega
  have q2 : (a * 72057594037927936 + (b * 281474976710656 + (c * 1099511627776 + (d * 4294967296 + (e * 16777216 + (f * 65536 + (g * 256 + i))))))) / 281474976710656 % 256 = b := by omega
  have q3 : (a * 72057594037927936 + (b * 281474976710656 + (c * 1099511627776 + (d * 4294967296 + (e * 16777216 + (f * 65536 + (g * 256 + i))))))) / 1099511627776 % 256 = c := by omega
  have q4 : (a * 72057594037927936 + (b * 281474976710656 + (c * 1099511627776 + (d * 4294967296 + (e * 16777216 + (f * 65536 + (g * 256 + i))))))) / 4294967296 % 256 = d := by omega
  have q5 : (a * 72057594037927936 + (b * 281474976710656 + (c * 1099511627776 + (d * 4294967296 + (e * 16777216 + (f * 65536 + (g * 256 + i))))))) / 16777216 % 256 = e := by omega
  have q6 : (a * 72057594037927936 + (b * 281474976710656 + (c * 1099511627776 + (d * 4294967296 + (e * 16777216 + (f * 65536 + (g * 256 + i))))))) / 65536 % 256 = f := by omega
  have q7 : (a * 72057594037927936 + (b * 281474976710656 + (c * 1099511627776 + (d * 4294967296 + (e * 16777216 + (f * 65536 + (g * 256 + i))))))) / 256 % 256 = g := by omega
  have q8 : (a * 72057594037927936 + (b * 281474976710656 + (c * 1099511627776 + (d * 4294967296 + (e * 16777216 + (f * 65536 + (g * 256 + i))))))) % 256 = i := by omega
  rw [q1, q2, q3, q4, q5, q6, q7, q8]
theorem samebytes (l m : List Int) (h : l = m) : imprimaturref01_SameBytes.f l m = some true := by
  subst h
  unfold imprimaturref01_SameBytes.f
  simp
theorem wd_lt (l : List Int) (hl : ∀ x ∈ l, 0 ≤ x ∧ x ≤ 255) (h : l.length = 8) : wd l < 18446744073709551616 := by
  obtain ⟨a, b, c, d, e, f, g, i, rfl⟩ := eight h
  exact wd8 hl
end Go.Proofs.Ytoepfkmeglnnaaa.M
