/- A part of a whole: Mul64 and Div64 at small factors and divisors give the whole times i over n, rounded down. -/
import Derived.Test.YtoepfkmeglnnaaaT1
import Derived.Test.YtoepfkmeglnnaaaM
namespace Go.Proofs.Ytoepfkmeglnnaaa.M
open Go.RowKit Go.Proofs.YtoepfkmeglnnaaaW.PrintWords Go.Proofs.YtoepfkmeglnnaaaW.PrintMore Go.Proofs.Ytoepfkmeglnnaaa.Q Go.Proofs.Ytoepfkmeglnnaaa.T

theorem and_low (b : Nat) (hb : b < 18446744073709551616) : Go.bits .and .u64 (b : Int) 4294967295 = ((b % 4294967296 : Nat) : Int) := by
  have h := u64_and_nat b 4294967295 hb (by omega)
  rw [show b &&& 4294967295 = b % 4294967296 from Nat.and_two_pow_sub_one_eq_mod b 32] at h
  exact h
theorem mul64 (x y : Nat) (hx : x < 18446744073709551616) (hy : y < 4294967296) : bits_Mul64.f x y = some (((x * y / 18446744073709551616 : Nat) : Int), ((x * y % 18446744073709551616 : Nat) : Int)) := by
  unfold bits_Mul64.f
  rw [and_low x hx, and_low y (by omega)]
  have e1 : ((x : Int) / 4294967296) = ((x / 4294967296 : Nat) : Int) := by omega
  have e2 : ((y : Int) / 4294967296) = 0 := by omega
  have e3 : y % 4294967296 = y := by omega
  rw [e1, e2, e3]
  have hP : x / 4294967296 * y ≤ 4294967295 * 4294967295 := Nat.mul_le_mul (by omega) (by omega)
  have hQ : x % 4294967296 * y ≤ 4294967295 * 4294967295 := Nat.mul_le_mul (by omega) (by omega)
  have hx2 : x * y = x / 4294967296 * y * 4294967296 + x % 4294967296 * y := by
    conv => lhs; rw [← Nat.div_add_mod x 4294967296]
    rw [Nat.add_mul, Nat.mul_comm 4294967296, Nat.mul_assoc, Nat.mul_comm 4294967296, ← Nat.mul_assoc]
  have c1 : ((x / 4294967296 : Nat) : Int) * (y : Int) = ((x / 4294967296 * y : Nat) : Int) := by rw [Int.natCast_mul]
  have c2 : ((x % 4294967296 : Nat) : Int) * (y : Int) = ((x % 4294967296 * y : Nat) : Int) := by rw [Int.natCast_mul]
  have c3 : (x : Int) * (y : Int) = ((x * y : Nat) : Int) := by rw [Int.natCast_mul]
  rw [c1, c2, c3, hx2]
  generalize x / 4294967296 * y = P at hP
  generalize x % 4294967296 * y = Q at hQ
  simp only [Int.mul_zero, wu64]
  have t1 : (((P : Nat) : Int) % 18446744073709551616 + ((Q : Nat) : Int) % 18446744073709551616 / 4294967296) % 18446744073709551616 = ((P + Q / 4294967296 : Nat) : Int) := by omega
  rw [t1, and_low _ (by omega)]
  simp only [Option.some.injEq, Prod.mk.injEq]
  constructor <;> omega

def lzOk (y : Nat) : Bool := match bits_LeadingZeros64.f 2 (y : Int) with
  | some s => decide (54 ≤ s) && decide (s ≤ 62) && decide (9223372036854775808 ≤ y * 2 ^ s.toNat) && decide (y * 2 ^ s.toNat < 18446744073709551616)
  | none => false
theorem lz_all : (List.range 1002).all (fun y => decide (y < 2) || lzOk y) = true := by decide +kernel
theorem lz_at (y : Nat) (h : 2 ≤ y) (h2 : y ≤ 1001) : ∃ s : Nat, bits_LeadingZeros64.f 2 (y : Int) = some (s : Int) ∧ 54 ≤ s ∧ s ≤ 62 ∧ 9223372036854775808 ≤ y * 2 ^ s ∧ y * 2 ^ s < 18446744073709551616 := by
  have h3 := List.all_eq_true.1 lz_all y (List.mem_range.2 (by omega))
  simp only [Bool.or_eq_true, decide_eq_true_eq] at h3
  rcases h3 with h3 | h3
  · omega
  unfold lzOk at h3
  split at h3
  · rename_i s hs
    simp only [Bool.and_eq_true, decide_eq_true_eq] at h3
    obtain ⟨n, rfl⟩ := Int.eq_ofNat_of_zero_le (show 0 ≤ s by omega)
    exact ⟨n, hs, by omega, by omega, by simpa using h3.1.2, by simpa using h3.2⟩
  · cases h3

/-- The quotient, digit by digit, in plain numbers. -/
theorem quot (hi lo y s yn1 : Nat) (hs : s ≤ 64) (hy1 : y * 2 ^ s = yn1 * 4294967296) (hyn : 0 < yn1) :
    (hi * 18446744073709551616 + lo) / y = ((hi * 2 ^ s + lo / 2 ^ (64 - s)) / yn1) * 4294967296 + ((hi * 2 ^ s + lo / 2 ^ (64 - s)) % yn1 * 4294967296 + lo * 2 ^ s % 18446744073709551616 / 4294967296) / yn1 := by
  have hp : 0 < 2 ^ s := Nat.two_pow_pos s
  have e64 : 2 ^ (64 - s) * 2 ^ s = 18446744073709551616 := by rw [← Nat.pow_add, show 64 - s + s = 64 by omega]
  have hlo : lo * 2 ^ s = lo / 2 ^ (64 - s) * 18446744073709551616 + lo * 2 ^ s % 18446744073709551616 := by
    have h1 : lo * 2 ^ s / 18446744073709551616 = lo / 2 ^ (64 - s) := by rw [← e64, Nat.mul_div_mul_right _ _ hp]
    have h2 := Nat.div_add_mod (lo * 2 ^ s) 18446744073709551616
    rw [h1] at h2
    omega
  obtain ⟨r, hr⟩ : ∃ r, r = lo * 2 ^ s % 18446744073709551616 := ⟨_, rfl⟩
  rw [← hr] at hlo ⊢
  rw [← Nat.mul_div_mul_right _ y hp, hy1, Nat.add_mul, hlo]
  clear hr hlo
  have h3 : hi * 18446744073709551616 * 2 ^ s = hi * 2 ^ s * 18446744073709551616 := by rw [Nat.mul_assoc, Nat.mul_comm 18446744073709551616, ← Nat.mul_assoc]
  rw [h3, ← Nat.add_assoc, ← Nat.add_mul]
  generalize hi * 2 ^ s + lo / 2 ^ (64 - s) = u
  rw [Nat.mul_comm yn1, ← Nat.div_div_eq_div_mul]
  have h4 : (u * 18446744073709551616 + r) / 4294967296 = u * 4294967296 + r / 4294967296 := by omega
  rw [h4]
  have h5 : u * 4294967296 + r / 4294967296 = u % yn1 * 4294967296 + r / 4294967296 + yn1 * (u / yn1 * 4294967296) := by
    have h6 := Nat.div_add_mod u yn1
    conv => lhs; rw [← h6]
    rw [Nat.add_mul, Nat.mul_assoc]
    omega
  rw [h5, Nat.add_mul_div_left _ _ hyn, Nat.add_comm]

theorem shl_nat (x s : Nat) (hs : s ≤ 64) : shl .u64 (x : Int) (s : Int) = ((x * 2 ^ s % 18446744073709551616 : Nat) : Int) := by
  unfold shl
  rw [wu64, show min ((s : Int).toNat) IntKind.u64.bits = s from by rw [Int.toNat_natCast]; exact Nat.min_eq_left hs]
  rw [show ((2 : Int) ^ s) = ((2 ^ s : Nat) : Int) by simp, ← Int.natCast_mul]
  omega
theorem shr_nat (x s : Nat) (hs : s ≤ 64) : shr .u64 (x : Int) (s : Int) = ((x / 2 ^ s : Nat) : Int) := by
  unfold shr
  rw [show min ((s : Int).toNat) IntKind.u64.bits = s from by rw [Int.toNat_natCast]; exact Nat.min_eq_left hs]
  rw [show ((2 : Int) ^ s) = ((2 ^ s : Nat) : Int) by simp]
  omega
theorem wrap_div (a b : Nat) (h : a / b < 18446744073709551616) : IntKind.u64.wrap (Int.tdiv (a : Int) (b : Int)) = ((a / b : Nat) : Int) := by
  rw [tdiv_u _ (by omega), wu64, ← Int.natCast_ediv]
  generalize a / b = q at h
  omega
theorem wrap_rest (a b : Nat) (h : a < 18446744073709551616) : IntKind.u64.wrap ((a : Int) - IntKind.u64.wrap (((a / b : Nat) : Int) * (b : Int))) = ((a % b : Nat) : Int) := by
  have e : ((a / b : Nat) : Int) * (b : Int) = ((b * (a / b) : Nat) : Int) := by rw [Nat.mul_comm, Int.natCast_mul]
  have g := Nat.div_add_mod a b
  rw [e, wu64, wu64]
  generalize b * (a / b) = p at g
  generalize a % b = m at g
  omega
theorem rest_bound (v Y r : Nat) (h : v < Y) (hr : r < 18446744073709551616) : v * 4294967296 + r / 4294967296 < Y * 4294967296 := by omega
theorem wrap_next (u z v r : Nat) (h : z + v = u) (hv : v < 4294967296) (hr : r < 18446744073709551616) : IntKind.u64.wrap (IntKind.u64.wrap (IntKind.u64.wrap ((u : Int) * 4294967296) + ((r / 4294967296 : Nat) : Int)) - IntKind.u64.wrap ((z * 4294967296 : Nat) : Int)) = ((v * 4294967296 + r / 4294967296 : Nat) : Int) := by
  simp only [wu64]
  omega
/-- The second digit and the end. -/
theorem div_l1 (k : Nat) (yn s yn1 un0 q1 rh un21 q0 : Nat) (hq : q0 < 4294967296) (hq1 : q1 < 4294967296) :
    ∃ r, bits_Div64.l1 (k + 2) (yn : Int) (s : Int) (yn1 : Int) 0 (un0 : Int) (q1 : Int) rh (un21 : Int) (q0 : Int) = some (((q1 * 4294967296 + q0 : Nat) : Int), r) := by
  simp only [bits_Div64.l1, bits_Div64.j4]
  rw [if_neg (by omega)]
  have hd : decide ((IntKind.u64.wrap ((q0 : Int) * 0)) > (IntKind.u64.wrap ((IntKind.u64.wrap (4294967296 * (rh : Int))) + (un0 : Int)))) = false := by
    simp only [wu64, Int.mul_zero]
    simp
    omega
  rw [hd, if_neg (by simp), if_pos (by omega)]
  have e : IntKind.u64.wrap (IntKind.u64.wrap ((q1 : Int) * 4294967296) + (q0 : Int)) = ((q1 * 4294967296 + q0 : Nat) : Int) := by
    simp only [wu64]; omega
  rw [e]
  exact ⟨_, rfl⟩
theorem div64 (hi lo y : Nat) (hy : 2 ≤ y) (hy2 : y ≤ 1001) (hh : hi < y) (hlo : lo < 18446744073709551616) :
    ∃ r, bits_Div64.f 10 (hi : Int) (lo : Int) (y : Int) = some ((((hi * 18446744073709551616 + lo) / y : Nat) : Int), r) := by
  unfold bits_Div64.f
  rw [if_neg (by omega), if_neg (by omega)]
  by_cases h0 : hi = 0
  · subst h0
    have h00 : ((0 : Nat) : Int) = 0 := rfl
    rw [if_pos h00]
    have : lo / y ≤ lo := Nat.div_le_self _ _
    have e : IntKind.u64.wrap (Int.tdiv (lo : Int) (y : Int)) = (((0 * 18446744073709551616 + lo) / y : Nat) : Int) := by
      rw [Nat.zero_mul, Nat.zero_add, wrap_div lo y (by omega)]
    rw [e]
    exact ⟨_, rfl⟩
  · rw [if_neg (by omega)]
    obtain ⟨s, hs, s1, s2, p1, p2⟩ := lz_at y hy hy2
    have hs10 : bits_LeadingZeros64.f 10 (y : Int) = some (s : Int) := by
      have hm : ∀ k, bits_LeadingZeros64.f (2 + k) (y : Int) = some (s : Int) := by
        intro k
        induction k with
        | zero => exact hs
        | succ k ih => exact bits_LeadingZeros64.mono (y : Int) (2 + k) _ ih
      exact hm 8
    rw [hs10]
    simp only [Option.bind_some]
    have w1 : IntKind.u64.wrap (s : Int) = (s : Int) := by rw [wu64]; omega
    have w2 : IntKind.u64.wrap (64 - (s : Int)) = ((64 - s : Nat) : Int) := by rw [wu64]; omega
    rw [w1, w2, if_pos (by omega), if_pos (by omega), shl_nat y s (by omega), shl_nat hi s (by omega), shl_nat lo s (by omega), shr_nat lo _ (by omega)]
    have hp : 0 < 2 ^ s := Nat.two_pow_pos s
    have hhs : hi * 2 ^ s + 2 ^ s ≤ y * 2 ^ s := by
      have := Nat.mul_le_mul_right (2 ^ s) (show hi + 1 ≤ y by omega)
      rw [Nat.add_mul, Nat.one_mul] at this
      exact this
    have hls : lo / 2 ^ (64 - s) < 2 ^ s := by
      rw [Nat.div_lt_iff_lt_mul (Nat.two_pow_pos _), ← Nat.pow_add, show s + (64 - s) = 64 by omega]
      exact hlo
    have m1 : y * 2 ^ s % 18446744073709551616 = y * 2 ^ s := Nat.mod_eq_of_lt p2
    have m2 : hi * 2 ^ s % 18446744073709551616 = hi * 2 ^ s := Nat.mod_eq_of_lt (by omega)
    have y32 : y * 2 ^ s = y * 2 ^ (s - 32) * 4294967296 := by
      rw [Nat.mul_assoc, show (4294967296 : Nat) = 2 ^ 32 by decide +kernel, ← Nat.pow_add, show s - 32 + 32 = s by omega]
    rw [m1, m2]
    have hun : hi * 2 ^ s + lo / 2 ^ (64 - s) < y * 2 ^ s := by omega
    have hor : Go.bits .or .u64 ((hi * 2 ^ s : Nat) : Int) ((lo / 2 ^ (64 - s) : Nat) : Int) = ((hi * 2 ^ s + lo / 2 ^ (64 - s) : Nat) : Int) := by
      have h := u64_or_nat (hi * 2 ^ s) (lo / 2 ^ (64 - s)) (by omega) (by omega)
      rw [nat_join s _ _ (Nat.mul_mod_left _ _) hls] at h
      exact h
    rw [hor]
    have q := quot hi lo y s (y * 2 ^ (s - 32)) (by omega) y32 (Nat.mul_pos (by omega) (Nat.two_pow_pos _))
    rw [q]
    clear q
    have hyn1 : 2147483648 ≤ y * 2 ^ (s - 32) := by omega
    have hyn2 : y * 2 ^ (s - 32) < 4294967296 := by omega
    have a0 : Go.bits .and .u64 ((y * 2 ^ s : Nat) : Int) 4294967295 = 0 := by
      rw [and_low _ p2, y32, Nat.mul_mod_left]; rfl
    have d1 : (((y * 2 ^ s : Nat) : Int) / 4294967296) = ((y * 2 ^ (s - 32) : Nat) : Int) := by omega
    rw [a0, d1]
    generalize hU : hi * 2 ^ s + lo / 2 ^ (64 - s) = u at hun
    generalize hR : lo * 2 ^ s % 18446744073709551616 = r
    have hr : r < 18446744073709551616 := by rw [← hR]; exact Nat.mod_lt _ (by omega)
    generalize hY : y * 2 ^ (s - 32) = Y at y32 hyn1 hyn2
    rw [and_low r hr, if_neg (by omega)]
    have hYp : 0 < Y := by omega
    have g1 := Nat.div_add_mod u Y
    have g2 := Nat.mod_lt u hYp
    have g3 : u / Y < 4294967296 := by rw [Nat.div_lt_iff_lt_mul hYp, Nat.mul_comm]; omega
    rw [wrap_div u Y (by omega), wrap_rest u Y (by omega)]
    have i3 : ((r : Int) / 4294967296) = ((r / 4294967296 : Nat) : Int) := by omega
    rw [i3]
    simp only [bits_Div64.l0]
    rw [if_neg (by omega)]
    have hd : decide ((IntKind.u64.wrap (((u / Y : Nat) : Int) * 0)) > (IntKind.u64.wrap ((IntKind.u64.wrap (4294967296 * ((u % Y : Nat) : Int))) + ((r / 4294967296 : Nat) : Int)))) = false := by
      simp only [wu64, Int.mul_zero]
      simp
      omega
    rw [hd]
    simp only [bits_Div64.j1]
    rw [if_neg (by simp)]
    simp only [bits_Div64.j2]
    rw [if_neg (by omega)]
    have hn : ((u / Y : Nat) : Int) * ((y * 2 ^ s : Nat) : Int) = ((Y * (u / Y) * 4294967296 : Nat) : Int) := by
      rw [y32, ← Int.natCast_mul, Nat.mul_comm (u / Y), Nat.mul_assoc Y, Nat.mul_assoc Y, Nat.mul_comm 4294967296]
    have i4 : IntKind.u64.wrap (IntKind.u64.wrap (IntKind.u64.wrap ((u : Int) * 4294967296) + ((r / 4294967296 : Nat) : Int)) - IntKind.u64.wrap (((u / Y : Nat) : Int) * ((y * 2 ^ s : Nat) : Int))) = ((u % Y * 4294967296 + r / 4294967296 : Nat) : Int) := by
      rw [hn]
      exact wrap_next u (Y * (u / Y)) (u % Y) r g1 (Nat.lt_trans g2 hyn2) hr
    rw [i4]
    have g4 : u % Y * 4294967296 + r / 4294967296 < Y * 4294967296 := rest_bound _ _ _ g2 hr
    clear p1 p2 hhs hls m1 m2 hun i4 hn
    obtain ⟨z, hZ⟩ : ∃ z, z = u % Y * 4294967296 + r / 4294967296 := ⟨_, rfl⟩
    rw [← hZ] at g4 ⊢
    clear hZ
    have hz : z < 18446744073709551616 := by omega
    have g7 : z / Y < 4294967296 := by rw [Nat.div_lt_iff_lt_mul hYp, Nat.mul_comm]; exact g4
    rw [wrap_div z Y (by omega), wrap_rest z Y hz]
    exact div_l1 5 (y * 2 ^ s) s Y (r % 4294967296) (u / Y) (z % Y) z (z / Y) g7 g3
/-- A part of a whole. -/
theorem share_eq (x i n : Nat) (hx : x < 18446744073709551616) (hi : i < n) (hn : 2 ≤ n) (hn2 : n ≤ 1001) : score_share.f 10 (x : Int) (i : Int) (n : Int) = some ((x * i / n : Nat) : Int) := by
  unfold score_share.f
  have w1 : IntKind.u64.wrap (i : Int) = (i : Int) := by rw [wu64]; omega
  have w2 : IntKind.u64.wrap (n : Int) = (n : Int) := by rw [wu64]; omega
  rw [w1, w2, mul64 x i hx (by omega)]
  simp only [Option.bind_some]
  have hlt : x * i / 18446744073709551616 < n := by
    rw [Nat.div_lt_iff_lt_mul (by omega)]
    have h1 : x * i ≤ 18446744073709551616 * i := Nat.mul_le_mul (show x ≤ 18446744073709551616 by omega) (Nat.le_refl i)
    omega
  obtain ⟨r, hr⟩ := div64 (x * i / 18446744073709551616) (x * i % 18446744073709551616) n hn hn2 hlt (Nat.mod_lt _ (by omega))
  rw [hr]
  simp only [Option.bind_some]
  rw [show x * i / 18446744073709551616 * 18446744073709551616 + x * i % 18446744073709551616 = x * i by omega]
/-- The reference's part. -/
theorem part_eq (x i n : Nat) (hn : 0 < n) : x / n * i + x % n * i / n = x * i / n := by
  conv => rhs; rw [← Nat.div_add_mod x n]
  rw [Nat.add_mul, Nat.mul_assoc, Nat.add_comm (n * _), Nat.add_mul_div_left _ _ hn, Nat.add_comm]
end Go.Proofs.Ytoepfkmeglnnaaa.M
