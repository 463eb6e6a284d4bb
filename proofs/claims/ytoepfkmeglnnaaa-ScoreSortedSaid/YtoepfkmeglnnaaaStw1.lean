/- Go's stable sort at ints: the walks of swapRange and rotate. -/
import Derived.Test.YtoepfkmeglnnaaaStw0
import Derived.Test.YtoepfkmeglnnaaaProg
import Derived.Shelf.SlSortCmp.Kit1
import Derived.Sort.WalkA
import Derived.Sort.WalkB2
import Derived.Sort.WalkB12
import Derived.Deep.LoopGhost
import Derived.WalkMore
namespace Go.Proofs.Ytoepfkmeglnnaaa.Stb
open Go.Shelf Go.RowKit Go.Lib Go.Sort Go.Proofs

set_option maxHeartbeats 16000000 in
set_option maxRecDepth 1000000 in
theorem swapRange {N : Nat} (g : Nat) (cb : Array Value) (blk off cap a b n : Nat) (d0 d : Array (Ix N)) (w0 w : World)
    (R : Row1 (E N) w0 blk off d0) (hs : d0.size = d.size) (S : SW (E N) w0 blk off d w) (hab : a + n ≤ b) (hb : b + n ≤ d.size) (hsz : d.size < 1152921504606846976) :
    Calls Try.prog 69 #[.slice (some ⟨blk, off, none⟩) d.size cap, .int .i64 a, .int .i64 b, .int .i64 n, .func (.func g) #[] cb] w fun e w' => e = .returned (.tuple #[]) ∧ SW (E N) w0 blk off (swr d a b n) w' := by
  have mixed : Try.prog.follows Departure.mixedOrders = true := by decide
  have S0 : Aside (SW (E N) w0 blk off d w) := S
  clear S
  go_enter Try.func69, Try.ntmps69
  go_wp2
  go_loopg [10] n (fun g1 vi wr => ∃ (i : Nat), vi = .int .i64 i ∧ i ≤ n ∧ n - i ≤ g1 ∧ Aside (SW (E N) w0 blk off (swr d a b i) wr))
  case atStart => exact ⟨0, rfl, Nat.zero_le _, Nat.le_refl _, S0⟩
  case round =>
    clear S0
    obtain ⟨i, rfl, hin, hg1, S1⟩ := hrel
    have zs : (swr d a b i).size = d.size := size_swr ..
    by_cases hlt : i < n
    · have hltz : (i : Int) < (n : Int) := by omega
      obtain ⟨dk, hdk⟩ : ∃ q, q = swr d a b i := ⟨_, rfl⟩
      obtain ⟨iN, hiN⟩ : ∃ q, q = a + i := ⟨_, rfl⟩
      obtain ⟨jN, hjN⟩ : ∃ q, q = b + i := ⟨_, rfl⟩
      have ea : ((a : Int) + (i : Int)).toNat = iN := by omega
      have pa : (0 : Int) ≤ (a : Int) + (i : Int) := by omega
      have ba : (a : Int) + (i : Int) < (d.size : Int) := by omega
      have ra : IntKind.i64.wrap ((a : Int) + (i : Int)) = (a : Int) + (i : Int) := by rw [IntKind.wrap_i64]; omega
      have ec : ((b : Int) + (i : Int)).toNat = jN := by omega
      have pc : (0 : Int) ≤ (b : Int) + (i : Int) := by omega
      have bc : (b : Int) + (i : Int) < (d.size : Int) := by omega
      have rc : IntKind.i64.wrap ((b : Int) + (i : Int)) = (b : Int) + (i : Int) := by rw [IntKind.wrap_i64]; omega
      rw [← hdk] at S1 zs
      obtain ⟨x, hx⟩ : ∃ x, x = dk[iN]! := ⟨_, rfl⟩
      obtain ⟨y, hy⟩ : ∃ x, x = dk[jN]! := ⟨_, rfl⟩
      have S3 : Aside (SW (E N) w0 blk off (swp dk iN jN) ((wr.setCell ⟨blk, off + iN, none⟩ (.int .i64 y)).setCell ⟨blk, off + jN, none⟩ (.int .i64 x)).drew) := by rw [hx, hy]; exact S1.out.swapped R iN jN (by omega) (by omega)
      have c1a := S1.out.c1 R (by omega) iN (by omega)
      have c1b := S1.out.c1 R (by omega) jN (by omega)
      have f1a := S1.out.f1 R (by omega) iN (by omega)
      have f1b := S1.out.f1 R (by omega) jN (by omega)
      obtain ⟨u1, c1c⟩ := S1.out.c2 R (by omega) iN jN (by omega) (by omega) (.int .i64 y)
      rw [← hx] at c1a
      rw [← hy] at c1b
      have hnext : swp dk iN jN = swr d a b (i + 1) := by rw [hdk, hiN, hjN]; rfl
      rw [hnext] at S3
      clear S1 hx hy hiN hjN hdk hnext
      go_wp2_with fail
      go_big_region_o
      clear c1a c1b c1c f1a f1b
      generalize ((wr.setCell ⟨blk, off + iN, none⟩ (.int .i64 y)).setCell ⟨blk, off + jN, none⟩ (.int .i64 x)).drew = w3 at S3 ⊢
      clear ea ec
      go_wp2
      go_roundg (n - (i + 1))
      case measure => omega
      case rel => exact ⟨i + 1, by go_num, by omega, Nat.le_refl _, S3⟩
    · have hltz : ¬ (i : Int) < (n : Int) := by omega
      have hi : i = n := by omega
      subst hi
      go_wp2
      go_end0
      exact ⟨rfl, S1.out⟩

set_option maxHeartbeats 16000000 in
set_option maxRecDepth 1000000 in
theorem rotate {N : Nat} (g : Nat) (cb : Array Value) (blk off cap a m b : Nat) (d0 d : Array (Ix N)) (w0 w : World)
    (R : Row1 (E N) w0 blk off d0) (hs : d0.size = d.size) (S : SW (E N) w0 blk off d w) (ham : a < m) (hmb : m < b) (hb : b ≤ d.size) (hsz : d.size < 1152921504606846976) :
    Calls Try.prog 68 #[.slice (some ⟨blk, off, none⟩) d.size cap, .int .i64 a, .int .i64 m, .int .i64 b, .func (.func g) #[] cb] w fun e w' => e = .returned (.tuple #[]) ∧ SW (E N) w0 blk off (rot d a m b) w' := by
  have mixed : Try.prog.follows Departure.mixedOrders = true := by decide
  have S0 : Aside (SW (E N) w0 blk off d w) := S
  clear S
  obtain ⟨i0, hi0⟩ : ∃ q, q = m - a := ⟨_, rfl⟩
  obtain ⟨j0, hj0⟩ : ∃ q, q = b - m := ⟨_, rfl⟩
  have zi0 : (m : Int) - (a : Int) = (i0 : Int) := by omega
  have zj0 : (b : Int) - (m : Int) = (j0 : Int) := by omega
  have wi0 : IntKind.i64.wrap (i0 : Int) = (i0 : Int) := by rw [IntKind.wrap_i64]; omega
  have wj0 : IntKind.i64.wrap (j0 : Int) = (j0 : Int) := by rw [IntKind.wrap_i64]; omega
  go_enter Try.func68, Try.ntmps68
  go_wp2
  go_loopg [10, 11] (i0 + j0) (fun g1 vi vj wr => ∃ (i j : Nat) (dk : Array (Ix N)), vi = .int .i64 i ∧ vj = .int .i64 j ∧ 0 < i ∧ 0 < j ∧ i ≤ m ∧ m + j ≤ d.size ∧ i + j ≤ g1 ∧ dk.size = d.size ∧ Aside (SW (E N) w0 blk off dk wr) ∧ Hid (rot dk (m - i) m (m + j) = rot d a m b))
  case atStart => exact ⟨i0, j0, d, by first | go_num | (congr 1; omega), by first | go_num | (congr 1; omega), by omega, by omega, by omega, by omega, by omega, rfl, S0, by show _ = _; congr 1 <;> omega⟩
  case round =>
    clear S0
    obtain ⟨i, j, dk, rfl, rfl, hi, hj, him, hjm, hg1, hsk, S1, HR⟩ := hrel
    have z1 : (m : Int) - (i : Int) = ((m - i : Nat) : Int) := by omega
    have w1 : IntKind.i64.wrap ((m - i : Nat) : Int) = ((m - i : Nat) : Int) := by rw [IntKind.wrap_i64]; omega
    by_cases hne : i = j
    · subst hne
      have hc := fun w => swapRange g cb blk off cap (m - i) m i d0 dk w0 w R (by omega)
      go_wp2_with (go_at_call 69; (first | rw [z1] | skip); (first | rw [w1] | skip); (rw [← hsk]; with_reducible refine (hc _ S1.out (by omega) (by omega) (by omega)).mono ?_); rintro e w' ⟨rfl, S2⟩)
      go_end0
      refine ⟨rfl, ?_⟩
      rw [← HR.out, ← rot_same dk m i him (by omega)]
      exact S2
    · by_cases hgt : j < i
      · have hc := fun w => swapRange g cb blk off cap (m - i) m j d0 dk w0 w R (by omega)
        have z2 : (i : Int) - (j : Int) = ((i - j : Nat) : Int) := by omega
        have w2 : IntKind.i64.wrap ((i - j : Nat) : Int) = ((i - j : Nat) : Int) := by rw [IntKind.wrap_i64]; omega
        go_wp2_with (go_at_call 69; (first | rw [z1] | skip); (first | rw [w1] | skip); (rw [← hsk]; with_reducible refine (hc _ S1.out (by omega) (by omega) (by omega)).mono ?_); rintro e w' ⟨rfl, S2⟩)
        go_roundg (i - j + j)
        case measure => omega
        case rel => exact ⟨i - j, j, swr dk (m - i) m j, by go_num, rfl, by omega, hj, by omega, hjm, Nat.le_refl _, (size_swr ..).trans hsk, S2, (show _ = _ from by rw [← HR.out]; exact rot_more dk m i j hgt him (by omega))⟩
      · have hc := fun w => swapRange g cb blk off cap (m - i) (m + j - i) i d0 dk w0 w R (by omega)
        have z2 : (j : Int) - (i : Int) = ((j - i : Nat) : Int) := by omega
        have z3 : (m : Int) + (j : Int) - (i : Int) = ((m + j - i : Nat) : Int) := by omega
        go_wp2_with (go_at_call 69; (first | rw [z1] | skip); (first | rw [w1] | skip); (first | rw [z3] | skip); (rw [← hsk]; with_reducible refine (hc _ S1.out (by omega) (by omega) (by omega)).mono ?_); rintro e w' ⟨rfl, S2⟩)
        go_roundg (i + (j - i))
        case measure => omega
        case rel => exact ⟨i, j - i, swr dk (m - i) (m + j - i) i, rfl, by go_num, hi, by omega, him, by omega, Nat.le_refl _, (size_swr ..).trans hsk, S2, (show _ = _ from by rw [← HR.out]; exact rot_less dk m i j (by omega) him (by omega))⟩

end Go.Proofs.Ytoepfkmeglnnaaa.Stb
