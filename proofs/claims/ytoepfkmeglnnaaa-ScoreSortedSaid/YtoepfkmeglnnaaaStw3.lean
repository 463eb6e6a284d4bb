/- Go's stable sort at ints: the walk of symMerge where the second run is of one. -/
import Derived.Test.YtoepfkmeglnnaaaStw0
import Derived.Test.YtoepfkmeglnnaaaStw1
namespace Go.Proofs.Ytoepfkmeglnnaaa.Stb
open Go.Shelf Go.RowKit Go.Lib Go.Sort Go.Proofs

theorem lt_or_eq' (a b : Nat) (h : a ≤ b) : a < b ∨ a = b := Nat.lt_or_eq_of_le h

set_option maxHeartbeats 16000000 in
set_option maxRecDepth 1000000 in
theorem merge_down {N : Nat} (cf : Ix N → Ix N → Int) (hS : SWO (ltOf cf)) (g : Nat) (cb : Array Value) (blk off cap n : Nat) (d0 : Array (Ix N)) (w0 : World)
    (eg : ∀ args w, (callFunc g args).run Try.prog w = .ok (.enter g args) w) (hcmp : CmpLays1 Try.prog g cb (E N) cf blk off d0.size w0) (R : Row1 (E N) w0 blk off d0) (hn0 : d0.size = n) (hsz : n < 1152921504606846976)
    (a m b : Nat) (d : Array (Ix N)) (w : World) (hn : d.size = n) (S : SW (E N) w0 blk off d w) (ham : a + 1 < m) (hmb1 : m < b) (hmb2 : b ≤ m + 1) (hb : b ≤ n) (h2 : SortedIn (ltOf cf) a m d) :
    Calls Try.prog 66 #[.slice (some ⟨blk, off, none⟩) n cap, .int .i64 a, .int .i64 m, .int .i64 b, .func (.func g) #[] cb] w fun e w' => e = .returned (.tuple #[]) ∧ ∃ d', Put (ltOf cf) a b d d' ∧ SortedIn (ltOf cf) a b d' ∧ SW (E N) w0 blk off d' w' := by
  have mixed : Try.prog.follows Departure.mixedOrders = true := by decide
  have HC : Aside _ := hcmp
  have S0 : Aside (SW (E N) w0 blk off d w) := S
  have OUT : Aside (∀ i, a ≤ i → i ≤ m → (∀ k, a ≤ k → k < i → ltOf cf d[m]! d[k]! = false) → (∀ k, i ≤ k → k < m → ltOf cf d[m]! d[k]! = true) → Put (ltOf cf) a b d (rot d i m (m + 1)) ∧ SortedIn (ltOf cf) a b (rot d i m (m + 1))) :=
    fun i i1 i2 i3 i4 => by
      have := one_down hS d a m i i1 i2 (by omega) h2 i3 i4
      rwa [show m + 1 = b by omega] at this ⊢
  have H2 : Aside _ := h2
  clear S hcmp h2
  have hc0 : ((m : Int) - (a : Int) == 1) = false := beq_eq_false_iff_ne.mpr (by omega)
  have hc1 : (b : Int) - (m : Int) = 1 := by omega
  go_enter Try.func66, Try.ntmps66
  go_wp2
  clear hc1 hc0
  go_loopg [14, 15] (m - a) (fun g1 vi vj wr => ∃ (i j : Nat), vi = .int .i64 i ∧ vj = .int .i64 j ∧ a ≤ i ∧ i ≤ j ∧ j ≤ m ∧ j - i ≤ g1 ∧ Aside (SW (E N) w0 blk off d wr) ∧ Aside (∀ k, a ≤ k → k < i → ltOf cf d[m]! d[k]! = false) ∧ Aside (∀ k, j ≤ k → k < m → ltOf cf d[m]! d[k]! = true))
  case atStart => exact ⟨a, m, rfl, rfl, Nat.le_refl _, by omega, Nat.le_refl _, Nat.le_refl _, S0, fun k k1 k2 => by omega, fun k k1 k2 => by omega⟩
  case round =>
    clear S0
    obtain ⟨i, j, rfl, rfl, hmi, hij, hjb, hg1, S1, LO, HI⟩ := hrel
    by_cases hlt : i < j
    · have hltz : (i : Int) < (j : Int) := by omega
      go_wp2_with fail
      obtain ⟨h, hh⟩ : ∃ h : Nat, h = (i + j) / 2 := ⟨_, rfl⟩
      have zh : ((i : Int) + (j : Int)) / 2 = (h : Int) := by omega
      have hh1 : i ≤ h := by omega
      have hh2 : h < j := by omega
      rw [zh]
      clear zh hh
      obtain ⟨iN, hiN⟩ : ∃ q, q = m := ⟨_, rfl⟩
      obtain ⟨jN, hjN⟩ : ∃ q, q = h := ⟨_, rfl⟩
      have ea : ((m : Int)).toNat = iN := by omega
      have pa : (0 : Int) ≤ (m : Int) := by omega
      have ba : (m : Int) < (n : Int) := by omega
      have ec : ((h : Int)).toNat = jN := by omega
      have pc : (0 : Int) ≤ (h : Int) := by omega
      have bc : (h : Int) < (n : Int) := by omega
      obtain ⟨x, hx⟩ : ∃ x, x = d[m]! := ⟨_, rfl⟩
      obtain ⟨y, hy⟩ : ∃ x, x = d[h]! := ⟨_, rfl⟩
      have la := S1.out.cl R (by omega) m (by omega)
      have lb := S1.out.cl R (by omega) h (by omega)
      rw [← hx, ← hiN] at la
      rw [← hy, ← hjN] at lb
      have hc := S1.out.cmp HC.out (by omega) x y
      cases hlv : ltOf cf d[m]! d[h]! with
      | true =>
        have hv : cf x y < 0 := by rw [hx, hy]; exact of_decide_eq_true hlv
        have hd : decide (cf x y < 0) = true := decide_eq_true hv
        clear hx hy hiN hjN
        go_quiet_grown (first | (go_at_fn g; refine Calls.grown_of (hc _ _)))
        have S2 : Aside (SW (E N) w0 blk off d (grow (wr.drewN nq) osq)) := S1.out.grown nq osq
        clear la lb hc S1
        generalize grow (wr.drewN nq) osq = w2 at S2 ⊢
        clear nq osq ea ec
        go_wp2
        go_roundg (h - i)
        case measure => omega
        case rel => exact ⟨i, h, rfl, by first | rfl | go_num, hmi, hh1, by omega, Nat.le_refl _, S2, LO, fun k k1 k2 => lt_le hS hlv (sorted_le hS H2.out h k (by omega) k1 (by omega))⟩
      | false =>
        have hv : ¬ cf x y < 0 := by rw [hx, hy]; exact of_decide_eq_false hlv
        have hd : decide (cf x y < 0) = false := decide_eq_false hv
        clear hx hy hiN hjN
        go_quiet_grown (first | (go_at_fn g; refine Calls.grown_of (hc _ _)))
        have S2 : Aside (SW (E N) w0 blk off d (grow (wr.drewN nq) osq)) := S1.out.grown nq osq
        clear la lb hc S1
        generalize grow (wr.drewN nq) osq = w2 at S2 ⊢
        clear nq osq ea ec
        go_wp2
        go_roundg (j - (h + 1))
        case measure => omega
        case rel => exact ⟨h + 1, j, by first | rfl | go_num, rfl, by omega, by omega, hjb, Nat.le_refl _, S2, fun k k1 k2 => hS.ntrans _ _ _ hlv (sorted_le hS H2.out k h k1 (by omega) (by omega)), HI⟩
    · obtain rfl : j = i := by omega
      have HP := OUT.out j hmi hjb LO.out HI.out
      have HO : Aside _ := HP
      clear HP OUT LO HI H2 hlt
      go_wp2
      go_loopg [17] (m - j) (fun g1 vk wr => ∃ (k : Nat), vk = .int .i64 k ∧ j ≤ k ∧ k ≤ m ∧ k - j ≤ g1 ∧ Aside (SW (E N) w0 blk off (rot d k m (m + 1)) wr))
      case atStart => exact ⟨m, rfl, hjb, Nat.le_refl _, Nat.le_refl _, by rw [rot_none d m m (m + 1) (Or.inl rfl) (by omega) (Nat.le_refl _) (by omega)]; exact S1⟩
      case round =>
        clear S1
        obtain ⟨k, rfl, hjk, hkm, hg1, S1⟩ := hrel
        by_cases hkl : j < k
        · obtain ⟨kp, rfl⟩ : ∃ q, k = q + 1 := ⟨k - 1, by omega⟩
          have hltz : (j : Int) < (kp : Int) + 1 := by omega
          obtain ⟨dk, hdk⟩ : ∃ q, q = rot d (kp + 1) m (m + 1) := ⟨_, rfl⟩
          have zs : dk.size = n := by rw [hdk, size_rot, hn]
          obtain ⟨iN, hiN⟩ : ∃ q, q = kp + 1 := ⟨_, rfl⟩
          obtain ⟨jN, hjN⟩ : ∃ q, q = kp := ⟨_, rfl⟩
          have ea : ((kp : Int) + 1).toNat = iN := by omega
          have pa : (0 : Int) ≤ (kp : Int) + 1 := by omega
          have ba : (kp : Int) + 1 < (n : Int) := by omega
          have ra : IntKind.i64.wrap ((kp : Int) + 1) = (kp : Int) + 1 := by rw [IntKind.wrap_i64]; omega
          have ec : ((kp : Int)).toNat = jN := by omega
          have pc : (0 : Int) ≤ (kp : Int) := by omega
          have bc : (kp : Int) < (n : Int) := by omega
          have rc : IntKind.i64.wrap ((kp : Int)) = (kp : Int) := by rw [IntKind.wrap_i64]; omega
          rw [← hdk] at S1
          obtain ⟨x, hx⟩ : ∃ x, x = dk[iN]! := ⟨_, rfl⟩
          obtain ⟨y, hy⟩ : ∃ x, x = dk[jN]! := ⟨_, rfl⟩
          have S3 : Aside (SW (E N) w0 blk off (swp dk iN jN) ((wr.setCell ⟨blk, off + iN, none⟩ (.int .i64 y)).setCell ⟨blk, off + jN, none⟩ (.int .i64 x)).drew) := by rw [hx, hy]; exact S1.out.swapped R iN jN (by omega) (by omega)
          have c1a := S1.out.c1 R (by omega) iN (by omega)
          have c1b := S1.out.c1 R (by omega) jN (by omega)
          have f1a := S1.out.f1 R (by omega) iN (by omega)
          have f1b := S1.out.f1 R (by omega) jN (by omega)
          obtain ⟨u1, c1c⟩ := S1.out.c2 R (by omega) iN jN (by omega) (by omega) (.int .i64 y)
          rw [← hx] at c1a
          rw [← hy] at c1b
          have hnext : swp dk iN jN = rot d kp m (m + 1) := by rw [hdk, hiN, hjN]; exact rot_down d m kp (by omega) (by omega)
          rw [hnext] at S3
          clear S1 hx hy hiN hjN hdk hnext
          go_wp2_with fail
          go_big_region_o
          clear c1a c1b c1c f1a f1b
          generalize ((wr.setCell ⟨blk, off + iN, none⟩ (.int .i64 y)).setCell ⟨blk, off + jN, none⟩ (.int .i64 x)).drew = w3 at S3 ⊢
          clear ea ec
          go_wp2
          go_roundg (kp - j)
          case measure => omega
          case rel => exact ⟨kp, by first | rfl | go_num | (congr 1; omega), by omega, by omega, Nat.le_refl _, S3⟩
        · have hltz : ¬ (j : Int) < (k : Int) := by omega
          obtain rfl : k = j := by omega
          go_wp2
          refine bodyPost_ret (results_none rfl _ _ _) rfl ?_
          exact ⟨rfl, _, HO.out.1, HO.out.2, S1.out⟩

end Go.Proofs.Ytoepfkmeglnnaaa.Stb
