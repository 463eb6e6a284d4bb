/- Go's stable sort at ints: the walk of symMerge. -/
import Derived.Test.YtoepfkmeglnnaaaStw0
import Derived.Test.YtoepfkmeglnnaaaStw1
namespace Go.Proofs.Ytoepfkmeglnnaaa.Stb
open Go.Shelf Go.RowKit Go.Lib Go.Sort Go.Proofs

theorem rotate' {N : Nat} (g : Nat) (cb : Array Value) (blk off cap a m b n : Nat) (d0 d : Array (Ix N)) (w0 w : World) (hn : d.size = n)
    (R : Row1 (E N) w0 blk off d0) (hs : d0.size = n) (S : SW (E N) w0 blk off d w) (ham : a < m) (hmb : m < b) (hb : b ≤ n) (hsz : n < 1152921504606846976) :
    Calls Try.prog 68 #[.slice (some ⟨blk, off, none⟩) n cap, .int .i64 a, .int .i64 m, .int .i64 b, .func (.func g) #[] cb] w fun e w' => e = .returned (.tuple #[]) ∧ SW (E N) w0 blk off (rot d a m b) w' := by
  subst hn; exact rotate g cb blk off cap a m b d0 d w0 w R hs S ham hmb hb hsz

theorem lt_or_eq (a b : Nat) (h : a ≤ b) : a < b ∨ a = b := Nat.lt_or_eq_of_le h

/-- What symMerge says at runs no longer than k. -/
def Merges {N : Nat} (cf : Ix N → Ix N → Int) (g : Nat) (cb : Array Value) (blk off cap n : Nat) (w0 : World) (k : Nat) : Prop :=
  ∀ (a m b : Nat) (d : Array (Ix N)) (w : World), b - a ≤ k → d.size = n → SW (E N) w0 blk off d w → a < m → m < b → b ≤ n → SortedIn (ltOf cf) a m d → SortedIn (ltOf cf) m b d →
    Calls Try.prog 66 #[.slice (some ⟨blk, off, none⟩) n cap, .int .i64 a, .int .i64 m, .int .i64 b, .func (.func g) #[] cb] w fun e w' => e = .returned (.tuple #[]) ∧ ∃ d', Put (ltOf cf) a b d d' ∧ SortedIn (ltOf cf) a b d' ∧ SW (E N) w0 blk off d' w'

set_option maxHeartbeats 16000000 in
set_option maxRecDepth 1000000 in
theorem merge_up {N : Nat} (cf : Ix N → Ix N → Int) (hS : SWO (ltOf cf)) (g : Nat) (cb : Array Value) (blk off cap n : Nat) (d0 : Array (Ix N)) (w0 : World)
    (eg : ∀ args w, (callFunc g args).run Try.prog w = .ok (.enter g args) w) (hcmp : CmpLays1 Try.prog g cb (E N) cf blk off d0.size w0) (R : Row1 (E N) w0 blk off d0) (hn0 : d0.size = n) (hsz : n < 1152921504606846976)
    (a m b : Nat) (d : Array (Ix N)) (w : World) (hn : d.size = n) (S : SW (E N) w0 blk off d w) (ham1 : a < m) (ham2 : m ≤ a + 1) (hmb : m < b) (hb : b ≤ n) (h2 : SortedIn (ltOf cf) m b d) :
    Calls Try.prog 66 #[.slice (some ⟨blk, off, none⟩) n cap, .int .i64 a, .int .i64 m, .int .i64 b, .func (.func g) #[] cb] w fun e w' => e = .returned (.tuple #[]) ∧ ∃ d', Put (ltOf cf) a b d d' ∧ SortedIn (ltOf cf) a b d' ∧ SW (E N) w0 blk off d' w' := by
  have mixed : Try.prog.follows Departure.mixedOrders = true := by decide
  have HC : Aside _ := hcmp
  have S0 : Aside (SW (E N) w0 blk off d w) := S
  have OUT : Aside (∀ i, m ≤ i → i ≤ b → (∀ k, m ≤ k → k < i → ltOf cf d[k]! d[a]! = true) → (∀ k, i ≤ k → k < b → ltOf cf d[k]! d[a]! = false) → Put (ltOf cf) a b d (rot d a (a + 1) i) ∧ SortedIn (ltOf cf) a b (rot d a (a + 1) i)) :=
    fun i i1 i2 i3 i4 => one_up hS d a b i (by omega) i2 (by omega) (by rw [show a + 1 = m by omega]; exact h2) (fun k k1 k2 => i3 k (by omega) k2) i4
  have H2 : Aside _ := h2
  clear S hcmp h2
  have hc1 : (m : Int) - (a : Int) = 1 := by omega
  go_enter Try.func66, Try.ntmps66
  go_wp2
  clear hc1
  go_loopg [10, 11] (b - m) (fun g1 vi vj wr => ∃ (i j : Nat), vi = .int .i64 i ∧ vj = .int .i64 j ∧ m ≤ i ∧ i ≤ j ∧ j ≤ b ∧ j - i ≤ g1 ∧ Aside (SW (E N) w0 blk off d wr) ∧ Aside (∀ k, m ≤ k → k < i → ltOf cf d[k]! d[a]! = true) ∧ Aside (∀ k, j ≤ k → k < b → ltOf cf d[k]! d[a]! = false))
  case atStart => exact ⟨m, b, rfl, rfl, Nat.le_refl _, by omega, Nat.le_refl _, Nat.le_refl _, S0, fun k k1 k2 => by omega, fun k k1 k2 => by omega⟩
  case round =>
    clear S0
    obtain ⟨i, j, rfl, rfl, hmi, hij, hjb, hg1, S1, LO, HI⟩ := hrel
    by_cases hlt : i < j
    · have hltz : (i : Int) < (j : Int) := by omega
      go_wp2_with fail
      obtain ⟨h, hh⟩ : ∃ h : Nat, h = (i + j) / 2 := ⟨_, rfl⟩
      have zh : ((i : Int) + (j : Int)) / 2 = (h : Int) := by omega
      have hh1 : i ≤ h := by omega
      have hh2 : h < j := by omega
      rw [zh]
      clear zh hh
      obtain ⟨iN, hiN⟩ : ∃ q, q = h := ⟨_, rfl⟩
      obtain ⟨jN, hjN⟩ : ∃ q, q = a := ⟨_, rfl⟩
      have ea : ((h : Int)).toNat = iN := by omega
      have pa : (0 : Int) ≤ (h : Int) := by omega
      have ba : (h : Int) < (n : Int) := by omega
      have ec : ((a : Int)).toNat = jN := by omega
      have pc : (0 : Int) ≤ (a : Int) := by omega
      have bc : (a : Int) < (n : Int) := by omega
      obtain ⟨x, hx⟩ : ∃ x, x = d[h]! := ⟨_, rfl⟩
      obtain ⟨y, hy⟩ : ∃ x, x = d[a]! := ⟨_, rfl⟩
      have la := S1.out.cl R (by omega) h (by omega)
      have lb := S1.out.cl R (by omega) a (by omega)
      rw [← hx, ← hiN] at la
      rw [← hy, ← hjN] at lb
      have hc := S1.out.cmp HC.out (by omega) x y
      cases hlv : ltOf cf d[h]! d[a]! with
      | true =>
        have hv : cf x y < 0 := by rw [hx, hy]; exact of_decide_eq_true hlv
        have hd : decide (cf x y < 0) = true := decide_eq_true hv
        clear hx hy hiN hjN
        go_quiet_grown (first | (go_at_fn g; refine Calls.grown_of (hc _ _)))
        have S2 : Aside (SW (E N) w0 blk off d (grow (wr.drewN nq) osq)) := S1.out.grown nq osq
        clear la lb hc S1
        generalize grow (wr.drewN nq) osq = w2 at S2 ⊢
        clear nq osq ea ec
        go_wp2
        go_roundg (j - (h + 1))
        case measure => omega
        case rel => exact ⟨h + 1, j, by first | rfl | go_num, rfl, by omega, by omega, hjb, Nat.le_refl _, S2, fun k k1 k2 => (lt_or_eq k h (by omega)).elim (fun c => le_lt hS (sorted_le hS H2.out k h k1 (by omega) (by omega)) hlv) (fun c => by rw [c]; exact hlv), HI⟩
      | false =>
        have hv : ¬ cf x y < 0 := by rw [hx, hy]; exact of_decide_eq_false hlv
        have hd : decide (cf x y < 0) = false := decide_eq_false hv
        clear hx hy hiN hjN
        go_quiet_grown (first | (go_at_fn g; refine Calls.grown_of (hc _ _)))
        have S2 : Aside (SW (E N) w0 blk off d (grow (wr.drewN nq) osq)) := S1.out.grown nq osq
        clear la lb hc S1
        generalize grow (wr.drewN nq) osq = w2 at S2 ⊢
        clear nq osq ea ec
        go_wp2
        go_roundg (h - i)
        case measure => omega
        case rel => exact ⟨i, h, rfl, by first | rfl | go_num, hmi, hh1, by omega, Nat.le_refl _, S2, LO, fun k k1 k2 => hS.ntrans _ _ _ (sorted_le hS H2.out h k (by omega) k1 (by omega)) hlv⟩
    · have hji : j = i := by omega
      subst hji
      have HP := OUT.out j hmi hjb LO.out HI.out
      have HO : Aside _ := HP
      clear HP OUT LO HI H2 hlt
      have zj1 : IntKind.i64.wrap ((j : Int) - 1) = (j : Int) - 1 := by rw [IntKind.wrap_i64]; omega
      go_wp2
      go_loopg [13] (j - a) (fun g1 vk wr => ∃ (k : Nat), vk = .int .i64 k ∧ a ≤ k ∧ k + 1 ≤ j ∧ j - k ≤ g1 ∧ Aside (SW (E N) w0 blk off (rot d a (a + 1) (k + 1)) wr))
      case atStart => exact ⟨a, rfl, Nat.le_refl _, by omega, Nat.le_refl _, by rw [rot_none d a (a + 1) (a + 1) (Or.inr rfl) (by omega) (by omega) (Nat.le_refl _)]; exact S1⟩
      case round =>
        clear S1
        obtain ⟨k, rfl, hak, hkj, hg1, S1⟩ := hrel
        by_cases hkl : k + 1 < j
        · have hltz : (k : Int) < (j : Int) - 1 := by omega
          obtain ⟨dk, hdk⟩ : ∃ q, q = rot d a (a + 1) (k + 1) := ⟨_, rfl⟩
          have zs : dk.size = n := by rw [hdk, size_rot, hn]
          obtain ⟨iN, hiN⟩ : ∃ q, q = k := ⟨_, rfl⟩
          obtain ⟨jN, hjN⟩ : ∃ q, q = k + 1 := ⟨_, rfl⟩
          have ea : ((k : Int)).toNat = iN := by omega
          have pa : (0 : Int) ≤ (k : Int) := by omega
          have ba : (k : Int) < (n : Int) := by omega
          have ec : ((k : Int) + 1).toNat = jN := by omega
          have pc : (0 : Int) ≤ (k : Int) + 1 := by omega
          have bc : (k : Int) + 1 < (n : Int) := by omega
          have rc : IntKind.i64.wrap ((k : Int) + 1) = (k : Int) + 1 := by rw [IntKind.wrap_i64]; omega
          rw [← hdk] at S1
          obtain ⟨x, hx⟩ : ∃ x, x = dk[iN]! := ⟨_, rfl⟩
          obtain ⟨y, hy⟩ : ∃ x, x = dk[jN]! := ⟨_, rfl⟩
          have S3 : Aside (SW (E N) w0 blk off (swp dk iN jN) ((wr.setCell ⟨blk, off + iN, none⟩ (.int .i64 y)).setCell ⟨blk, off + jN, none⟩ (.int .i64 x)).drew) := by rw [hx, hy]; exact S1.out.swapped R iN jN (by omega) (by omega)
          have c1a := S1.out.c1 R (by omega) iN (by omega)
          have c1b := S1.out.c1 R (by omega) jN (by omega)
          have f1a := S1.out.f1 R (by omega) iN (by omega)
          have f1b := S1.out.f1 R (by omega) jN (by omega)
          obtain ⟨u1, c1c⟩ := S1.out.c2 R (by omega) iN jN (by omega) (by omega) (.int .i64 y)
          rw [← hx] at c1a
          rw [← hy] at c1b
          have hnext : swp dk iN jN = rot d a (a + 1) (k + 1 + 1) := by rw [hdk, hiN, hjN]; exact rot_up d a k hak (by omega)
          rw [hnext] at S3
          clear S1 hx hy hiN hjN hdk hnext
          go_wp2_with fail
          go_big_region_o
          clear c1a c1b c1c f1a f1b
          generalize ((wr.setCell ⟨blk, off + iN, none⟩ (.int .i64 y)).setCell ⟨blk, off + jN, none⟩ (.int .i64 x)).drew = w3 at S3 ⊢
          clear ea ec
          go_wp2
          go_roundg (j - (k + 1))
          case measure => omega
          case rel => exact ⟨k + 1, by first | rfl | go_num, by omega, by omega, Nat.le_refl _, S3⟩
        · have hltz : ¬ (k : Int) < (j : Int) - 1 := by omega
          rw [show k + 1 = j by omega] at S1
          go_wp2
          refine bodyPost_ret (results_none rfl _ _ _) rfl ?_
          exact ⟨rfl, _, HO.out.1, HO.out.2, S1.out⟩

end Go.Proofs.Ytoepfkmeglnnaaa.Stb
