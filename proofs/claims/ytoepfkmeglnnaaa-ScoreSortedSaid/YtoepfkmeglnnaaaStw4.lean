/- Go's stable sort at ints: the walk of symMerge where both runs are longer than one. -/
import Derived.Test.YtoepfkmeglnnaaaStw2
import Derived.Test.YtoepfkmeglnnaaaStw3
namespace Go.Proofs.Ytoepfkmeglnnaaa.Stb
open Go.Shelf Go.RowKit Go.Lib Go.Sort Go.Proofs

theorem three (p q : Prop) : (p ∧ q) ∨ (p ∧ ¬ q) ∨ ¬ p := by
  by_cases hp : p
  · by_cases hq : q
    · exact Or.inl ⟨hp, hq⟩
    · exact Or.inr (Or.inl ⟨hp, hq⟩)
  · exact Or.inr (Or.inr hp)

/-- What is left to do once the cut is found. -/
structure Cut {N : Nat} (cf : Ix N → Ix N → Int) (g : Nat) (cb : Array Value) (blk off cap n : Nat) (w0 : World) (a m b mid s e : Nat) (d : Array (Ix N)) : Prop where
  he : e + s = mid + m
  sm : s ≤ m
  smid : s ≤ mid
  as_ : a ≤ s
  me : m ≤ e
  mide : mid ≤ e
  eb : e ≤ b
  rotd : s < m → m < e → ∀ w, SW (E N) w0 blk off d w → Calls Try.prog 68 #[.slice (some ⟨blk, off, none⟩) n cap, .int .i64 s, .int .i64 m, .int .i64 e, .func (.func g) #[] cb] w fun e_ w' => e_ = .returned (.tuple #[]) ∧ SW (E N) w0 blk off (Stb.rot d s m e) w'
  norot : ¬ (s < m ∧ m < e) → Stb.rot d s m e = d
  left : a < s → s < mid → ∀ w, SW (E N) w0 blk off (Stb.rot d s m e) w → Calls Try.prog 66 #[.slice (some ⟨blk, off, none⟩) n cap, .int .i64 a, .int .i64 s, .int .i64 mid, .func (.func g) #[] cb] w fun e_ w' => e_ = .returned (.tuple #[]) ∧ ∃ d', (Put (ltOf cf) a mid (Stb.rot d s m e) d' ∧ SortedIn (ltOf cf) a mid d') ∧ SW (E N) w0 blk off d' w'
  noleft : ¬ (a < s ∧ s < mid) → Put (ltOf cf) a mid (Stb.rot d s m e) (Stb.rot d s m e) ∧ SortedIn (ltOf cf) a mid (Stb.rot d s m e)
  right : ∀ d', Put (ltOf cf) a mid (Stb.rot d s m e) d' ∧ SortedIn (ltOf cf) a mid d' → mid < e → e < b → ∀ w, SW (E N) w0 blk off d' w → Calls Try.prog 66 #[.slice (some ⟨blk, off, none⟩) n cap, .int .i64 mid, .int .i64 e, .int .i64 b, .func (.func g) #[] cb] w fun e_ w' => e_ = .returned (.tuple #[]) ∧ ∃ d'', (Put (ltOf cf) a b d d'' ∧ SortedIn (ltOf cf) a b d'') ∧ SW (E N) w0 blk off d'' w'
  noright : ∀ d', Put (ltOf cf) a mid (Stb.rot d s m e) d' ∧ SortedIn (ltOf cf) a mid d' → ¬ (mid < e ∧ e < b) → Put (ltOf cf) a b d d' ∧ SortedIn (ltOf cf) a b d'

theorem cut_of {N : Nat} (cf : Ix N → Ix N → Int) (hS : SWO (ltOf cf)) (g : Nat) (cb : Array Value) (blk off cap n : Nat) (d0 : Array (Ix N)) (w0 : World) (R : Row1 (E N) w0 blk off d0) (hn0 : d0.size = n) (hsz : n < 1152921504606846976)
    (k : Nat) (ih : Merges cf g cb blk off cap n w0 k) (a m b mid s : Nat) (d : Array (Ix N)) (hn : d.size = n) (hk : b - a ≤ k + 1) (ham : a < m) (hmb : m < b) (hb : b ≤ n) (hmid1 : a + b ≤ 2 * mid + 1) (hmid2 : 2 * mid ≤ a + b)
    (h1 : SortedIn (ltOf cf) a m d) (h2 : SortedIn (ltOf cf) m b d) (hs1 : a ≤ s) (hs2 : s ≤ m) (hs3 : s ≤ mid) (hs4 : mid + m ≤ b + s)
    (hlo : a < s → mid + m - s < b → ltOf cf d[mid + m - s]! d[s - 1]! = false) (hhi : s < m → m < mid + m - s → ltOf cf d[mid + m - s - 1]! d[s]! = true) :
    Cut cf g cb blk off cap n w0 a m b mid s (mid + m - s) d := by
  have hmid : a ≤ mid := by omega
  have hmb2 : mid ≤ b := by omega
  obtain ⟨P, S1, S2, S3, S4, X⟩ := sym hS d a m b s mid hs1 hs2 hs3 (by omega) (by omega) hmid hmb2 h1 h2 hlo hhi
  obtain ⟨e, he⟩ : ∃ e, e = mid + m - s := ⟨_, rfl⟩
  rw [← he] at P S1 S2 S3 S4 X ⊢
  have zr : (rot d s m e).size = n := by rw [size_rot, hn]
  have fin : ∀ d' d'', Put (ltOf cf) a mid (rot d s m e) d' ∧ SortedIn (ltOf cf) a mid d' → Put (ltOf cf) mid b d' d'' → SortedIn (ltOf cf) mid b d'' → Put (ltOf cf) a b d d'' ∧ SortedIn (ltOf cf) a b d'' := by
    intro d' d'' hp hq hr
    have := halves hS (rot d s m e) d' d'' a mid b hmid hmb2 (by omega) X hp.1 hp.2 hq hr
    exact ⟨P.trans this.1, this.2⟩
  have keep : ∀ d' x y, Put (ltOf cf) a mid (rot d s m e) d' → mid ≤ x → SortedIn (ltOf cf) x y (rot d s m e) → SortedIn (ltOf cf) x y d' :=
    fun d' x y hp hx hy => Stb.SortedIn.off hy fun i i1 i2 => hp.off i (Or.inr (by omega))
  refine ⟨by omega, hs2, hs3, hs1, by omega, by omega, by omega, ?_, ?_, ?_, ?_, ?_, ?_⟩
  · intro c1 c2 w hw
    exact rotate' g cb blk off cap s m e n d0 d w0 w hn R hn0 hw c1 c2 (by omega) hsz
  · intro c
    exact rot_none d s m e (by omega) (by omega) hs2 (by omega)
  · intro c1 c2 w hw
    refine (ih a s mid _ w (by omega) zr hw c1 c2 (by omega) S1 S2).mono ?_
    rintro e_ w' ⟨rfl, d', p1, p2, p3⟩
    exact ⟨rfl, d', ⟨p1, p2⟩, p3⟩
  · intro c
    refine ⟨Put.refl _ _ _, ?_⟩
    rcases Nat.lt_or_ge a s with c1 | c1
    · rw [show mid = s by omega]; exact S1
    · rw [show a = s by omega]; exact S2
  · intro d' hp c1 c2 w hw
    refine (ih mid e b d' w (by omega) (by rw [hp.1.size]; exact zr) hw c1 c2 hb (keep d' _ _ hp.1 (Nat.le_refl _) S3) (keep d' _ _ hp.1 (by omega) S4)).mono ?_
    rintro e_ w' ⟨rfl, d'', p1, p2, p3⟩
    exact ⟨rfl, d'', fin d' d'' hp p1 p2, p3⟩
  · intro d' hp c
    refine fin d' d' hp (Put.refl _ _ _) ?_
    rcases Nat.lt_or_ge mid e with c1 | c1
    · rw [show b = e by omega]; exact keep d' _ _ hp.1 (Nat.le_refl _) S3
    · have : mid = e := by omega
      rw [this]; exact keep d' _ _ hp.1 (by omega) S4

set_option maxHeartbeats 16000000 in
set_option maxRecDepth 1000000 in
theorem merge_mid {N : Nat} (cf : Ix N → Ix N → Int) (hS : SWO (ltOf cf)) (g : Nat) (cb : Array Value) (blk off cap n : Nat) (d0 : Array (Ix N)) (w0 : World)
    (eg : ∀ args w, (callFunc g args).run Try.prog w = .ok (.enter g args) w) (hcmp : CmpLays1 Try.prog g cb (E N) cf blk off d0.size w0) (R : Row1 (E N) w0 blk off d0) (hn0 : d0.size = n) (hsz : n < 1152921504606846976)
    (kk : Nat) (ih : Merges cf g cb blk off cap n w0 kk)
    (a m b : Nat) (d : Array (Ix N)) (w : World) (hkk : b - a ≤ kk + 1) (hn : d.size = n) (S : SW (E N) w0 blk off d w) (ham : a + 1 < m) (hmb : m + 1 < b) (hb : b ≤ n) (h1 : SortedIn (ltOf cf) a m d) (h2 : SortedIn (ltOf cf) m b d) :
    Calls Try.prog 66 #[.slice (some ⟨blk, off, none⟩) n cap, .int .i64 a, .int .i64 m, .int .i64 b, .func (.func g) #[] cb] w fun e w' => e = .returned (.tuple #[]) ∧ ∃ d', Put (ltOf cf) a b d d' ∧ SortedIn (ltOf cf) a b d' ∧ SW (E N) w0 blk off d' w' := by
  have mixed : Try.prog.follows Departure.mixedOrders = true := by decide
  have HC : Aside _ := hcmp
  have S0 : Aside (SW (E N) w0 blk off d w) := S
  obtain ⟨mid, hmidE⟩ : ∃ q, q = (a + b) / 2 := ⟨_, rfl⟩
  have hm1 : a + b ≤ 2 * mid + 1 := by omega
  have hm2 : 2 * mid ≤ a + b := by omega
  have zmid : ((a : Int) + (b : Int)) / 2 = (mid : Int) := by omega
  clear hmidE
  have CUT := fun s => cut_of cf hS g cb blk off cap n d0 w0 R hn0 hsz kk ih a m b mid s d hn hkk (by omega) (by omega) hb hm1 hm2 h1 h2
  have C0 : Aside _ := CUT
  clear S hcmp h1 h2 CUT ih hkk
  have hc0 : ((m : Int) - (a : Int) == 1) = false := beq_eq_false_iff_ne.mpr (by omega)
  have hc1 : ((b : Int) - (m : Int) == 1) = false := beq_eq_false_iff_ne.mpr (by omega)
  obtain ⟨s0, r0, hsr⟩ : ∃ s0 r0 : Nat, (mid < m ∧ (mid : Int) + (m : Int) - (b : Int) = (s0 : Int) ∧ r0 = mid) ∨ (m ≤ mid ∧ s0 = a ∧ r0 = m) := by
    by_cases c : mid < m
    · exact ⟨mid + m - b, mid, Or.inl ⟨c, by omega, rfl⟩⟩
    · exact ⟨a, m, Or.inr ⟨by omega, rfl, rfl⟩⟩
  have b1 : a ≤ s0 := by omega
  have b2 : s0 ≤ r0 := by omega
  have b3 : r0 ≤ m := by omega
  have b4 : r0 ≤ mid := by omega
  have b5 : mid + m ≤ b + s0 := by omega
  have b6 : a < s0 → mid + m = b + s0 := by omega
  have b7 : r0 < m → r0 = mid := by omega
  have B6 : Aside _ := b6
  have B7 : Aside _ := b7
  clear b6 b7
  go_enter Try.func66, Try.ntmps66
  rcases hsr with ⟨hgt, zs0, hr0⟩ | ⟨hgt, hs0, hr0⟩
  · have hgtz : (mid : Int) < (m : Int) := by omega
    subst r0
    go_wp2
    clear zmid hc0 hc1 zs0
    go_loopg [20, 21] (mid - s0) (fun g1 vi vj wr => ∃ (s r : Nat), vi = .int .i64 s ∧ vj = .int .i64 r ∧ s0 ≤ s ∧ s ≤ r ∧ r ≤ mid ∧ r - s ≤ g1 ∧ Aside (SW (E N) w0 blk off d wr) ∧ Aside (s0 < s → ltOf cf d[mid + m - s]! d[s - 1]! = false) ∧ Aside (r < mid → ltOf cf d[mid + m - 1 - r]! d[r]! = true))
    case atStart => exact ⟨s0, mid, rfl, rfl, Nat.le_refl _, b2, Nat.le_refl _, Nat.le_refl _, S0, fun k => by omega, fun k => by omega⟩
    case round =>
      clear S0
      obtain ⟨s, r, rfl, rfl, hss, hsr, hrr, hg1, S1, LO, HI⟩ := hrel
      by_cases hlt : s < r
      · have hltz : (s : Int) < (r : Int) := by omega
        go_wp2_with fail
        obtain ⟨c, hcE⟩ : ∃ c : Nat, c = (s + r) / 2 := ⟨_, rfl⟩
        have zc : ((s : Int) + (r : Int)) / 2 = (c : Int) := by omega
        have hc1 : s ≤ c := by omega
        have hc2 : c < r := by omega
        rw [zc]
        clear zc hcE
        obtain ⟨iN, hiN⟩ : ∃ q, q = mid + m - 1 - c := ⟨_, rfl⟩
        obtain ⟨jN, hjN⟩ : ∃ q, q = c := ⟨_, rfl⟩
        have ea : ((mid : Int) + (m : Int) - 1 - (c : Int)).toNat = iN := by omega
        have pa : (0 : Int) ≤ (mid : Int) + (m : Int) - 1 - (c : Int) := by omega
        have ba : (mid : Int) + (m : Int) - 1 - (c : Int) < (n : Int) := by omega
        have ra : IntKind.i64.wrap ((mid : Int) + (m : Int) - 1 - (c : Int)) = (mid : Int) + (m : Int) - 1 - (c : Int) := by rw [IntKind.wrap_i64]; omega
        have pa2 : (c : Int) ≤ (mid : Int) + (m : Int) - 1 := by omega
        have ec : ((c : Int)).toNat = jN := by omega
        have pc : (0 : Int) ≤ (c : Int) := by omega
        have bc : (c : Int) < (n : Int) := by omega
        obtain ⟨x, hx⟩ : ∃ x, x = d[mid + m - 1 - c]! := ⟨_, rfl⟩
        obtain ⟨y, hy⟩ : ∃ x, x = d[c]! := ⟨_, rfl⟩
        have la := S1.out.cl R (by omega) (mid + m - 1 - c) (by omega)
        have lb := S1.out.cl R (by omega) c (by omega)
        rw [← hx, ← hiN] at la
        rw [← hy, ← hjN] at lb
        have hc := S1.out.cmp HC.out (by omega) x y
        cases hlv : ltOf cf d[mid + m - 1 - c]! d[c]! with
        | true =>
          have hv : cf x y < 0 := by rw [hx, hy]; exact of_decide_eq_true hlv
          have hd : decide (cf x y < 0) = true := decide_eq_true hv
          clear hx hy hiN hjN
          go_quiet_grown (first | (go_at_fn g; refine Calls.grown_of (hc _ _)))
          have S2 : Aside (SW (E N) w0 blk off d (grow (wr.drewN nq) osq)) := S1.out.grown nq osq
          clear la lb hc S1
          generalize grow (wr.drewN nq) osq = w2 at S2 ⊢
          clear nq osq ea ec
          go_wp2
          go_roundg (c - s)
          case measure => omega
          case rel => exact ⟨s, c, rfl, by first | rfl | go_num, hss, hc1, by omega, Nat.le_refl _, S2, LO, fun _ => hlv⟩
        | false =>
          have hv : ¬ cf x y < 0 := by rw [hx, hy]; exact of_decide_eq_false hlv
          have hd : decide (cf x y < 0) = false := decide_eq_false hv
          clear hx hy hiN hjN
          go_quiet_grown (first | (go_at_fn g; refine Calls.grown_of (hc _ _)))
          have S2 : Aside (SW (E N) w0 blk off d (grow (wr.drewN nq) osq)) := S1.out.grown nq osq
          clear la lb hc S1
          generalize grow (wr.drewN nq) osq = w2 at S2 ⊢
          clear nq osq ea ec
          go_wp2
          go_roundg (r - (c + 1))
          case measure => omega
          case rel => exact ⟨c + 1, r, by first | rfl | go_num, rfl, by omega, by omega, hrr, Nat.le_refl _, S2, fun _ => by rw [show mid + m - (c + 1) = mid + m - 1 - c by omega, show c + 1 - 1 = c by omega]; exact hlv, HI⟩
      · obtain rfl : r = s := by omega
        have hlo : a < r → mid + m - r < b → ltOf cf d[mid + m - r]! d[r - 1]! = false := by
          intro k1 k2
          by_cases k3 : s0 < r
          · exact LO.out k3
          · have := B6.out (show a < s0 by omega)
            omega
        have hhi : r < m → m < mid + m - r → ltOf cf d[mid + m - r - 1]! d[r]! = true := by
          intro k1 k2
          by_cases k3 : r < mid
          · have := HI.out k3
            rwa [show mid + m - 1 - r = mid + m - r - 1 by omega] at this
          · have := B7.out (show mid < m by omega)
            omega
        have HX0 := C0.out r (by omega) (by omega) (by omega) (by omega) hlo hhi
        clear hlo hhi
        obtain ⟨e, hE⟩ : ∃ e, e = mid + m - r := ⟨_, rfl⟩
        rw [← hE] at HX0
        have ze : (mid : Int) + (m : Int) - (r : Int) = (e : Int) := by omega
        have HX : Aside _ := HX0
        clear HX0 C0 LO HI B6 B7 HC hE
        have k1 := three ((r : Int) < (m : Int)) ((m : Int) < (e : Int))
        have k2 := three ((a : Int) < (r : Int)) ((r : Int) < (mid : Int))
        have k3 := three ((mid : Int) < (e : Int)) ((e : Int) < (b : Int))
        rcases k1 with ⟨p1, q1⟩ | ⟨p1, q1⟩ | p1
        · rcases k2 with ⟨p2, q2⟩ | ⟨p2, q2⟩ | p2
          · rcases k3 with ⟨p3, q3⟩ | ⟨p3, q3⟩ | p3
            · go_wp2_with (first | (go_at_call 68; (with_reducible refine (HX.out.rotd (by omega) (by omega) _ S1.out).mono ?_); rintro e_ w' ⟨rfl, S2⟩) | (go_at_call 66; (with_reducible refine (HX.out.left (by omega) (by omega) _ S2).mono ?_); rintro e_ w' ⟨rfl, d1, P1, S3⟩) | (go_at_call 66; (with_reducible refine (HX.out.right d1 P1 (by omega) (by omega) _ S3).mono ?_); rintro e_ w' ⟨rfl, d2, P2, S4⟩))
              all_goals (go_end0; exact ⟨rfl, d2, P2.1, P2.2, S4⟩)
            · go_wp2_with (first | (go_at_call 68; (with_reducible refine (HX.out.rotd (by omega) (by omega) _ S1.out).mono ?_); rintro e_ w' ⟨rfl, S2⟩) | (go_at_call 66; (with_reducible refine (HX.out.left (by omega) (by omega) _ S2).mono ?_); rintro e_ w' ⟨rfl, d1, P1, S3⟩))
              all_goals (go_end0; have P2 := HX.out.noright d1 P1 (by omega); exact ⟨rfl, d1, P2.1, P2.2, S3⟩)
            · go_wp2_with (first | (go_at_call 68; (with_reducible refine (HX.out.rotd (by omega) (by omega) _ S1.out).mono ?_); rintro e_ w' ⟨rfl, S2⟩) | (go_at_call 66; (with_reducible refine (HX.out.left (by omega) (by omega) _ S2).mono ?_); rintro e_ w' ⟨rfl, d1, P1, S3⟩))
              all_goals (go_end0; have P2 := HX.out.noright d1 P1 (by omega); exact ⟨rfl, d1, P2.1, P2.2, S3⟩)
          · have P1 := HX.out.noleft (by omega)
            rcases k3 with ⟨p3, q3⟩ | ⟨p3, q3⟩ | p3
            · go_wp2_with (first | (go_at_call 68; (with_reducible refine (HX.out.rotd (by omega) (by omega) _ S1.out).mono ?_); rintro e_ w' ⟨rfl, S2⟩) | (go_at_call 66; (with_reducible refine (HX.out.right _ P1 (by omega) (by omega) _ S2).mono ?_); rintro e_ w' ⟨rfl, d2, P2, S4⟩))
              all_goals (go_end0; exact ⟨rfl, d2, P2.1, P2.2, S4⟩)
            · go_wp2_with (first | (go_at_call 68; (with_reducible refine (HX.out.rotd (by omega) (by omega) _ S1.out).mono ?_); rintro e_ w' ⟨rfl, S2⟩))
              all_goals (go_end0; have P2 := HX.out.noright _ P1 (by omega); exact ⟨rfl, _, P2.1, P2.2, S2⟩)
            · go_wp2_with (first | (go_at_call 68; (with_reducible refine (HX.out.rotd (by omega) (by omega) _ S1.out).mono ?_); rintro e_ w' ⟨rfl, S2⟩))
              all_goals (go_end0; have P2 := HX.out.noright _ P1 (by omega); exact ⟨rfl, _, P2.1, P2.2, S2⟩)
          · have P1 := HX.out.noleft (by omega)
            rcases k3 with ⟨p3, q3⟩ | ⟨p3, q3⟩ | p3
            · go_wp2_with (first | (go_at_call 68; (with_reducible refine (HX.out.rotd (by omega) (by omega) _ S1.out).mono ?_); rintro e_ w' ⟨rfl, S2⟩) | (go_at_call 66; (with_reducible refine (HX.out.right _ P1 (by omega) (by omega) _ S2).mono ?_); rintro e_ w' ⟨rfl, d2, P2, S4⟩))
              all_goals (go_end0; exact ⟨rfl, d2, P2.1, P2.2, S4⟩)
            · go_wp2_with (first | (go_at_call 68; (with_reducible refine (HX.out.rotd (by omega) (by omega) _ S1.out).mono ?_); rintro e_ w' ⟨rfl, S2⟩))
              all_goals (go_end0; have P2 := HX.out.noright _ P1 (by omega); exact ⟨rfl, _, P2.1, P2.2, S2⟩)
            · go_wp2_with (first | (go_at_call 68; (with_reducible refine (HX.out.rotd (by omega) (by omega) _ S1.out).mono ?_); rintro e_ w' ⟨rfl, S2⟩))
              all_goals (go_end0; have P2 := HX.out.noright _ P1 (by omega); exact ⟨rfl, _, P2.1, P2.2, S2⟩)
        · have S2 : SW (E N) w0 blk off (rot d r m e) wr := by rw [HX.out.norot (by omega)]; exact S1.out
          rcases k2 with ⟨p2, q2⟩ | ⟨p2, q2⟩ | p2
          · rcases k3 with ⟨p3, q3⟩ | ⟨p3, q3⟩ | p3
            · go_wp2_with (first | (go_at_call 66; (with_reducible refine (HX.out.left (by omega) (by omega) _ S2).mono ?_); rintro e_ w' ⟨rfl, d1, P1, S3⟩) | (go_at_call 66; (with_reducible refine (HX.out.right d1 P1 (by omega) (by omega) _ S3).mono ?_); rintro e_ w' ⟨rfl, d2, P2, S4⟩))
              all_goals (go_end0; exact ⟨rfl, d2, P2.1, P2.2, S4⟩)
            · go_wp2_with (first | (go_at_call 66; (with_reducible refine (HX.out.left (by omega) (by omega) _ S2).mono ?_); rintro e_ w' ⟨rfl, d1, P1, S3⟩))
              all_goals (go_end0; have P2 := HX.out.noright d1 P1 (by omega); exact ⟨rfl, d1, P2.1, P2.2, S3⟩)
            · go_wp2_with (first | (go_at_call 66; (with_reducible refine (HX.out.left (by omega) (by omega) _ S2).mono ?_); rintro e_ w' ⟨rfl, d1, P1, S3⟩))
              all_goals (go_end0; have P2 := HX.out.noright d1 P1 (by omega); exact ⟨rfl, d1, P2.1, P2.2, S3⟩)
          · have P1 := HX.out.noleft (by omega)
            rcases k3 with ⟨p3, q3⟩ | ⟨p3, q3⟩ | p3
            · go_wp2_with (first | (go_at_call 66; (with_reducible refine (HX.out.right _ P1 (by omega) (by omega) _ S2).mono ?_); rintro e_ w' ⟨rfl, d2, P2, S4⟩))
              all_goals (go_end0; exact ⟨rfl, d2, P2.1, P2.2, S4⟩)
            · go_wp2
              all_goals (go_end0; have P2 := HX.out.noright _ P1 (by omega); exact ⟨rfl, _, P2.1, P2.2, S2⟩)
            · go_wp2
              all_goals (go_end0; have P2 := HX.out.noright _ P1 (by omega); exact ⟨rfl, _, P2.1, P2.2, S2⟩)
          · have P1 := HX.out.noleft (by omega)
            rcases k3 with ⟨p3, q3⟩ | ⟨p3, q3⟩ | p3
            · go_wp2_with (first | (go_at_call 66; (with_reducible refine (HX.out.right _ P1 (by omega) (by omega) _ S2).mono ?_); rintro e_ w' ⟨rfl, d2, P2, S4⟩))
              all_goals (go_end0; exact ⟨rfl, d2, P2.1, P2.2, S4⟩)
            · go_wp2
              all_goals (go_end0; have P2 := HX.out.noright _ P1 (by omega); exact ⟨rfl, _, P2.1, P2.2, S2⟩)
            · go_wp2
              all_goals (go_end0; have P2 := HX.out.noright _ P1 (by omega); exact ⟨rfl, _, P2.1, P2.2, S2⟩)
        · have S2 : SW (E N) w0 blk off (rot d r m e) wr := by rw [HX.out.norot (by omega)]; exact S1.out
          rcases k2 with ⟨p2, q2⟩ | ⟨p2, q2⟩ | p2
          · rcases k3 with ⟨p3, q3⟩ | ⟨p3, q3⟩ | p3
            · go_wp2_with (first | (go_at_call 66; (with_reducible refine (HX.out.left (by omega) (by omega) _ S2).mono ?_); rintro e_ w' ⟨rfl, d1, P1, S3⟩) | (go_at_call 66; (with_reducible refine (HX.out.right d1 P1 (by omega) (by omega) _ S3).mono ?_); rintro e_ w' ⟨rfl, d2, P2, S4⟩))
              all_goals (go_end0; exact ⟨rfl, d2, P2.1, P2.2, S4⟩)
            · go_wp2_with (first | (go_at_call 66; (with_reducible refine (HX.out.left (by omega) (by omega) _ S2).mono ?_); rintro e_ w' ⟨rfl, d1, P1, S3⟩))
              all_goals (go_end0; have P2 := HX.out.noright d1 P1 (by omega); exact ⟨rfl, d1, P2.1, P2.2, S3⟩)
            · go_wp2_with (first | (go_at_call 66; (with_reducible refine (HX.out.left (by omega) (by omega) _ S2).mono ?_); rintro e_ w' ⟨rfl, d1, P1, S3⟩))
              all_goals (go_end0; have P2 := HX.out.noright d1 P1 (by omega); exact ⟨rfl, d1, P2.1, P2.2, S3⟩)
          · have P1 := HX.out.noleft (by omega)
            rcases k3 with ⟨p3, q3⟩ | ⟨p3, q3⟩ | p3
            · go_wp2_with (first | (go_at_call 66; (with_reducible refine (HX.out.right _ P1 (by omega) (by omega) _ S2).mono ?_); rintro e_ w' ⟨rfl, d2, P2, S4⟩))
              all_goals (go_end0; exact ⟨rfl, d2, P2.1, P2.2, S4⟩)
            · go_wp2
              all_goals (go_end0; have P2 := HX.out.noright _ P1 (by omega); exact ⟨rfl, _, P2.1, P2.2, S2⟩)
            · go_wp2
              all_goals (go_end0; have P2 := HX.out.noright _ P1 (by omega); exact ⟨rfl, _, P2.1, P2.2, S2⟩)
          · have P1 := HX.out.noleft (by omega)
            rcases k3 with ⟨p3, q3⟩ | ⟨p3, q3⟩ | p3
            · go_wp2_with (first | (go_at_call 66; (with_reducible refine (HX.out.right _ P1 (by omega) (by omega) _ S2).mono ?_); rintro e_ w' ⟨rfl, d2, P2, S4⟩))
              all_goals (go_end0; exact ⟨rfl, d2, P2.1, P2.2, S4⟩)
            · go_wp2
              all_goals (go_end0; have P2 := HX.out.noright _ P1 (by omega); exact ⟨rfl, _, P2.1, P2.2, S2⟩)
            · go_wp2
              all_goals (go_end0; have P2 := HX.out.noright _ P1 (by omega); exact ⟨rfl, _, P2.1, P2.2, S2⟩)
  · have hgtz : ¬ (mid : Int) < (m : Int) := by omega
    subst s0
    subst r0
    go_wp2
    clear zmid hc0 hc1
    go_loopg [20, 21] (m - a) (fun g1 vi vj wr => ∃ (s r : Nat), vi = .int .i64 s ∧ vj = .int .i64 r ∧ a ≤ s ∧ s ≤ r ∧ r ≤ m ∧ r - s ≤ g1 ∧ Aside (SW (E N) w0 blk off d wr) ∧ Aside (a < s → ltOf cf d[mid + m - s]! d[s - 1]! = false) ∧ Aside (r < m → ltOf cf d[mid + m - 1 - r]! d[r]! = true))
    case atStart => exact ⟨a, m, rfl, rfl, Nat.le_refl _, b2, Nat.le_refl _, Nat.le_refl _, S0, fun k => by omega, fun k => by omega⟩
    case round =>
      clear S0
      obtain ⟨s, r, rfl, rfl, hss, hsr, hrr, hg1, S1, LO, HI⟩ := hrel
      by_cases hlt : s < r
      · have hltz : (s : Int) < (r : Int) := by omega
        go_wp2_with fail
        obtain ⟨c, hcE⟩ : ∃ c : Nat, c = (s + r) / 2 := ⟨_, rfl⟩
        have zc : ((s : Int) + (r : Int)) / 2 = (c : Int) := by omega
        have hc1 : s ≤ c := by omega
        have hc2 : c < r := by omega
        rw [zc]
        clear zc hcE
        obtain ⟨iN, hiN⟩ : ∃ q, q = mid + m - 1 - c := ⟨_, rfl⟩
        obtain ⟨jN, hjN⟩ : ∃ q, q = c := ⟨_, rfl⟩
        have ea : ((mid : Int) + (m : Int) - 1 - (c : Int)).toNat = iN := by omega
        have pa : (0 : Int) ≤ (mid : Int) + (m : Int) - 1 - (c : Int) := by omega
        have ba : (mid : Int) + (m : Int) - 1 - (c : Int) < (n : Int) := by omega
        have ra : IntKind.i64.wrap ((mid : Int) + (m : Int) - 1 - (c : Int)) = (mid : Int) + (m : Int) - 1 - (c : Int) := by rw [IntKind.wrap_i64]; omega
        have pa2 : (c : Int) ≤ (mid : Int) + (m : Int) - 1 := by omega
        have ec : ((c : Int)).toNat = jN := by omega
        have pc : (0 : Int) ≤ (c : Int) := by omega
        have bc : (c : Int) < (n : Int) := by omega
        obtain ⟨x, hx⟩ : ∃ x, x = d[mid + m - 1 - c]! := ⟨_, rfl⟩
        obtain ⟨y, hy⟩ : ∃ x, x = d[c]! := ⟨_, rfl⟩
        have la := S1.out.cl R (by omega) (mid + m - 1 - c) (by omega)
        have lb := S1.out.cl R (by omega) c (by omega)
        rw [← hx, ← hiN] at la
        rw [← hy, ← hjN] at lb
        have hc := S1.out.cmp HC.out (by omega) x y
        cases hlv : ltOf cf d[mid + m - 1 - c]! d[c]! with
        | true =>
          have hv : cf x y < 0 := by rw [hx, hy]; exact of_decide_eq_true hlv
          have hd : decide (cf x y < 0) = true := decide_eq_true hv
          clear hx hy hiN hjN
          go_quiet_grown (first | (go_at_fn g; refine Calls.grown_of (hc _ _)))
          have S2 : Aside (SW (E N) w0 blk off d (grow (wr.drewN nq) osq)) := S1.out.grown nq osq
          clear la lb hc S1
          generalize grow (wr.drewN nq) osq = w2 at S2 ⊢
          clear nq osq ea ec
          go_wp2
          go_roundg (c - s)
          case measure => omega
          case rel => exact ⟨s, c, rfl, by first | rfl | go_num, hss, hc1, by omega, Nat.le_refl _, S2, LO, fun _ => hlv⟩
        | false =>
          have hv : ¬ cf x y < 0 := by rw [hx, hy]; exact of_decide_eq_false hlv
          have hd : decide (cf x y < 0) = false := decide_eq_false hv
          clear hx hy hiN hjN
          go_quiet_grown (first | (go_at_fn g; refine Calls.grown_of (hc _ _)))
          have S2 : Aside (SW (E N) w0 blk off d (grow (wr.drewN nq) osq)) := S1.out.grown nq osq
          clear la lb hc S1
          generalize grow (wr.drewN nq) osq = w2 at S2 ⊢
          clear nq osq ea ec
          go_wp2
          go_roundg (r - (c + 1))
          case measure => omega
          case rel => exact ⟨c + 1, r, by first | rfl | go_num, rfl, by omega, by omega, hrr, Nat.le_refl _, S2, fun _ => by rw [show mid + m - (c + 1) = mid + m - 1 - c by omega, show c + 1 - 1 = c by omega]; exact hlv, HI⟩
      · obtain rfl : r = s := by omega
        have hlo : a < r → mid + m - r < b → ltOf cf d[mid + m - r]! d[r - 1]! = false := by
          intro k1 k2
          by_cases k3 : a < r
          · exact LO.out k3
          · have := B6.out (show a < a by omega)
            omega
        have hhi : r < m → m < mid + m - r → ltOf cf d[mid + m - r - 1]! d[r]! = true := by
          intro k1 k2
          by_cases k3 : r < m
          · have := HI.out k3
            rwa [show mid + m - 1 - r = mid + m - r - 1 by omega] at this
          · have := B7.out (show m < m by omega)
            omega
        have HX0 := C0.out r (by omega) (by omega) (by omega) (by omega) hlo hhi
        clear hlo hhi
        obtain ⟨e, hE⟩ : ∃ e, e = mid + m - r := ⟨_, rfl⟩
        rw [← hE] at HX0
        have ze : (mid : Int) + (m : Int) - (r : Int) = (e : Int) := by omega
        have HX : Aside _ := HX0
        clear HX0 C0 LO HI B6 B7 HC hE
        have k1 := three ((r : Int) < (m : Int)) ((m : Int) < (e : Int))
        have k2 := three ((a : Int) < (r : Int)) ((r : Int) < (mid : Int))
        have k3 := three ((mid : Int) < (e : Int)) ((e : Int) < (b : Int))
        rcases k1 with ⟨p1, q1⟩ | ⟨p1, q1⟩ | p1
        · rcases k2 with ⟨p2, q2⟩ | ⟨p2, q2⟩ | p2
          · rcases k3 with ⟨p3, q3⟩ | ⟨p3, q3⟩ | p3
            · go_wp2_with (first | (go_at_call 68; (with_reducible refine (HX.out.rotd (by omega) (by omega) _ S1.out).mono ?_); rintro e_ w' ⟨rfl, S2⟩) | (go_at_call 66; (with_reducible refine (HX.out.left (by omega) (by omega) _ S2).mono ?_); rintro e_ w' ⟨rfl, d1, P1, S3⟩) | (go_at_call 66; (with_reducible refine (HX.out.right d1 P1 (by omega) (by omega) _ S3).mono ?_); rintro e_ w' ⟨rfl, d2, P2, S4⟩))
              all_goals (go_end0; exact ⟨rfl, d2, P2.1, P2.2, S4⟩)
            · go_wp2_with (first | (go_at_call 68; (with_reducible refine (HX.out.rotd (by omega) (by omega) _ S1.out).mono ?_); rintro e_ w' ⟨rfl, S2⟩) | (go_at_call 66; (with_reducible refine (HX.out.left (by omega) (by omega) _ S2).mono ?_); rintro e_ w' ⟨rfl, d1, P1, S3⟩))
              all_goals (go_end0; have P2 := HX.out.noright d1 P1 (by omega); exact ⟨rfl, d1, P2.1, P2.2, S3⟩)
            · go_wp2_with (first | (go_at_call 68; (with_reducible refine (HX.out.rotd (by omega) (by omega) _ S1.out).mono ?_); rintro e_ w' ⟨rfl, S2⟩) | (go_at_call 66; (with_reducible refine (HX.out.left (by omega) (by omega) _ S2).mono ?_); rintro e_ w' ⟨rfl, d1, P1, S3⟩))
              all_goals (go_end0; have P2 := HX.out.noright d1 P1 (by omega); exact ⟨rfl, d1, P2.1, P2.2, S3⟩)
          · have P1 := HX.out.noleft (by omega)
            rcases k3 with ⟨p3, q3⟩ | ⟨p3, q3⟩ | p3
            · go_wp2_with (first | (go_at_call 68; (with_reducible refine (HX.out.rotd (by omega) (by omega) _ S1.out).mono ?_); rintro e_ w' ⟨rfl, S2⟩) | (go_at_call 66; (with_reducible refine (HX.out.right _ P1 (by omega) (by omega) _ S2).mono ?_); rintro e_ w' ⟨rfl, d2, P2, S4⟩))
              all_goals (go_end0; exact ⟨rfl, d2, P2.1, P2.2, S4⟩)
            · go_wp2_with (first | (go_at_call 68; (with_reducible refine (HX.out.rotd (by omega) (by omega) _ S1.out).mono ?_); rintro e_ w' ⟨rfl, S2⟩))
              all_goals (go_end0; have P2 := HX.out.noright _ P1 (by omega); exact ⟨rfl, _, P2.1, P2.2, S2⟩)
            · go_wp2_with (first | (go_at_call 68; (with_reducible refine (HX.out.rotd (by omega) (by omega) _ S1.out).mono ?_); rintro e_ w' ⟨rfl, S2⟩))
              all_goals (go_end0; have P2 := HX.out.noright _ P1 (by omega); exact ⟨rfl, _, P2.1, P2.2, S2⟩)
          · have P1 := HX.out.noleft (by omega)
            rcases k3 with ⟨p3, q3⟩ | ⟨p3, q3⟩ | p3
            · go_wp2_with (first | (go_at_call 68; (with_reducible refine (HX.out.rotd (by omega) (by omega) _ S1.out).mono ?_); rintro e_ w' ⟨rfl, S2⟩) | (go_at_call 66; (with_reducible refine (HX.out.right _ P1 (by omega) (by omega) _ S2).mono ?_); rintro e_ w' ⟨rfl, d2, P2, S4⟩))
              all_goals (go_end0; exact ⟨rfl, d2, P2.1, P2.2, S4⟩)
            · go_wp2_with (first | (go_at_call 68; (with_reducible refine (HX.out.rotd (by omega) (by omega) _ S1.out).mono ?_); rintro e_ w' ⟨rfl, S2⟩))
              all_goals (go_end0; have P2 := HX.out.noright _ P1 (by omega); exact ⟨rfl, _, P2.1, P2.2, S2⟩)
            · go_wp2_with (first | (go_at_call 68; (with_reducible refine (HX.out.rotd (by omega) (by omega) _ S1.out).mono ?_); rintro e_ w' ⟨rfl, S2⟩))
              all_goals (go_end0; have P2 := HX.out.noright _ P1 (by omega); exact ⟨rfl, _, P2.1, P2.2, S2⟩)
        · have S2 : SW (E N) w0 blk off (rot d r m e) wr := by rw [HX.out.norot (by omega)]; exact S1.out
          rcases k2 with ⟨p2, q2⟩ | ⟨p2, q2⟩ | p2
          · rcases k3 with ⟨p3, q3⟩ | ⟨p3, q3⟩ | p3
            · go_wp2_with (first | (go_at_call 66; (with_reducible refine (HX.out.left (by omega) (by omega) _ S2).mono ?_); rintro e_ w' ⟨rfl, d1, P1, S3⟩) | (go_at_call 66; (with_reducible refine (HX.out.right d1 P1 (by omega) (by omega) _ S3).mono ?_); rintro e_ w' ⟨rfl, d2, P2, S4⟩))
              all_goals (go_end0; exact ⟨rfl, d2, P2.1, P2.2, S4⟩)
            · go_wp2_with (first | (go_at_call 66; (with_reducible refine (HX.out.left (by omega) (by omega) _ S2).mono ?_); rintro e_ w' ⟨rfl, d1, P1, S3⟩))
              all_goals (go_end0; have P2 := HX.out.noright d1 P1 (by omega); exact ⟨rfl, d1, P2.1, P2.2, S3⟩)
            · go_wp2_with (first | (go_at_call 66; (with_reducible refine (HX.out.left (by omega) (by omega) _ S2).mono ?_); rintro e_ w' ⟨rfl, d1, P1, S3⟩))
              all_goals (go_end0; have P2 := HX.out.noright d1 P1 (by omega); exact ⟨rfl, d1, P2.1, P2.2, S3⟩)
          · have P1 := HX.out.noleft (by omega)
            rcases k3 with ⟨p3, q3⟩ | ⟨p3, q3⟩ | p3
            · go_wp2_with (first | (go_at_call 66; (with_reducible refine (HX.out.right _ P1 (by omega) (by omega) _ S2).mono ?_); rintro e_ w' ⟨rfl, d2, P2, S4⟩))
              all_goals (go_end0; exact ⟨rfl, d2, P2.1, P2.2, S4⟩)
            · go_wp2
              all_goals (go_end0; have P2 := HX.out.noright _ P1 (by omega); exact ⟨rfl, _, P2.1, P2.2, S2⟩)
            · go_wp2
              all_goals (go_end0; have P2 := HX.out.noright _ P1 (by omega); exact ⟨rfl, _, P2.1, P2.2, S2⟩)
          · have P1 := HX.out.noleft (by omega)
            rcases k3 with ⟨p3, q3⟩ | ⟨p3, q3⟩ | p3
            · go_wp2_with (first | (go_at_call 66; (with_reducible refine (HX.out.right _ P1 (by omega) (by omega) _ S2).mono ?_); rintro e_ w' ⟨rfl, d2, P2, S4⟩))
              all_goals (go_end0; exact ⟨rfl, d2, P2.1, P2.2, S4⟩)
            · go_wp2
              all_goals (go_end0; have P2 := HX.out.noright _ P1 (by omega); exact ⟨rfl, _, P2.1, P2.2, S2⟩)
            · go_wp2
              all_goals (go_end0; have P2 := HX.out.noright _ P1 (by omega); exact ⟨rfl, _, P2.1, P2.2, S2⟩)
        · have S2 : SW (E N) w0 blk off (rot d r m e) wr := by rw [HX.out.norot (by omega)]; exact S1.out
          rcases k2 with ⟨p2, q2⟩ | ⟨p2, q2⟩ | p2
          · rcases k3 with ⟨p3, q3⟩ | ⟨p3, q3⟩ | p3
            · go_wp2_with (first | (go_at_call 66; (with_reducible refine (HX.out.left (by omega) (by omega) _ S2).mono ?_); rintro e_ w' ⟨rfl, d1, P1, S3⟩) | (go_at_call 66; (with_reducible refine (HX.out.right d1 P1 (by omega) (by omega) _ S3).mono ?_); rintro e_ w' ⟨rfl, d2, P2, S4⟩))
              all_goals (go_end0; exact ⟨rfl, d2, P2.1, P2.2, S4⟩)
            · go_wp2_with (first | (go_at_call 66; (with_reducible refine (HX.out.left (by omega) (by omega) _ S2).mono ?_); rintro e_ w' ⟨rfl, d1, P1, S3⟩))
              all_goals (go_end0; have P2 := HX.out.noright d1 P1 (by omega); exact ⟨rfl, d1, P2.1, P2.2, S3⟩)
            · go_wp2_with (first | (go_at_call 66; (with_reducible refine (HX.out.left (by omega) (by omega) _ S2).mono ?_); rintro e_ w' ⟨rfl, d1, P1, S3⟩))
              all_goals (go_end0; have P2 := HX.out.noright d1 P1 (by omega); exact ⟨rfl, d1, P2.1, P2.2, S3⟩)
          · have P1 := HX.out.noleft (by omega)
            rcases k3 with ⟨p3, q3⟩ | ⟨p3, q3⟩ | p3
            · go_wp2_with (first | (go_at_call 66; (with_reducible refine (HX.out.right _ P1 (by omega) (by omega) _ S2).mono ?_); rintro e_ w' ⟨rfl, d2, P2, S4⟩))
              all_goals (go_end0; exact ⟨rfl, d2, P2.1, P2.2, S4⟩)
            · go_wp2
              all_goals (go_end0; have P2 := HX.out.noright _ P1 (by omega); exact ⟨rfl, _, P2.1, P2.2, S2⟩)
            · go_wp2
              all_goals (go_end0; have P2 := HX.out.noright _ P1 (by omega); exact ⟨rfl, _, P2.1, P2.2, S2⟩)
          · have P1 := HX.out.noleft (by omega)
            rcases k3 with ⟨p3, q3⟩ | ⟨p3, q3⟩ | p3
            · go_wp2_with (first | (go_at_call 66; (with_reducible refine (HX.out.right _ P1 (by omega) (by omega) _ S2).mono ?_); rintro e_ w' ⟨rfl, d2, P2, S4⟩))
              all_goals (go_end0; exact ⟨rfl, d2, P2.1, P2.2, S4⟩)
            · go_wp2
              all_goals (go_end0; have P2 := HX.out.noright _ P1 (by omega); exact ⟨rfl, _, P2.1, P2.2, S2⟩)
            · go_wp2
              all_goals (go_end0; have P2 := HX.out.noright _ P1 (by omega); exact ⟨rfl, _, P2.1, P2.2, S2⟩)

end Go.Proofs.Ytoepfkmeglnnaaa.Stb
