/- Go's stable sort at ints: stableCmpFunc. -/
import Derived.Test.YtoepfkmeglnnaaaStw6
namespace Go.Proofs.Ytoepfkmeglnnaaa.Stb
open Go.Shelf Go.RowKit Go.Lib Go.Sort Go.Proofs
theorem Mid.left {N : Nat} {lt : Ix N → Ix N → Bool} {bs a n : Nat} {d0 d : Array (Ix N)} (h : Mid lt bs a n d0 d) (ha : 2 * bs ∣ a) (hb : a + 2 * bs ≤ n) (h0 : 0 < bs) : SortedIn lt a (a + bs) d := by
  have := h.todo a (Nat.dvd_trans (Nat.dvd_mul_left _ _) ha) (Nat.le_refl _) (by omega)
  rwa [show min (a + bs) n = a + bs by omega] at this
theorem Mid.right {N : Nat} {lt : Ix N → Ix N → Bool} {bs a n : Nat} {d0 d : Array (Ix N)} (h : Mid lt bs a n d0 d) (ha : 2 * bs ∣ a) (hb : a + 2 * bs ≤ n) (h0 : 0 < bs) : SortedIn lt (a + bs) (a + 2 * bs) d := by
  have := h.todo (a + bs) (Nat.dvd_add (Nat.dvd_trans (Nat.dvd_mul_left _ _) ha) (Nat.dvd_refl _)) (by omega) (by omega)
  rwa [show min (a + bs + bs) n = a + 2 * bs by omega] at this
theorem Mid.left' {N : Nat} {lt : Ix N → Ix N → Bool} {bs a n : Nat} {d0 d : Array (Ix N)} (h : Mid lt bs a n d0 d) (ha : 2 * bs ∣ a) (hb : a + bs < n) : SortedIn lt a (a + bs) d := by
  have := h.todo a (Nat.dvd_trans (Nat.dvd_mul_left _ _) ha) (Nat.le_refl _) (by omega)
  rwa [show min (a + bs) n = a + bs by omega] at this
theorem Mid.right' {N : Nat} {lt : Ix N → Ix N → Bool} {bs a n : Nat} {d0 d : Array (Ix N)} (h : Mid lt bs a n d0 d) (ha : 2 * bs ∣ a) (hb : a + bs < n) (hb2 : n ≤ a + 2 * bs) : SortedIn lt (a + bs) n d := by
  have := h.todo (a + bs) (Nat.dvd_add (Nat.dvd_trans (Nat.dvd_mul_left _ _) ha) (Nat.dvd_refl _)) (by omega) (by omega)
  rwa [show min (a + bs + bs) n = n by omega] at this
set_option maxHeartbeats 16000000 in
set_option maxRecDepth 1000000 in
theorem stable {N : Nat} (cf : Ix N → Ix N → Int) (hS : SWO (ltOf cf)) (g : Nat) (cb : Array Value) (blk off cap n : Nat) (d : Array (Ix N)) (w : World)
    (eg : ∀ args w, (callFunc g args).run Try.prog w = .ok (.enter g args) w) (hcmp : CmpLays1 Try.prog g cb (E N) cf blk off d.size w) (R : Row1 (E N) w blk off d) (hn : d.size = n) (hsz : n < 1152921504606846976) :
    Calls Try.prog 63 #[.slice (some ⟨blk, off, none⟩) n cap, .int .i64 n, .func (.func g) #[] cb] w fun e w' => e = .returned (.tuple #[]) ∧ ∃ d', Put (ltOf cf) 0 n d d' ∧ SortedIn (ltOf cf) 0 n d' ∧ SW (E N) w blk off d' w' := by
  have INS : Aside _ := insertion' cf hS g cb blk off cap n d w eg hcmp R hn hsz
  have MER : Aside _ := merge_all cf hS g cb blk off cap n d w eg hcmp R hn hsz n
  have S0 : Aside (SW (E N) w blk off d w) := SW.start R.hH
  clear hcmp
  go_enter Try.func63, Try.ntmps63
  go_wp2
  go_loopg [7, 8] n (fun g1 va vb wr => ∃ (a : Nat) (dk : Array (Ix N)), va = .int .i64 a ∧ vb = .int .i64 ((a : Int) + 20) ∧ a ≤ n ∧ 20 ∣ a ∧ n - a ≤ g1 ∧ Aside (SW (E N) w blk off dk wr) ∧ Aside (Put (ltOf cf) 0 n d dk) ∧ Aside (Blk (ltOf cf) 20 0 a n dk))
  case atStart => exact ⟨0, d, rfl, rfl, Nat.zero_le _, Nat.dvd_zero _, Nat.le_refl _, S0, Put.refl _ _ _, fun p _ _ h => absurd h (Nat.not_lt_zero _)⟩
  case round =>
    clear S0
    obtain ⟨a, dk, rfl, rfl, han, hda, hg1, S1, P1, B1⟩ := hrel
    by_cases hlt : a + 20 ≤ n
    · have hltz : (a : Int) + 20 ≤ (n : Int) := by omega
      have zb : (a : Int) + 20 = ((a + 20 : Nat) : Int) := by omega
      have hc := INS.out a (a + 20) dk wr (by rw [P1.out.size]; exact hn) S1.out (by omega) hlt
      rw [← zb] at hc
      clear zb
      go_wp2_with fail
      go_at_call 65
      refine hc.mono ?_
      rintro e_ w' ⟨rfl, d1, p1, s1, S2⟩
      go_wp2
      go_roundg (n - (a + 20))
      case measure => omega
      case rel => exact ⟨a + 20, d1, by first | rfl | go_num, by first | rfl | go_num, hlt, Nat.dvd_add hda (Nat.dvd_refl _), Nat.le_refl _, S2, P1.out.trans (p1.mono (Nat.zero_le _) hlt (by rw [P1.out.size]; omega)), Blk.snoc (B1.out.keep p1 fun p h1 h2 h3 => Or.inl (by have := dvd_step _ p a h1 hda h3; omega)) hda (by rw [show min (a + 20) n = a + 20 by omega]; exact s1)⟩
    · have hltz : ¬ (a : Int) + 20 ≤ (n : Int) := by omega
      have hc := INS.out a n dk wr (by rw [P1.out.size]; exact hn) S1.out han (Nat.le_refl _)
      have hz := P1.out.size
      go_wp2_with (go_at_call 65; (with_reducible refine hc.mono ?_); rintro e_ w' ⟨rfl, d1, p1, s1, S2⟩)
      have P2 : Aside (Put (ltOf cf) 0 n d d1) := P1.out.trans (p1.mono (Nat.zero_le _) (Nat.le_refl _) (by omega))
      have B2 : Aside (Blk (ltOf cf) 20 0 n n d1) := Blk.whole (B1.out.keep p1 fun p h1 h2 h3 => Or.inl (by have := dvd_step _ p a h1 hda h3; omega)) hda (by omega) (fun _ => s1)
      have S3 : Aside _ := S2
      clear S1 P1 B1 p1 s1 S2 hc hz hltz hlt hda hg1 han
      go_loopg [6] n (fun g2 vs wr2 => ∃ (bs : Nat) (dk : Array (Ix N)), vs = .int .i64 bs ∧ 0 < bs ∧ bs < 2305843009213693952 ∧ n - bs ≤ g2 ∧ Aside (SW (E N) w blk off dk wr2) ∧ Aside (Put (ltOf cf) 0 n d dk) ∧ Aside (Blk (ltOf cf) bs 0 n n dk))
      case atStart => exact ⟨20, d1, rfl, by omega, by omega, by omega, S3, P2, B2⟩
      case round =>
        clear S3 P2 B2
        obtain ⟨bs, dk, rfl, hb0, hb1, hg2, S4, P4, B4⟩ := hrel
        by_cases hlt : bs < n
        · have hltz : (bs : Int) < (n : Int) := by omega
          have M0 : Aside (Mid (ltOf cf) bs 0 n dk dk) := ⟨Put.refl _ _ _, fun p _ _ h => absurd h (Nat.not_lt_zero _), B4.out⟩
          go_wp2
          go_loopg [7, 8] n (fun g3 va vb wr3 => ∃ (a : Nat) (dj : Array (Ix N)), va = .int .i64 a ∧ vb = .int .i64 ((a : Int) + 2 * (bs : Int)) ∧ a ≤ n ∧ 2 * bs ∣ a ∧ n - a ≤ g3 ∧ Aside (SW (E N) w blk off dj wr3) ∧ Aside (Put (ltOf cf) 0 n d dj) ∧ Aside (Mid (ltOf cf) bs a n dk dj))
          case atStart => exact ⟨0, dk, rfl, (by first | rfl | (congr 1; omega)), Nat.zero_le _, Nat.dvd_zero _, Nat.le_refl _, S4, P4, M0⟩
          case round =>
            have hdk := P4.out.size
            clear S4 P4 B4 M0
            obtain ⟨a, dj, rfl, rfl, han, hda, hg3, S5, P5, M5⟩ := hrel
            have hdj := P5.out.size
            by_cases hle : a + 2 * bs ≤ n
            · have hlez : (a : Int) + 2 * (bs : Int) ≤ (n : Int) := by omega
              have hc := MER.out a (a + bs) (a + 2 * bs) dj wr (by omega) (by omega) S5.out (by omega) (by omega) hle (M5.out.left hda hle hb0) (M5.out.right hda hle hb0)
              have z1 : ((a + bs : Nat) : Int) = (a : Int) + (bs : Int) := by omega
              have z2 : ((a + 2 * bs : Nat) : Int) = (a : Int) + 2 * (bs : Int) := by omega
              rw [z1, z2] at hc
              clear z1 z2
              go_wp2_with (go_at_call 66; refine hc.mono ?_; rintro e_ w' ⟨rfl, d2, p2, s2, S6⟩)
              go_roundg (n - (a + 2 * bs))
              case measure => omega
              case rel => exact ⟨a + 2 * bs, d2, by first | rfl | go_num | (congr 1; omega), by first | rfl | go_num | (congr 1; omega), hle, Nat.dvd_add hda (Nat.dvd_refl _), Nat.le_refl _, S6, P5.out.trans (p2.mono (Nat.zero_le _) hle (by omega)), M5.out.step (by omega) hb0 hda hle p2 s2⟩
            · have hlez : ¬ (a : Int) + 2 * (bs : Int) ≤ (n : Int) := by omega
              by_cases hm : a + bs < n
              · have hmz : (a : Int) + (bs : Int) < (n : Int) := by omega
                have hc := MER.out a (a + bs) n dj wr (by omega) (by omega) S5.out (by omega) hm (Nat.le_refl _) (M5.out.left' hda hm) (M5.out.right' hda hm (by omega))
                have z1 : ((a + bs : Nat) : Int) = (a : Int) + (bs : Int) := by omega
                rw [z1] at hc
                clear z1
                go_wp2_with (go_at_call 66; refine hc.mono ?_; rintro e_ w' ⟨rfl, d2, p2, s2, S6⟩)
                go_roundg (n - bs * 2)
                case measure => omega
                case rel =>
                  have := M5.out.last (d' := d2) (by omega) hda (by omega) han p2 s2
                  exact ⟨2 * bs, d2, by first | rfl | go_num | (congr 1; omega), by omega, by omega, by omega, S6, P5.out.trans (p2.mono (Nat.zero_le _) (Nat.le_refl _) (by omega)), this.2⟩
              · have hmz : ¬ (a : Int) + (bs : Int) < (n : Int) := by omega
                have s2 : SortedIn (ltOf cf) a n dj := by
                  rcases Nat.lt_or_ge a n with h | h
                  · exact M5.out.rest (Nat.dvd_trans (Nat.dvd_mul_left _ _) hda) (by omega) h
                  · exact fun i j h1 h2 h3 => absurd h3 (by omega)
                have S6 : Aside _ := s2
                clear s2
                go_wp2
                go_roundg (n - bs * 2)
                case measure => omega
                case rel =>
                  have := M5.out.last (d' := dj) (by omega) hda (by omega) han (Put.refl _ _ _) S6.out
                  exact ⟨2 * bs, dj, by first | rfl | go_num | (congr 1; omega), by omega, by omega, by omega, S5, P5, this.2⟩
        · have hltz : ¬ (bs : Int) < (n : Int) := by omega
          go_wp2
          go_end0
          refine ⟨rfl, dk, P4.out, ?_, S4.out⟩
          rcases Nat.eq_zero_or_pos n with h0 | h0
          · subst h0; exact fun i j _ h1 h2 => absurd h2 (Nat.not_lt_zero _)
          · exact B4.out.one (by omega) h0

end Go.Proofs.Ytoepfkmeglnnaaa.Stb
