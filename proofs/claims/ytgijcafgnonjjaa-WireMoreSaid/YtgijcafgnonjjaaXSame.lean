/- wire.Same and slices.EqualFunc over values: what they answer, and that their Go text does so. No condition. -/
import Derived.Test.YtgijcafgnonjjaaE1
import Derived.Test.YtgijcafgnonjjaaQ0
import Derived.WalkMore
import Derived.Deep.LoopGhost
import Derived.WalkLawsBesides
import Derived.Outline
namespace Go.Proofs.Ytgijcafgnonjjaa.X
open Go.RowKit Go.Proofs.YtgijcafgnonjjaaW.PrintWords Go.Proofs.YtgijcafgnonjjaaW.PrintLast Go.Proofs.YtgijcafgnonjjaaW.PrintMore Go.Proofs.Ytgijcafgnonjjaa.Q
set_option linter.unusedVariables false

mutual
def wsame : Nat → S26 → S26 → Option Bool
  | 0, _, _ => none
  | k + 1, a, b => if a.f0 = b.f0 then (if a.f1 = b.f1 then (E.slices_Equal_byte_byte.f k a.f2 b.f2).bind fun t => if t = true then wsamel k a.f3 b.f3 else some false else some false) else some false
def wsamel : Nat → List S26 → List S26 → Option Bool
  | 0, _, _ => none
  | k + 1, xs, ys => if (xs.length : Int) = (ys.length : Int) then wsamei k xs ys 0 else some false
def wsamei : Nat → List S26 → List S26 → Int → Option Bool
  | 0, _, _, _ => none
  | k + 1, xs, ys, i => if i < (xs.length : Int) then (if 0 ≤ i then (wsame k (rd_T26 xs i) (rd_T26 ys i)).bind fun t => if t = true then wsamei k xs ys (wrap64 (i + 1)) else some false else none) else some true
end
theorem wsame_mono : ∀ k, (∀ a b, LeO (wsame k a b) (wsame (k + 1) a b)) ∧ (∀ a b, LeO (wsamel k a b) (wsamel (k + 1) a b)) ∧ (∀ a b i, LeO (wsamei k a b i) (wsamei (k + 1) a b i))
  | 0 => ⟨fun _ _ r h => by simp [wsame] at h, fun _ _ r h => by simp [wsamel] at h, fun _ _ _ r h => by simp [wsamei] at h⟩
  | k + 1 => by
    obtain ⟨i0, i1, i2⟩ := wsame_mono k
    refine ⟨?_, ?_, ?_⟩
    · intro a b
      unfold wsame
      exact LeO.ite (LeO.ite (LeO.bind (E.slices_Equal_byte_byte.mono _ _ _) (fun t => LeO.ite (i1 _ _) (LeO.refl _))) (LeO.refl _)) (LeO.refl _)
    · intro a b
      unfold wsamel
      exact LeO.ite (i2 _ _ _) (LeO.refl _)
    · intro a b i
      unfold wsamei
      exact LeO.ite (LeO.ite (LeO.bind (i0 _ _) (fun t => LeO.ite (i2 _ _ _) (LeO.refl _))) (LeO.refl _)) (LeO.refl _)

def SameAt (k : Nat) : Prop := ∀ (a b : S26) (A2 : Option Addr) (c2 : Nat) (A3 : Option Addr) (c3 : Nat) (B2 : Option Addr) (d2 : Nat) (B3 : Option Addr) (d3 : Nat) (r : Bool) (w : World) (h2 : Kd.C (Kd.int .u8) w A2 a.f2.length a.f2) (l2 : a.f2.length ≤ c2) (h3 : Kd.C k26 w A3 a.f3.length a.f3) (l3 : a.f3.length ≤ c3) (g2 : Kd.C (Kd.int .u8) w B2 b.f2.length b.f2) (m2 : b.f2.length ≤ d2) (g3 : Kd.C k26 w B3 b.f3.length b.f3) (m3 : b.f3.length ≤ d3) (h : wsame k a b = some r),
  Calls Try.prog 42 #[.agg #[.int .i64 a.f0, .int .u64 a.f1, .slice A2 a.f2.length c2, .slice A3 a.f3.length c3], .agg #[.int .i64 b.f0, .int .u64 b.f1, .slice B2 b.f2.length d2, .slice B3 b.f3.length d3]] w fun e w' => e = .returned (.bool r) ∧ Below w.heap.size w w'

set_option maxHeartbeats 2000000 in
set_option maxRecDepth 100000 in
theorem eqf_calls (k : Nat) (IH : ∀ k', k' < k → SameAt k') (xs ys : List S26) (A : Option Addr) (c : Nat) (B : Option Addr) (d : Nat) (r : Bool) (w : World) (h1 : Kd.C k26 w A xs.length xs) (l1 : xs.length ≤ c) (h2 : Kd.C k26 w B ys.length ys) (l2 : ys.length ≤ d) (h : wsamel k xs ys = some r) :
    Calls Try.prog 77 #[.slice A xs.length c, .slice B ys.length d, .func (.func 42) #[] #[]] w fun e w' => e = .returned (.bool r) ∧ Below w.heap.size w w' := by
  cases k with
  | zero => simp [wsamel] at h
  | succ k =>
  simp only [wsamel] at h
  have eg : ∀ args w, (callFunc 42 args).run Try.prog w = .ok (.enter 42 args) w := fun _ _ => rfl
  have H1 := Aside0.mk h1
  have H2 := Aside0.mk h2
  have HI := Aside0.mk IH
  have B0 := Aside0.mk (Below.refl w.heap.size w)
  clear h1 h2 IH
  by_cases c1 : (xs.length : Int) = (ys.length : Int)
  · rw [if_pos c1] at h
    have HH := Aside0.mk h
    have hlen := Aside0.mk c1
    have c1z : ((xs.length : Int) != (ys.length : Int)) = false := bne_eq_false_iff_eq.mpr c1
    clear h c1
    go_enter Try.func77, Try.ntmps77
    go_wp2
    go_loopg [17] k (fun gk vn wr => ∃ (kk : Nat) (i : Int), vn = .int .i64 i ∧ kk ≤ gk ∧ gk ≤ k ∧ Aside0 (wsamei kk xs ys i = some r) ∧ Aside0 (Below w.heap.size w wr))
    case atStart => exact ⟨k, 0, rfl, Nat.le_refl _, Nat.le_refl _, HH, B0⟩
    case round =>
      clear HH B0
      obtain ⟨kk, i, rfl, hkk, hgk, HV, HB⟩ := hrel
      have hv := HV.out
      cases kk with
      | zero => simp [wsamei] at hv
      | succ kk =>
        simp only [wsamei] at hv
        by_cases c2 : i < (xs.length : Int)
        · rw [if_pos c2] at hv
          by_cases hi0 : 0 ≤ i
          rotate_left 1
          · rw [if_neg hi0] at hv; cases hv
          rw [if_pos hi0] at hv
          have c2y : i < (ys.length : Int) := by rw [← hlen.out]; exact c2
          obtain ⟨ad, A2, e2, A3, e3, hA, u0, u1, u2, u3, m2, g2, m3, g3⟩ := at_T26 H1.out i hi0 c2
          obtain ⟨bd, B2, f2, B3, f3, hB, v0, v1, v2, v3, n2, k2, n3, k3⟩ := at_T26 H2.out i hi0 c2y
          subst hA hB
          have u0' := pw_cell_below HB.out u0
          have u1' := pw_cell_below HB.out u1
          have u2' := pw_cell_below HB.out u2
          have u3' := pw_cell_below HB.out u3
          have v0' := fun o => pw_cell_below (below_alloc HB.out o) v0
          have v1' := fun o => pw_cell_below (below_alloc HB.out o) v1
          have v2' := fun o => pw_cell_below (below_alloc HB.out o) v2
          have v3' := fun o => pw_cell_below (below_alloc HB.out o) v3
          rcases hs : wsame kk (rd_T26 xs i) (rd_T26 ys i) with _ | t
          · rw [hs] at hv; cases hv
          rw [hs] at hv
          replace hv : (if t = true then wsamei kk xs ys (wrap64 (i + 1)) else some false) = some r := hv
          have HC := Aside0.mk (fun (W : World) (hb : Below w.heap.size w W) => HI.out kk (by omega) (rd_T26 xs i) (rd_T26 ys i) A2 e2 A3 e3 B2 f2 B3 f3 t W (Kd.C_below g2 hb) m2 (Kd.C_below g3 hb) m3 (Kd.C_below k2 hb) n2 (Kd.C_below k3 hb) n3 hs)
          generalize rd_T26 xs i = X at *
          generalize rd_T26 ys i = Y at *
          have HV2 := Aside0.mk hv
          clear hv hs u0 u1 u2 u3 v0 v1 v2 v3 g2 m2 g3 m3 k2 n2 k3 n3 HV c1z l1 l2 H1 H2 hlen
          cases t with
          | true =>
            go_wp2_with (go_at_call 42; (with_reducible refine (HC.out _ (below_alloc (below_alloc HB.out _) _)).mono ?_); rintro e w7 ⟨rfl, hb7⟩)
            go_roundg kk
            case measure => omega
            case rel => exact ⟨kk, _, rfl, Nat.le_refl _, by omega, ⟨by have h := HV2.out; rw [if_pos trivial] at h; exact h⟩, ⟨below_step (below_alloc (below_alloc HB.out _) _) hb7⟩⟩
          | false =>
            go_wp2_with (go_at_call 42; (with_reducible refine (HC.out _ (below_alloc (below_alloc HB.out _) _)).mono ?_); rintro e w7 ⟨rfl, hb7⟩)
            go_ret
            have h := HV2.out
            rw [if_neg (by simp)] at h
            obtain rfl := Option.some.inj h
            exact ⟨rfl, below_step (below_alloc (below_alloc HB.out _) _) hb7⟩
        · rw [if_neg c2] at hv
          obtain rfl := Option.some.inj hv
          have c2z : decide (i < (xs.length : Int)) = false := decide_eq_false c2
          clear hv c2 HV
          go_wp2
          go_ret
          exact ⟨rfl, HB.out⟩
  · rw [if_neg c1] at h
    obtain rfl := Option.some.inj h
    have c1z : ((xs.length : Int) != (ys.length : Int)) = true := bne_iff_ne.mpr c1
    clear h c1
    go_enter Try.func77, Try.ntmps77
    go_wp2
    go_ret
    exact ⟨rfl, B0.out⟩

set_option maxHeartbeats 2000000 in
set_option maxRecDepth 100000 in
theorem same_calls (k : Nat) : SameAt k := by
  induction k using Nat.strongRecOn with
  | _ k ih =>
  intro a b A2 c2 A3 c3 B2 d2 B3 d3 r w h2 l2 h3 l3 g2 m2 g3 m3 h
  cases k with
  | zero => simp [wsame] at h
  | succ k =>
  simp only [wsame] at h
  obtain ⟨a0, a1, a2, a3⟩ := a
  obtain ⟨b0, b1, b2, b3⟩ := b
  dsimp only at *
  have B0 := below_alloc (below_alloc (Below.refl w.heap.size w) (.cells #[.int .i64 a0, .int .u64 a1, .slice A2 a2.length c2, .slice A3 a3.length c3] 26)) (.cells #[.int .i64 b0, .int .u64 b1, .slice B2 b2.length d2, .slice B3 b3.length d3] 26)
  have HB := Aside0.mk B0
  by_cases e0 : a0 = b0
  · rw [if_pos e0] at h
    by_cases e1 : a1 = b1
    · rw [if_pos e1] at h
      obtain ⟨t, ht, h⟩ := Option.bind_eq_some_iff.mp h
      have HE := Aside0.mk (fun (W : World) (hb : Below w.heap.size w W) => E.slices_Equal_byte_byte.calls k A2 c2 a2 B2 d2 b2 t W (Kd.C_below h2 hb) l2 (Kd.C_below g2 hb) m2 ht)
      have e0z : (a0 == b0) = true := beq_iff_eq.mpr e0
      have e1z : (a1 == b1) = true := beq_iff_eq.mpr e1
      cases t with
      | true =>
        rw [if_pos rfl] at h
        have HF := Aside0.mk (fun (W : World) (hb : Below w.heap.size w W) => eqf_calls k (fun k' hk => ih k' (by omega)) a3 b3 A3 c3 B3 d3 r W (Kd.C_below h3 hb) l3 (Kd.C_below g3 hb) m3 h)
        clear h2 l2 h3 l3 g2 m2 g3 m3 h ht ih e0 e1 B0
        go_enter Try.func42, Try.ntmps42
        go_wp2_with (first | (go_at_call 76; (with_reducible refine (HE.out _ HB.out).mono ?_); rintro e w7 ⟨rfl, hd7⟩; obtain ⟨m7, rfl⟩ := hd7.out) | (go_at_call 77; (with_reducible refine (HF.out _ (pw_below_drewN HB.out _)).mono ?_); rintro e w8 ⟨rfl, hb8⟩))
        go_ret
        exact ⟨rfl, below_step (pw_below_drewN HB.out _) hb8⟩
      | false =>
        rw [if_neg (by simp)] at h
        obtain rfl := Option.some.inj h
        clear h2 l2 h3 l3 g2 m2 g3 m3 ht ih e0 e1 B0
        go_enter Try.func42, Try.ntmps42
        go_wp2_with (first | (go_at_call 76; (with_reducible refine (HE.out _ HB.out).mono ?_); rintro e w7 ⟨rfl, hd7⟩; obtain ⟨m7, rfl⟩ := hd7.out))
        go_ret
        exact ⟨rfl, pw_below_drewN HB.out _⟩
    · rw [if_neg e1] at h
      obtain rfl := Option.some.inj h
      have e0z : (a0 == b0) = true := beq_iff_eq.mpr e0
      have e1z : (a1 == b1) = false := beq_eq_false_iff_ne.mpr e1
      clear h2 l2 h3 l3 g2 m2 g3 m3 h ih e0 e1 B0
      go_enter Try.func42, Try.ntmps42
      go_wp2
      go_ret
      exact ⟨rfl, HB.out⟩
  · rw [if_neg e0] at h
    obtain rfl := Option.some.inj h
    have e0z : (a0 == b0) = false := beq_eq_false_iff_ne.mpr e0
    clear h2 l2 h3 l3 g2 m2 g3 m3 h ih e0 B0
    go_enter Try.func42, Try.ntmps42
    go_wp2
    go_ret
    exact ⟨rfl, HB.out⟩
end Go.Proofs.Ytgijcafgnonjjaa.X
namespace Go.Proofs.Ytgijcafgnonjjaa.Q
open Go.RowKit Go.Proofs.YtgijcafgnonjjaaW.PrintWords Go.Proofs.YtgijcafgnonjjaaW.PrintLast Go.Proofs.YtgijcafgnonjjaaW.PrintMore Go.Proofs.Ytgijcafgnonjjaa.X
set_option linter.unusedVariables false
def wire_Same.f (k : Nat) (a0_0 a0_1 : Int) (l0_2 : List Int) (l0_3 : List S26) (a1_0 a1_1 : Int) (l1_2 : List Int) (l1_3 : List S26) : Option Bool := wsame k ⟨a0_0, a0_1, l0_2, l0_3⟩ ⟨a1_0, a1_1, l1_2, l1_3⟩
theorem wire_Same.mono : ∀ a0 a1 a2 a3 a4 a5 a6 a7 k, LeO (wire_Same.f k a0 a1 a2 a3 a4 a5 a6 a7) (wire_Same.f (k + 1) a0 a1 a2 a3 a4 a5 a6 a7) := fun _ _ _ _ _ _ _ _ k => (wsame_mono k).1 _ _
theorem wire_Same.calls (k : Nat) (a0_0 : Int) (a0_1 : Int) (A0_2 : Option Addr) (c0_2 : Nat) (l0_2 : List Int) (A0_3 : Option Addr) (c0_3 : Nat) (l0_3 : List (S26)) (a1_0 : Int) (a1_1 : Int) (A1_2 : Option Addr) (c1_2 : Nat) (l1_2 : List Int) (A1_3 : Option Addr) (c1_3 : Nat) (l1_3 : List (S26)) (r : Bool) (w : World) (hr0_2 : Kd.C (Kd.int .u8) w A0_2 l0_2.length l0_2) (hc0_2 : l0_2.length ≤ c0_2) (hr0_3 : Kd.C k26 w A0_3 l0_3.length l0_3) (hc0_3 : l0_3.length ≤ c0_3) (hr1_2 : Kd.C (Kd.int .u8) w A1_2 l1_2.length l1_2) (hc1_2 : l1_2.length ≤ c1_2) (hr1_3 : Kd.C k26 w A1_3 l1_3.length l1_3) (hc1_3 : l1_3.length ≤ c1_3) (h : wire_Same.f k a0_0 a0_1 l0_2 l0_3 a1_0 a1_1 l1_2 l1_3 = some r) :
    Calls Try.prog 42 #[.agg #[.int .i64 a0_0, .int .u64 a0_1, .slice A0_2 l0_2.length c0_2, .slice A0_3 l0_3.length c0_3], .agg #[.int .i64 a1_0, .int .u64 a1_1, .slice A1_2 l1_2.length c1_2, .slice A1_3 l1_3.length c1_3]] w fun e w' => e = .returned (.bool r) ∧ Below w.heap.size w w' :=
  same_calls k ⟨a0_0, a0_1, l0_2, l0_3⟩ ⟨a1_0, a1_1, l1_2, l1_3⟩ A0_2 c0_2 A0_3 c0_3 A1_2 c1_2 A1_3 c1_3 r w hr0_2 hc0_2 hr0_3 hc0_3 hr1_2 hc1_2 hr1_3 hc1_3 h
end Go.Proofs.Ytgijcafgnonjjaa.Q
