/- The law TrainOrder (func 6) walked: where it answers true. No condition. -/
import Derived.Test.YtkdegcpfjfgajaaXKnW
import Derived.Test.YtkdegcpfjfgajaaQ2W
import Derived.Test.YtkdegcpfjfgajaaQ4W
import Derived.Test.YtkdegcpfjfgajaaQ12W
import Derived.IntWalk
namespace Go.Proofs.Ytkdegcpfjfgajaa.L
open Go Go.RowKit Go.Proofs.YtkdegcpfjfgajaaW.PrintWords Go.Proofs.YtkdegcpfjfgajaaW.PrintLast Go.Proofs.YtkdegcpfjfgajaaW.PrintMore Go.Proofs.Ytkdegcpfjfgajaa.Q
set_option linter.unusedVariables false
set_option linter.unusedSimpArgs false
theorem below2' {w0 w W : World} (h1 : Below w0.heap.size w0 w) (h2 : Below w.heap.size w W) : Below w0.heap.size w0 W := h1.trans (h2.mono h1.size)
/-! ### the callees, over what is read -/
theorem own_C (k : Nat) (A : Option Addr) (c : Nat) (l : List S53) (ls : List S68) (W : World) (h : Kd.C k53 W A l.length l) (hc : l.length ≤ c) (hf : imprimaturlaw19_own.f k l = some ls) :
    Calls Try.prog 13 #[.slice A l.length c] W fun e w' => ∃ A1 c1, e = .returned (.slice A1 ls.length c1) ∧ (ls.length ≤ c1 ∧ Kd.C k68 w' A1 ls.length ls) ∧ Below W.heap.size W w' :=
  (imprimaturlaw19_own.calls k (fun k_ => k_ < W.heap.size) A c l ls W (Kd.V_mk hc (Kd.C_F k53_heap h)) hf).mono fun e w' hw => by
    obtain ⟨v, rfl, ho, hb⟩ := hw
    obtain ⟨A1, c1, e1⟩ := Kd.N_slice ho
    subst e1
    have hr := Kd.N_reads' ho
    exact ⟨_, _, rfl, ⟨hr.2.1, hr.2.2⟩, hb⟩
theorem learn_C (A : Option Addr) (c : Nat) (l : List S68) (a1 : Int) (A2 : Option Addr) (c2 : Nat) (sp : List (List Int)) (ts : List S43) (ms : List S38) (x : Int) (W : World) (h : Kd.C k68 W A l.length l) (hc : l.length ≤ c) (h2 : Kd.C (Kd.slice 5 (Kd.int .u8)) W A2 sp.length sp) (hc2 : sp.length ≤ c2) (hf : train_Learn.f l a1 sp = some (ts, ms, x)) :
    Calls Try.prog 12 #[.slice A l.length c, .int .i64 a1, .slice A2 sp.length c2] W fun e w' => ∃ A0 c0 A1 c1, e = .returned (.tuple #[.agg #[.slice A0 ts.length c0, .slice A1 ms.length c1], .int .i64 x]) ∧ (k43.R 43 w' W.heap.size (fun k => W.heap.size ≤ k) (.slice A0 ts.length c0) ts ∧ k38.R 38 w' W.heap.size (fun k => W.heap.size ≤ k) (.slice A1 ms.length c1) ms) ∧ Below W.heap.size W w' :=
  (train_Learn.calls A c l a1 A2 c2 sp ts ms x W h hc h2 hc2 hf).mono fun e w' hw => by
    obtain ⟨v0, v1, rfl, k0, k1, kb⟩ := hw
    obtain ⟨A0, c0, e0⟩ := Kd.R_slice k0
    obtain ⟨A1, c1, e1⟩ := Kd.R_slice k1
    subst e0; subst e1
    exact ⟨_, _, _, _, rfl, ⟨Kd.R_mono (Kd.R_bound k0) (fun _ h => h.2.1), Kd.R_mono (Kd.R_bound k1) (fun _ h => h.2.1)⟩, kb⟩
/-! ### the row of words that is put together -/
theorem rows_at {w W : World} {A : Option Addr} {n : Nat} {xs : List S53} (h : Kd.C k53 w A n xs) (hb : Below w.heap.size w W) : ReadsRow (k53.K w) 2 W A n xs := ReadsRow.imp_ h hb (fun _ _ hp => hp)
theorem row_read {w W : World} {base : Nat} {ok : Nat → Prop} {v : Value} {xs : List S53} (h : (Kd.fixed k53 w).R 53 W base ok v xs) (hb : Below w.heap.size w W) : ∃ A c, v = .slice A xs.length c ∧ xs.length ≤ c ∧ Kd.C k53 W A xs.length xs := by
  obtain ⟨A, c, h1, h2, h3⟩ := Kd.R_reads h
  exact ⟨A, c, h1, h2, ReadsRow.imp_ (w := W) h3 (Below.refl _ _) (fun _ _ hp => k53.K_below hb hp)⟩
theorem one_row {w W : World} {b : Nat} {t : S53} {cs : List Value} (hb : W.heap[b]? = some (.cells cs.toArray 53 (0, 0))) (hK : k53.K w t cs) : ReadsRow (k53.K w) 2 W (some ⟨b, 0, none⟩) 1 [t] := by
  refine ⟨rfl, by decide, fun _ => ⟨_, rfl, fun j p hj => ?_⟩⟩
  have hj0 : j = 0 := by
    rcases j with _ | j
    · rfl
    · simp at hj
  subst hj0
  simp only [List.getElem?_cons_zero, Option.some.injEq] at hj
  subst hj
  refine ⟨cs, k53.K_len hK, hK, fun i u hu => ?_⟩
  have h := blk_cell hb i
  rw [List.getElem?_toArray, hu] at h
  rcases Nat.eq_zero_or_pos i with rfl | h0
  · simpa [Addr.add] using h
  · rw [show (Addr.add ⟨b, 0, none⟩ (0 * 2 + i)) = ⟨b, i, none⟩ from by simp [Addr.add]; omega]
    exact h
/-- A row of its own that holds a word lies in a block; its first number may be set. -/
theorem row_set {w W : World} {base : Nat} {A : Option Addr} {m c : Nat} {x : S53} {xs : List S53} (h : (Kd.fixed k53 w).R 53 W base (fun k => base ≤ k) (.slice A m c) (x :: xs)) (n : Int) :
    ∃ g, A = some ⟨g, 0, none⟩ ∧ base ≤ g ∧ (∃ cells, W.heap[g]? = some (.cells cells 53 (0, 0))) ∧ W.cell? ⟨g, 1, none⟩ = some (.int .i64 x.f1) ∧ (Kd.fixed k53 w).R 53 (W.setCell ⟨g, 1, none⟩ (.int .i64 n)) base (fun k => base ≤ k) (.slice A m c) (⟨x.f0, n⟩ :: xs) := by
  obtain ⟨g, c', e, hgb, _, cells, hgc⟩ := Kd.R_form h (by simp)
  obtain ⟨rfl, rfl, rfl⟩ := Value.slice.inj e
  obtain ⟨A', c2, e2, h2, h3⟩ := Kd.R_reads h
  obtain ⟨rfl, -, -⟩ := Value.slice.inj e2
  obtain ⟨ad, ea, hc⟩ := h3.2.2 (by simp)
  cases ea
  obtain ⟨cs, hlen, hK, hcell⟩ := hc 0 x rfl
  obtain ⟨A0, c0, rfl, l0, g0⟩ := k53_open (show k53.K w x cs from hK)
  have x0 : W.cell? ⟨g, 0, none⟩ = some (.slice A0 x.f0.length c0) := hcell 0 _ rfl
  have x1 : W.cell? ⟨g, 1, none⟩ = some (.int .i64 x.f1) := hcell 1 _ rfl
  refine ⟨g, rfl, hgb, ⟨cells, hgc⟩, x1, ?_⟩
  have hs := Kd.R_seg (okp := fun k => base ≤ k ∧ k ≠ g) h 0 (by omega) (by simp) (c := [.slice A0 x.f0.length c0, .int .i64 x.f1]) (seg := [.int .i64 n]) (j := 1) rfl (fun j u hj => by
    match j, hj with
    | 0, hj => simp only [List.getElem?_cons_zero, Option.some.injEq] at hj; subst hj; exact x0
    | 1, hj => simp only [List.getElem?_cons_succ, List.getElem?_cons_zero, Option.some.injEq] at hj; subst hj; exact x1
    | j + 2, hj => simp at hj) (show 1 + [Value.int .i64 n].length ≤ 2 from Nat.le_refl _) (x' := (⟨x.f0, n⟩ : S53)) (show k53.K w (⟨x.f0, n⟩ : S53) _ from k53_mk w (⟨x.f0, n⟩ : S53) (A0 := A0) (c0 := c0) l0 g0) (fun k hk => hk)
  exact hs.1
theorem info53 : (Try.prog.info? 53).map (fun i => (i.zero, i.size, i.bytes)) = some (some (.agg #[.slice none 0 0, .int .i64 0]), 2, 32) := by kernel_rfl
def T6r5 : Bool × List (List Nat × List Nat) := (true, [([], []), ([], []), ([], []), ([1, 2], [1, 2]), ([0, 3], [0, 3]), ([], []), ([], []), ([5, 6], [5, 6]), ([4, 7, 4], [4, 7]), ([8, 8, 0, 1, 2, 3, 4, 5, 6, 7, 8], [0, 8])])
def B6r5 : List Nat := [0, 0, 0, 6, 15, 0, 0, 96, 255, 511]
theorem tab6r5 : rtab .any (opsOf Try.f6 5) = T6r5 := by kernel_rfl
theorem bits6r5 : waitsOk T6r5.2 B6r5 = true := by kernel_rfl
def T6r13 : Bool × List (List Nat × List Nat) := (true, [([], []), ([], []), ([], []), ([1, 2], [1, 2]), ([3], [3]), ([4], [4]), ([], []), ([], []), ([6, 7], [6, 7]), ([8], [8]), ([9], [9]), ([10], [10]), ([5, 11], [5, 11]), ([12], [12]), ([0, 13], [0, 13]), ([14, 14, 0, 1, 2, 3, 4, 5, 6, 7, 8, 9, 10, 11, 12, 13, 14], [0, 14])])
def B6r13 : List Nat := [0, 0, 0, 6, 14, 30, 0, 0, 192, 448, 960, 1984, 4094, 8190, 16383, 32767]
theorem tab6r13 : rtab .any (opsOf Try.f6 13) = T6r13 := by kernel_rfl
theorem bits6r13 : waitsOk T6r13.2 B6r13 = true := by kernel_rfl
set_option maxHeartbeats 8000000 in
set_option maxRecDepth 100000 in
theorem order_known (k : Nat) (A0 : Option Addr) (c0 : Nat) (l : List S53) (am at_ : Int) (A3 : Option Addr) (c3 : Nat) (sp : List (List Int)) (r b fw : Bool) (hg : imprimaturlaw19_great.f k l sp = some b) (hf : imprimaturlaw19_few.f am = some fw) (hc : b = true ∨ fw = false) (hk : imprimaturlaw19_known.f = some r)
    (w : World) (h1 : Kd.C k53 w A0 l.length l) (h2 : l.length ≤ c0) (h3 : Kd.C (Kd.slice 5 (Kd.int .u8)) w A3 sp.length sp) (h4 : sp.length ≤ c3) :
    Calls Try.prog 6 #[.slice A0 l.length c0, .int .i64 am, .int .i64 at_, .slice A3 sp.length c3] w fun e w' => e = .returned (.bool r) ∧ Below w.heap.size w w' := by
  have TG := Aside0.mk (fun (W : World) (hW : Below w.heap.size w W) => imprimaturlaw19_great.calls k A0 c0 l A3 c3 sp b W (Kd.C_below h1 hW) h2 (Kd.C_below h3 hW) h4 hg)
  have TF := Aside0.mk (fun (W : World) => imprimaturlaw19_few.calls am fw W hf)
  have TK := Aside0.mk (fun (W : World) => imprimaturlaw19_known.calls r W hk)
  clear h1 h2 h3 h4 hg hf hk
  cases b with
  | true =>
    clear hc
    go_enter Try.func6, Try.ntmps6
    go_wp2_with (first
      | (go_at_call 9; (with_reducible refine (TG.out _ ?tb).mono ?_); (case tb => (repeat (first | exact Below.refl _ _ | apply below_alloc | apply below_drew1 | apply pw_below_drewN))); rintro e w1 ⟨rfl, hd⟩; have HB1 := Aside0.mk (below2' (w0 := w) (by (repeat (first | exact Below.refl _ _ | apply below_alloc | apply below_drew1 | apply pw_below_drewN))) hd.below); clear hd)
      | (go_at_call 11; ((refine (TK.out _).mono ?_); rintro e w3 ⟨rfl, hb3⟩; have HB3 := Aside0.mk hb3; clear hb3)))
    go_ret
    exact ⟨rfl, below2' HB1.out HB3.out⟩
  | false =>
    obtain rfl : fw = false := by rcases hc with h | h; cases h; exact h
    clear hc
    go_enter Try.func6, Try.ntmps6
    go_wp2_with (first
      | (go_at_call 9; (with_reducible refine (TG.out _ ?tb).mono ?_); (case tb => (repeat (first | exact Below.refl _ _ | apply below_alloc | apply below_drew1 | apply pw_below_drewN))); rintro e w1 ⟨rfl, hd⟩; have HB1 := Aside0.mk (below2' (w0 := w) (by (repeat (first | exact Below.refl _ _ | apply below_alloc | apply below_drew1 | apply pw_below_drewN))) hd.below); clear hd)
      | (go_at_call 10; (with_reducible refine (TF.out _).mono ?_); rintro e w2 ⟨rfl, hd⟩; have HB2 := Aside0.mk (below2' HB1.out hd.below); clear hd)
      | (go_at_call 11; ((refine (TK.out _).mono ?_); rintro e w3 ⟨rfl, hb3⟩; have HB3 := Aside0.mk hb3; clear hb3)))
    go_ret
    exact ⟨rfl, below2' HB2.out HB3.out⟩
set_option maxHeartbeats 16000000 in
set_option maxRecDepth 100000 in
theorem order_ok (k : Nat) (A0 : Option Addr) (c0 : Nat) (l : List S53) (am at_ : Int) (A3 : Option Addr) (c3 : Nat) (sp : List (List Int)) (r : Bool) (hg : imprimaturlaw19_great.f k l sp = some false) (hf : imprimaturlaw19_few.f am = some true) (hk : imprimaturlaw19_known.f = some r)
    (l1 : l.length ≤ 400) (q : Int) (hq : imprimaturref01_Among.f at_ ((l.length : Int) + 1) = some q) (q0 : 0 ≤ q) (q1 : q ≤ l.length)
    (ls lm : List S68) (ts : List S43) (ms : List S38) (x : Int) (ho1 : imprimaturlaw19_own.f k l = some ls) (ho2 : imprimaturlaw19_own.f k (l.drop q.toNat ++ l.take q.toNat) = some lm) (hv1 : train_Learn.f ls am sp = some (ts, ms, x)) (hv2 : train_Learn.f lm am sp = some (ts, ms, x)) (hs : imprimaturref11_Same.f k ts ms ts ms = some true)
    (hX : (q = l.length ∨ q < l.length ∧ ((rd_T53 l q).f1 < 2 ∨ (rd_T53 l q).f1 > 4294967296)) ∨ (q < l.length ∧ ¬ (rd_T53 l q).f1 < 2 ∧ ¬ (rd_T53 l q).f1 > 4294967296 ∧
      (x ≠ 0 ∨ x = 0 ∧ ∃ lx xs ys g, imprimaturlaw19_own.f k (((⟨(rd_T53 l q).f0, 1⟩ : S53) :: ((l.drop (q.toNat + 1)) ++ l.take q.toNat)) ++ [⟨(rd_T53 l q).f0, (rd_T53 l q).f1 - 1⟩]) = some lx ∧ train_Learn.f lx am sp = some (xs, ys, g) ∧ (g = 2 ∨ g = 0 ∧ imprimaturref11_Same.f k ts ms xs ys = some true))))
    (w : World) (h1 : Kd.C k53 w A0 l.length l) (h2 : l.length ≤ c0) (h3 : Kd.C (Kd.slice 5 (Kd.int .u8)) w A3 sp.length sp) (h4 : sp.length ≤ c3) :
    Calls Try.prog 6 #[.slice A0 l.length c0, .int .i64 am, .int .i64 at_, .slice A3 sp.length c3] w fun e w' => e = .returned (.bool r) ∧ Below w.heap.size w w' := by
  have TG := Aside0.mk (fun (W : World) (hW : Below w.heap.size w W) => imprimaturlaw19_great.calls k A0 c0 l A3 c3 sp false W (Kd.C_below h1 hW) h2 (Kd.C_below h3 hW) h4 hg)
  have TF := Aside0.mk (fun (W : World) => imprimaturlaw19_few.calls am true W hf)
  have TK := Aside0.mk (fun (W : World) => imprimaturlaw19_known.calls r W hk)
  have TA := Aside0.mk (fun (W : World) => imprimaturref01_Among.calls at_ ((l.length : Int) + 1) q W hq)
  have TO1 := Aside0.mk (fun (W : World) (hW : Below w.heap.size w W) => own_C k A0 c0 l ls W (Kd.C_below h1 hW) h2 ho1)
  have HSP := Aside0.mk h3; have HSC := Aside0.mk h4; have HV1 := Aside0.mk hv1; have HV2 := Aside0.mk hv2; have HSA := Aside0.mk hs; have HXX := Aside0.mk hX; have H1 := Aside0.mk h1; have H2 := Aside0.mk h2
  obtain ⟨i0_, hi0_, -, hsz0_, -⟩ := info_parts info53
  have hwl : IntKind.i64.wrap ((l.length : Int) + 1) = (l.length : Int) + 1 := IntWalk.i64_in _ (by omega)
  obtain ⟨a1_, ha1⟩ : ∃ a1_, a1_ = l.take q.toNat := ⟨_, rfl⟩
  obtain ⟨b1, hb1⟩ : ∃ b1, b1 = l.drop q.toNat := ⟨_, rfl⟩
  obtain ⟨mm, hmm⟩ : ∃ mm, mm = b1 ++ a1_ := ⟨_, rfl⟩
  rw [← ha1, ← hb1, ← hmm] at ho2
  have HO2 := Aside0.mk ho2; have HMM := Aside0.mk hmm; have HQA := Aside0.mk ha1; have HQB := Aside0.mk hb1
  have LL := Aside0.mk (show a1_.length ≤ 400 ∧ b1.length ≤ 400 from by rw [ha1, hb1, List.length_take, List.length_drop]; omega)
  have LM := Aside0.mk (show mm.length ≤ 800 from by have := LL.out; rw [hmm, List.length_append]; omega)
  have la1 : a1_.length = q.toNat := by rw [ha1, List.length_take]; omega
  obtain ⟨Ab, hAb⟩ : ∃ Ab, Ab = (if c0 = q.toNat then A0 else A0.map (·.add (q.toNat * 2))) := ⟨_, rfl⟩
  have HCUT1 : Aside0 (∀ W : World, (Instr.slice 22 (.slice A0 l.length c0) (some (.int .i64 q)) none none).run Try.prog W = .ok (.slice Ab b1.length (c0 - q.toNat)) W) := ⟨by
    have h_ := cut_from (P := Try.prog) 22 53 .i64 Try.underlying22 hi0_ 2 hsz0_ A0 l.length c0 q q0 q1
    rw [← hAb, show l.length - q.toNat = b1.length from by rw [hb1, List.length_drop]] at h_
    exact h_⟩
  have HCUT2 : Aside0 (∀ W : World, (Instr.slice 22 (.slice A0 l.length c0) none (some (.int .i64 q)) none).run Try.prog W = .ok (.slice A0 a1_.length c0) W) := ⟨by rw [la1]; exact cut_to 22 53 .i64 Try.underlying22 hi0_ A0 l.length c0 q q0 q1 h2⟩
  have HC1 : Aside0 (Kd.C k53 w Ab b1.length b1) := ⟨by rw [hb1, hAb]; exact Kd.C_drop (k := k53) (m := q.toNat) h1 (by omega) h2⟩
  have HC2 : Aside0 (Kd.C k53 w A0 a1_.length a1_) := ⟨by rw [ha1]; exact Kd.C_take h1 (by omega)⟩
  have QQ := Aside0.mk (And.intro q0 q1)
  have L1 := Aside0.mk l1; clear hAb la1 hi0_ hsz0_ ha1 hb1 hmm; clear h1 h2 h3 h4 hg hf hk l1 hq q0 q1 ho1 ho2 hv1 hv2 hs hX
  go_enter Try.func6, Try.ntmps6
  go_upto_region 5 with (first
    | (go_at_call 9; (with_reducible refine (TG.out _ ?tb).mono ?_); (case tb => (repeat (first | exact Below.refl _ _ | apply below_alloc | apply below_drew1 | apply pw_below_drewN))); rintro e w1 ⟨rfl, hd⟩; have HB1 := Aside0.mk (below2' (w0 := w) (by (repeat (first | exact Below.refl _ _ | apply below_alloc | apply below_drew1 | apply pw_below_drewN))) hd.below); clear hd)
    | (go_at_call 10; (with_reducible refine (TF.out _).mono ?_); rintro e w2 ⟨rfl, hd⟩; have HB2 := Aside0.mk (below2' HB1.out hd.below); clear hd)
    | (go_at_call 14; (with_reducible refine (TA.out _).mono ?_); rintro e w3 ⟨rfl, hd⟩; have HB3 := Aside0.mk (below2' HB2.out hd.below); clear hd))
  have hcut1 := HCUT1.out; have hcut2 := HCUT2.out
  have hBV : Below w3.heap.size w3 w3.drew := below_drew1 (Below.refl _ _)
  refine start_ (n := 10) (S := fun _ => True) (ds := []) (bs_ 10 0) (by kernel_rfl) rfl rfl ⟨⟩ (fun hHeld => ?_); refine with_tabW tab6r5 bits6r5 (fun HT_ HW_ => ?_)
  generalize w3.drew = V5 at hBV hHeld ⊢
  refine pu_ 0 31 (bs_ 10 1) ?_; refine pu_ 1 32 (bs_ 10 3) ?_; refine pu_ 2 33 (bs_ 10 7) ?_
  refine pure_ (i := 3) (N := some 34) (v := ?_) (a' := ?_) (bs_ 10 15) rfl rfl (any_of HT_.out (by kernel_rfl)) (fun _ _ _ h => h) (Or.inl ⟨by rfl, ?_⟩) ?_ ?_
  rotate_left
  · intro w'
    first | (go_simp; with_reducible rfl) | (go_simp; rw [hcut1]; with_reducible rfl) | (go_simp; rw [hcut1]; rfl)
  rotate_left
  · simp only [Act.put, List.setIfInBounds_toArray, List.set_cons_zero, List.set_cons_succ, i64_w, i32_w]
    rfl
  refine pu_ 5 36 (bs_ 10 47) ?_; refine pu_ 6 37 (bs_ 10 111) ?_
  refine pure_ (i := 7) (N := some 38) (v := ?_) (a' := ?_) (bs_ 10 239) rfl rfl (any_of HT_.out (by kernel_rfl)) (fun _ _ _ h => h) (Or.inl ⟨by rfl, ?_⟩) ?_ ?_
  rotate_left
  · intro w'
    first | (go_simp; with_reducible rfl) | (go_simp; rw [hcut2]; with_reducible rfl) | (go_simp; rw [hcut2]; rfl)
  rotate_left
  · simp only [Act.put, List.setIfInBounds_toArray, List.set_cons_zero, List.set_cons_succ, i64_w, i32_w]
    rfl
  refine one_ (i := 4) (N := some 35) (bs_ 10 255) rfl rfl (one_of HT_.out (by kernel_rfl)) (by decide) (fun K hK => ?_)
  refine Kd.R_append_rows_step (Kd.fixed k53 w) (Rr := k53.K w) (w0 := w3) w3.heap.size (by rfl) (.tmp 31) (.tmp 34) 22 53 (.agg #[.slice none 0 0, .int .i64 0]) 32 rfl Try.underlying22 info53 rfl (show 0 < 2 by decide) (by decide) (.slice none 0 0) [] b1 Ab b1.length _ (fun k => w3.heap.size ≤ k) (fun _ => False) (by rfl) (by rfl) (Kd.R_nil _ _ _ _ _) ?aR (fun _ _ h => h) (fun _ h => h.elim) ?aF ?aB ?aS ?aL ?_
  (case aR => exact rows_at HC1.out (below2' HB3.out hBV))
  (case aF => exact fun k hk => Nat.le_trans (below_size (by repeat (first | exact hBV | apply below_alloc | apply below_drew1 | apply pw_below_drewN))) hk)
  (case aB => repeat (first | exact hBV | apply below_alloc | apply below_drew1 | apply pw_below_drewN))
  (case aS => exact below_size (by repeat (first | exact hBV | apply below_alloc | apply below_drew1 | apply pw_below_drewN)))
  (case aL => have := LL.out; (try have := LM.out); (try have := HML.out); (try simp only [List.length_nil, List.length_append, List.length_cons]); omega)
  intro v1 w4 ho hb hg_ hat
  replace ho : (Kd.fixed k53 w).R 53 w4 w3.heap.size (fun k => w3.heap.size ≤ k) v1 b1 := ho
  obtain ⟨A4, c4, hv4⟩ := Kd.R_slice ho
  subst hv4; have O4 := Aside0.mk ho; have HB4 := Aside0.mk hb; clear ho hg_ hat hb
  refine hK.out _ _ ⟨⟩ (fun hHeld => ?_)
  clear hK K
  refine norm_ (a' := ?_) ?_ ?_
  rotate_left
  · show Act.put _ (some 35) _ = _
    simp only [Act.put, List.setIfInBounds_toArray, List.set_cons_zero, List.set_cons_succ, i64_w, i32_w]
    rfl
  refine one_ (i := 8) (N := some 39) (bs_ 10 511) rfl rfl (one_of HT_.out (by kernel_rfl)) (by decide) (fun K hK => ?_)
  refine Kd.R_append_rows_step (Kd.fixed k53 w) (Rr := k53.K w) (w0 := w3) w3.heap.size (by rfl) (.tmp 35) (.tmp 38) 22 53 (.agg #[.slice none 0 0, .int .i64 0]) 32 rfl Try.underlying22 info53 rfl (show 0 < 2 by decide) (by decide) (.slice A4 b1.length c4) b1 a1_ A0 a1_.length _ (fun k => w3.heap.size ≤ k) (fun _ => False) (by rfl) (by rfl) (by (with_reducible repeat (first | apply Kd.R_alloc | apply Kd.R_drewN | apply Kd.R_drew)); exact O4.out) ?aR (fun _ _ h => h) (fun _ h => h.elim) ?aF ?aB ?aS ?aL ?_
  (case aR => exact rows_at HC2.out (below2' HB3.out HB4.out))
  (case aF => exact fun k hk => Nat.le_trans (below_size (by repeat (first | exact HB4.out | apply below_alloc | apply below_drew1 | apply pw_below_drewN))) hk)
  (case aB => repeat (first | exact HB4.out | apply below_alloc | apply below_drew1 | apply pw_below_drewN))
  (case aS => exact below_size (by repeat (first | exact HB4.out | apply below_alloc | apply below_drew1 | apply pw_below_drewN)))
  (case aL => have := LL.out; (try have := LM.out); (try have := HML.out); (try simp only [List.length_nil, List.length_append, List.length_cons]); omega)
  intro v2 w5 ho hb hg_ hat
  rw [← HMM.out] at ho
  obtain ⟨A5, c5, hv5⟩ := Kd.R_slice ho
  subst hv5; have O5 := Aside0.mk ho; have HB5 := Aside0.mk hb; clear ho hb hg_ hat
  refine hK.out _ _ ⟨⟩ (fun hHeld => ?_)
  clear hK K
  refine norm_ (a' := ?_) ?_ ?_
  rotate_left
  · show Act.put _ (some 39) _ = _
    simp only [Act.put, List.setIfInBounds_toArray, List.set_cons_zero, List.set_cons_succ, i64_w, i32_w]
    rfl
  refine pu_ 9 10 (bs_ 10 1023) ?_
  refine done_ (done_of HT_.out (by kernel_rfl)) ?_
  clear hcut1 hcut2
  have HBX := Aside0.mk (below2' HB3.out HB5.out)
  obtain ⟨A5', c5', e5', l5', C5'⟩ := row_read O5.out HBX.out
  obtain ⟨rfl, -, rfl⟩ := Value.slice.inj e5'
  have TO2 := Aside0.mk (fun (W : World) (hW : Below w5.heap.size w5 W) => own_C k A5 c5 mm lm W (Kd.C_below C5' hW) l5' HO2.out)
  clear e5' l5' C5'
  go_upto_region 7 with (first
    | (go_at_call 13; (with_reducible refine (TO1.out _ ?tb).mono ?_); (case tb => (repeat (first | exact HBX.out | apply below_alloc | apply below_drew1 | apply pw_below_drewN))); rintro e wo7 ⟨Ao7, co7, rfl, q, hb⟩; have HBo7 := Aside0.mk (below2' (w0 := w) (by (repeat (first | exact HBX.out | apply below_alloc | apply below_drew1 | apply pw_below_drewN))) hb); have HBp7 := Aside0.mk hb; have TL7 := Aside0.mk (fun (W : World) (hW : Below wo7.heap.size wo7 W) => learn_C Ao7 co7 ls am A3 c3 sp ts ms x W (Kd.C_below q.2 hW) q.1 (Kd.C_below HSP.out (below2' HBo7.out hW)) HSC.out HV1.out); clear q hb)
    | (go_at_call 12; (with_reducible refine (TL7.out _ ?tb).mono ?_); (case tb => repeat (first | exact Below.refl _ _ | apply below_alloc | apply below_drew1 | apply pw_below_drewN)); rintro e wl7 ⟨Al7, cl7, Am7, cm7, rfl, q, hb⟩; have HBl7 := Aside0.mk (below2' (w0 := w) (by repeat (first | exact HBo7.out | apply below_alloc | apply below_drew1 | apply pw_below_drewN)) hb); have HBq7 := Aside0.mk hb; have QL7 := Aside0.mk q; have b1_ := blk_new wl7 (.cells #[.slice none 0 0, .slice none 0 0] 30 (0, 0)); have z0 := blk_frozen b1_ 0; have z1 := blk_frozen b1_ 1; clear b1_ q hb))
  have bg := blk_new wl7 (.cells #[.slice Al7 ts.length cl7, .slice Am7 ms.length cm7] 30 (0, 0))
  have ba : Below wl7.heap.size wl7 (wl7.alloc (.cells #[.slice Al7 ts.length cl7, .slice Am7 ms.length cm7] 30 (0, 0))) := below_alloc (Below.refl _ _) _
  obtain ⟨g7, hg_⟩ : ∃ g7, g7 = wl7.heap.size := ⟨_, rfl⟩
  rw [← hg_] at bg
  rw [← hg_]
  generalize wl7.alloc _ = W7 at bg ba ⊢
  have BG7 := Aside0.mk bg
  have HBW7 := Aside0.mk (below2' HBl7.out ba)
  have HBs7 := Aside0.mk (below2' (below2' HBp7.out HBq7.out) ba)
  have QK7 := Aside0.mk (And.intro (Kd.R_below QL7.out.1 ba) (Kd.R_below QL7.out.2 ba))
  have LG7 := Aside0.mk (show w.heap.size ≤ g7 from by have := HBl7.out.size; omega)
  have LO7 := Aside0.mk (below_size HBp7.out)
  have LW7 := Aside0.mk (show wo7.heap.size ≤ g7 from by rw [hg_]; exact below_size HBq7.out)
  clear z0 z1 bg ba hg_ QL7 TL7 HBl7 HBo7 HBp7 HBq7
  go_upto_region 8 with (first
    | (go_at_call 13; (with_reducible refine (TO2.out _ ?tb).mono ?_); (case tb => (repeat (first | exact HBs7.out | apply below_alloc | apply below_drew1 | apply pw_below_drewN))); rintro e wo8 ⟨Ao8, co8, rfl, q, hb⟩; have HBo8 := Aside0.mk (below2' (w0 := w) (by (repeat (first | exact HBW7.out | apply below_alloc | apply below_drew1 | apply pw_below_drewN))) hb); have HBp8 := Aside0.mk hb; have TL8 := Aside0.mk (fun (W : World) (hW : Below wo8.heap.size wo8 W) => learn_C Ao8 co8 lm am A3 c3 sp ts ms x W (Kd.C_below q.2 hW) q.1 (Kd.C_below HSP.out (below2' HBo8.out hW)) HSC.out HV2.out); clear q hb)
    | (go_at_call 12; (with_reducible refine (TL8.out _ ?tb).mono ?_); (case tb => repeat (first | exact Below.refl _ _ | apply below_alloc | apply below_drew1 | apply pw_below_drewN)); rintro e wl8 ⟨Al8, cl8, Am8, cm8, rfl, q, hb⟩; have HBl8 := Aside0.mk (below2' (w0 := w) (by repeat (first | exact HBo8.out | apply below_alloc | apply below_drew1 | apply pw_below_drewN)) hb); have HBq8 := Aside0.mk hb; have QL8 := Aside0.mk q; have b1_ := blk_new wl8 (.cells #[.slice none 0 0, .slice none 0 0] 30 (0, 0)); have z0 := blk_frozen b1_ 0; have z1 := blk_frozen b1_ 1; clear b1_ q hb))
  have bg := blk_new wl8 (.cells #[.slice Al8 ts.length cl8, .slice Am8 ms.length cm8] 30 (0, 0))
  have ba : Below wl8.heap.size wl8 (wl8.alloc (.cells #[.slice Al8 ts.length cl8, .slice Am8 ms.length cm8] 30 (0, 0))) := below_alloc (Below.refl _ _) _
  obtain ⟨g8, hg_⟩ : ∃ g8, g8 = wl8.heap.size := ⟨_, rfl⟩
  rw [← hg_] at bg
  rw [← hg_]
  generalize wl8.alloc _ = W8 at bg ba ⊢
  have BG8 := Aside0.mk bg
  have HBW8 := Aside0.mk (below2' HBl8.out ba)
  have HBs8 := Aside0.mk (below2' (below2' HBp8.out HBq8.out) ba)
  have QK8 := Aside0.mk (And.intro (Kd.R_below QL8.out.1 ba) (Kd.R_below QL8.out.2 ba))
  have LG8 := Aside0.mk (show w.heap.size ≤ g8 from by have := HBl8.out.size; omega)
  have LO8 := Aside0.mk (below_size HBp8.out)
  have LW8 := Aside0.mk (show wo8.heap.size ≤ g8 from by rw [hg_]; exact below_size HBq8.out)
  clear z0 z1 bg ba hg_ QL8 TL8 HBl8 HBo8 HBp8 HBq8

  have TS := Aside0.mk (fun (W : World) (hW : Below W8.heap.size W8 W) => imprimaturref11_Same.calls k Al7 cl7 ts Am7 cm7 ms Al8 cl8 ts Am8 cm8 ms true W (Kd.C_below (Kd.C_below (Kd.R_reads' QK7.out.1).2.2 HBs8.out) hW) (Kd.R_reads' QK7.out.1).2.1 (Kd.C_below (Kd.C_below (Kd.R_reads' QK7.out.2).2.2 HBs8.out) hW) (Kd.R_reads' QK7.out.2).2.1 (Kd.C_below (Kd.R_reads' QK8.out.1).2.2 hW) (Kd.R_reads' QK8.out.1).2.1 (Kd.C_below (Kd.R_reads' QK8.out.2).2.2 hW) (Kd.R_reads' QK8.out.2).2.1 HSA.out)
  have d0 := (blk_cell (blk_below BG7.out HBs8.out) 0).trans (show _ = some (Value.slice Al7 ts.length cl7) from rfl)
  have d1 := (blk_cell (blk_below BG7.out HBs8.out) 1).trans (show _ = some (Value.slice Am7 ms.length cm7) from rfl)
  have d2 := (blk_cell BG8.out 0).trans (show _ = some (Value.slice Al8 ts.length cl8) from rfl)
  have d3 := (blk_cell BG8.out 1).trans (show _ = some (Value.slice Am8 ms.length cm8) from rfl)
  have ex : (x != x) = false := by simp
  go_upto_region 10 with (go_at_call 17; (with_reducible refine (TS.out _ ?tb).mono ?_); (case tb => (repeat (first | exact Below.refl _ _ | apply below_alloc | apply below_drew1 | apply pw_below_drewN))); rintro e w9 ⟨rfl, hb⟩; have HB9 := Aside0.mk (below2' HBW8.out hb); have HC9 := Aside0.mk (below2' HBs8.out hb); clear hb)
  clear d0 d1 d2 d3 ex TS
  rcases HXX.out with (hq_ | ⟨hq_, hN⟩) | ⟨hq_, n1, n2, hrest⟩
  · have e1 : (q == (l.length : Int)) = true := by rw [hq_]; simp
    clear hq_ HXX
    go_wp2_with (go_at_call 11; (refine (TK.out _).mono ?_); rintro e w10 ⟨rfl, hb3⟩; have HB10 := Aside0.mk hb3; clear hb3)
    go_ret
    exact ⟨rfl, below2' HB9.out HB10.out⟩
  · have e1 : (q == (l.length : Int)) = false := beq_eq_false_iff_ne.mpr (by omega)
    obtain ⟨ad, Aq, cq, eA, x0, x1, hlq, hcq⟩ := at_T53 H1.out q QQ.out.1 hq_
    subst eA
    have p0 := eq_true QQ.out.1
    have p1 := eq_true hq_
    replace x1 := pw_cell_below HB9.out x1
    clear x0 hlq hcq hq_ HXX
    by_cases hN2 : (rd_T53 l q).f1 < 2
    · have e2 : decide ((rd_T53 l q).f1 < 2) = true := decide_eq_true hN2
      clear hN hN2
      go_wp2_with (go_at_call 11; (refine (TK.out _).mono ?_); rintro e w10 ⟨rfl, hb3⟩; have HB10 := Aside0.mk hb3; clear hb3)
      go_ret
      exact ⟨rfl, below2' HB9.out HB10.out⟩
    · have e2 : decide ((rd_T53 l q).f1 < 2) = false := decide_eq_false hN2
      have e3 : decide ((4294967296 : Int) < (rd_T53 l q).f1) = true := decide_eq_true (by omega)
      clear hN hN2
      go_wp2_with (go_at_call 11; (refine (TK.out _).mono ?_); rintro e w10 ⟨rfl, hb3⟩; have HB10 := Aside0.mk hb3; clear hb3)
      go_ret
      exact ⟨rfl, below2' HB9.out HB10.out⟩
  · have e1 : (q == (l.length : Int)) = false := beq_eq_false_iff_ne.mpr (by omega)
    obtain ⟨ad, Aq, cq, eA, x0, x1, hlq, hcq⟩ := at_T53 H1.out q QQ.out.1 hq_
    subst eA
    have p0 := eq_true QQ.out.1
    have p1 := eq_true hq_
    have hmt : mm = rd_T53 l q :: (l.drop (q.toNat + 1) ++ l.take q.toNat) := by
      have hqn : q.toNat < l.length := by have := QQ.out.1; omega
      rw [HMM.out, HQB.out, HQA.out, List.drop_eq_getElem_cons hqn]
      have e : rd_T53 l q = l[q.toNat] := by rw [rd_T53, List.getD_eq_getElem?_getD, List.getElem?_eq_getElem hqn, Option.getD_some]
      rw [e]; rfl
    obtain ⟨mt, hmt2⟩ : ∃ mt, mt = l.drop (q.toNat + 1) ++ l.take q.toNat := ⟨_, rfl⟩
    obtain ⟨t, ht⟩ : ∃ t, t = rd_T53 l q := ⟨_, rfl⟩
    rw [← hmt2] at hmt hrest
    rw [← ht] at hmt hrest n1 n2 x0 x1 hlq hcq
    have O9 := Aside0.mk (Kd.R_below (Kd.R_below O5.out HBs7.out) HC9.out)
    obtain ⟨g, hAg, hg0, ⟨cells, hgc⟩, hcell, hR⟩ := row_set (x := t) (xs := mt) (by rw [← hmt]; exact O9.out) 1
    have hg5 : g < w5.heap.size := by
      obtain ⟨g', _, e', hgb', hgl', _⟩ := Kd.R_form O5.out (by rw [hmt]; simp)
      obtain ⟨rfl, -, -⟩ := Value.slice.inj e'
      have := congrArg (fun z => z.map Addr.block) hAg
      simp only [Option.map_some, Option.some.injEq] at this
      omega
    subst hAg
    have HG0 := Aside0.mk (And.intro hg0 hg5)
    have HRR := Aside0.mk hR; have HRE := Aside0.mk hrest
    have HML := Aside0.mk (show mm.length = mt.length + 1 from by rw [hmt]; rfl)
    have HK := Aside0.mk (And.intro hlq hcq)
    have N12 := Aside0.mk (And.intro n1 n2)
    have HMT2 := Aside0.mk hmt2
    have z1 := blk_frozen hgc 1
    have r0 := eq_true (show 0 < mm.length from by rw [hmt]; simp)
    have r1 := eq_true (show (0 : Int) < (mm.length : Int) from by rw [hmt]; simp)
    have X0 := Aside0.mk (pw_cell_below HB9.out x0)
    have X1 := Aside0.mk (pw_cell_below HB9.out x1)
    have XW0 := Aside0.mk x0; have XW1 := Aside0.mk x1
    replace x1 := X1.out
    have e2 : decide (t.f1 < 2) = false := decide_eq_false (by omega)
    have e3 : decide ((4294967296 : Int) < t.f1) = false := decide_eq_false (by omega)
    have HTT := Aside0.mk ht; clear ht; clear hmt hmt2 x0 hlq hcq hq_ HXX hgc hR hg0 hg5 n1 n2 hrest
    go_upto_region 13 with (fail)
    have hb12 := below_set (j := 1) (v := .int .i64 1) HB9.out (show w.heap.size ≤ g from by have := HG0.out.1; have := HB3.out.size; omega)
    have hc12 := below_set (j := 1) (v := .int .i64 1) (below2' (below2' HB5.out HBs7.out) HC9.out) HG0.out.1
    have b7 := blk_far (p := ⟨g, 1, none⟩) (blk_below BG7.out HC9.out) (show g7 ≠ g from by have := HG0.out.2; have := LO7.out; have := LW7.out; omega) (.int .i64 1)
    have k7 := Kd.R_far (p := ⟨g, 1, none⟩) (Kd.R_below QK7.out.1 HC9.out) (fun k_ hk_ e_ => by have := HG0.out.2; have := LO7.out; simp only at e_; omega) (.int .i64 1)
    have k8 := Kd.R_far (p := ⟨g, 1, none⟩) (Kd.R_below QK7.out.2 HC9.out) (fun k_ hk_ e_ => by have := HG0.out.2; have := LO7.out; simp only at e_; omega) (.int .i64 1)
    have o12 := HRR.out
    generalize w9.setCell ⟨g, 1, none⟩ (.int .i64 1) = W12 at hb12 hc12 b7 k7 k8 o12 ⊢
    have HB12 := Aside0.mk hb12; have HC12 := Aside0.mk hc12; have B7 := Aside0.mk b7
    have K78 := Aside0.mk (And.intro k7 k8)
    have O12 := Aside0.mk o12; clear hb12 hc12 b7 k7 k8 o12 x1 z1 hcell e1 e2 e3 HRR
    have hws : IntKind.i64.wrap (t.f1 - 1) = t.f1 - 1 := IntWalk.i64_in _ (by have := N12.out; omega)
    have HKY : Aside0 (k53.K w (⟨t.f0, t.f1 - 1⟩ : S53) [.slice Aq t.f0.length cq, .int .i64 (t.f1 - 1)]) := ⟨k53_mk w (⟨t.f0, t.f1 - 1⟩ : S53) (A0 := Aq) (c0 := cq) HK.out.1 HK.out.2⟩
    obtain ⟨u, hu⟩ : ∃ u, u = (⟨t.f0, 1⟩ : S53) := ⟨_, rfl⟩
    obtain ⟨y, hy⟩ : ∃ y, y = (⟨t.f0, t.f1 - 1⟩ : S53) := ⟨_, rfl⟩
    rw [← hy] at HKY
    have UY := Aside0.mk (And.intro hu hy)
    have lm13 : (u :: mt).length = mm.length := HML.out.symm
    replace O12 : Aside0 ((Kd.fixed k53 w).R 53 W12 w3.heap.size (fun k => w3.heap.size ≤ k) (.slice (some ⟨g, 0, none⟩) mm.length c5) (u :: mt)) := ⟨by rw [hu]; exact O12.out⟩
    obtain ⟨m2, hm2⟩ : ∃ m2, m2 = u :: mt ++ [y] := ⟨_, rfl⟩
    have HM2 := Aside0.mk hm2; clear hu hy lm13 hm2
    have x0 : W12.cell? (ad.add (q.toNat * 2)) = some (.slice Aq t.f0.length cq) := pw_cell_below HB12.out XW0.out
    have x1 : W12.cell? ⟨(ad.add (q.toNat * 2)).block, (ad.add (q.toNat * 2)).off + 1, none⟩ = some (.int .i64 t.f1) := pw_cell_below HB12.out XW1.out
    have NE0 : Aside0 (some (ad.add (q.toNat * 2)).block ≠ (.slice (some ⟨g, 0, none⟩) mm.length c5 : Value).ownBlock) := ⟨fun h_ => by have h2_ : (ad.add (q.toNat * 2)).block = g := Option.some.inj h_; have h3_ := World.block_lt_of_cell? w _ XW0.out; have := HG0.out.1; have := HB3.out.size; omega⟩
    have hBV : Below W12.heap.size W12 W12.drew := below_drew1 (Below.refl _ _)
    refine start_ (n := 16) (S := fun w' => w'.cell? (ad.add (q.toNat * 2)) = some (.slice Aq t.f0.length cq) ∧ w'.cell? ⟨(ad.add (q.toNat * 2)).block, (ad.add (q.toNat * 2)).off + 1, none⟩ = some (.int .i64 t.f1)) (ds := []) (bs_ 16 0) (by kernel_rfl) rfl rfl ⟨pw_cell_below (below_drew1 (Below.refl _ _)) x0, pw_cell_below (below_drew1 (Below.refl _ _)) x1⟩ (fun hHeld => ?_); refine with_tabW tab6r13 bits6r13 (fun HT_ HW_ => ?_)
    generalize W12.drew = V13 at hBV hHeld ⊢
    refine pu_ 0 89 (bs_ 16 1) ?_; refine pu_ 1 90 (bs_ 16 3) ?_; refine pu_ 2 91 (bs_ 16 7) ?_; refine pu_ 3 92 (bs_ 16 15) ?_; refine pu_ 4 93 (bs_ 16 31) ?_; refine tk_ 5 94 (bs_ 16 63) ?_; refine pu_ 6 95 (bs_ 16 127) ?_; refine pu_ 7 96 (bs_ 16 255) ?_; refine pu_ 8 97 (bs_ 16 511) ?_; refine pu_ 9 98 (bs_ 16 1023) ?_; refine tk_ 10 99 (bs_ 16 2047) ?_
    refine pure_ (i := 11) (N := some 100) (v := ?_) (a' := ?_) (bs_ 16 4095) rfl rfl (any_of HT_.out (by kernel_rfl)) (fun _ _ _ h => h) (Or.inl ⟨by rfl, ?_⟩) ?_ ?_
    rotate_left
    · intro w'
      first | (go_simp; rw [hws]; with_reducible rfl) | (go_simp; rw [hws]; rfl) | (go_simp; rfl)
    rotate_left
    · simp only [Act.put, List.setIfInBounds_toArray, List.set_cons_zero, List.set_cons_succ, i64_w, i32_w]
      rfl
    refine pu_ 12 101 (bs_ 16 8191) ?_
    refine one_ (i := 13) (N := some 102) (bs_ 16 16383) rfl rfl (one_of HT_.out (by kernel_rfl)) (by decide) (fun K hK => ?_)
    refine value_ (w1 := ?_) (v := ?_) (by rfl) rfl ?_ ?_
    rotate_left 2
    · go_simp
      constructor
      · rfl
      · rfl
    refine hK.out _ _ ⟨pw_cell_below (below_alloc hBV _) x0, pw_cell_below (below_alloc hBV _) x1⟩ (fun hHeld => ?_)
    clear hK K
    refine norm_ (a' := ?_) ?_ ?_
    rotate_left
    · show Act.put _ (some 102) _ = _
      simp only [Act.put, List.setIfInBounds_toArray, List.set_cons_zero, List.set_cons_succ, i64_w, i32_w]
      rfl
    refine one_ (i := 14) (N := some 103) (bs_ 16 32767) rfl rfl (one_of HT_.out (by kernel_rfl)) (by decide) (fun K hK => ?_)
    refine Kd.R_append_rows_step (Kd.fixed k53 w) (Rr := k53.K w) (w0 := w3) w3.heap.size (by rfl) (.tmp 89) (.tmp 102) 22 53 (.agg #[.slice none 0 0, .int .i64 0]) 32 rfl Try.underlying22 info53 rfl (show 0 < 2 by decide) (by decide) (.slice (some ⟨g, 0, none⟩) mm.length c5) (u :: mt) [y] _ 1 1 (fun k => w3.heap.size ≤ k) (fun _ => False) (by rfl) (by rfl) (Kd.R_below O12.out (below_alloc hBV _)) ?aR (fun _ _ h => h) (fun _ h => h.elim) ?aF ?aB ?aS ?aL ?_
    (case aR => exact one_row (blk_new _ _) HKY.out)
    (case aF => exact fun k hk => Nat.le_trans (below_size (by repeat (first | exact (below2' HC12.out hBV) | apply below_alloc | apply below_drew1 | apply pw_below_drewN))) hk)
    (case aB => repeat (first | exact (below2' HC12.out hBV) | apply below_alloc | apply below_drew1 | apply pw_below_drewN))
    (case aS => exact below_size (by repeat (first | exact (below2' HC12.out hBV) | apply below_alloc | apply below_drew1 | apply pw_below_drewN)))
    (case aL => have := LL.out; (try have := LM.out); (try have := HML.out); (try simp only [List.length_nil, List.length_append, List.length_cons]); omega)
    intro v3 w13 ho hb hg_ hat
    rw [← HM2.out] at ho
    obtain ⟨A13, c13, hv13⟩ := Kd.R_slice ho
    subst hv13; have O13 := Aside0.mk ho; have HB13 := Aside0.mk hb; have HG13 := Aside0.mk hg_; clear ho hb hg_ hat
    refine hK.out _ _ ⟨cell_grown HG13.out (pw_cell_below (below_alloc hBV _) x0) NE0.out, cell_grown HG13.out (pw_cell_below (below_alloc hBV _) x1) NE0.out⟩ (fun hHeld => ?_)
    clear hK K
    refine norm_ (a' := ?_) ?_ ?_
    rotate_left
    · show Act.put _ (some 103) _ = _
      simp only [Act.put, List.setIfInBounds_toArray, List.set_cons_zero, List.set_cons_succ, i64_w, i32_w]
      rfl
    refine pu_ 15 10 (bs_ 16 65535) ?_
    refine done_ (done_of HT_.out (by kernel_rfl)) ?_
    clear hws x0 x1
    have b7 := blk_grown (blk_alloc (blk_below B7.out hBV) _) HG13.out (show some g7 ≠ some g from fun h_ => by have h2_ := Option.some.inj h_; have := HG0.out.2; have := LO7.out; have := LW7.out; omega)
    have k7 := Kd.R_grown (Kd.R_alloc (Kd.R_below K78.out.1 hBV) _) HG13.out (fun k_ hk_ => show some k_ ≠ some g from fun h_ => by have h2_ := Option.some.inj h_; have := HG0.out.2; have := LO7.out; omega)
    have k8 := Kd.R_grown (Kd.R_alloc (Kd.R_below K78.out.2 hBV) _) HG13.out (fun k_ hk_ => show some k_ ≠ some g from fun h_ => by have h2_ := Option.some.inj h_; have := HG0.out.2; have := LO7.out; omega)
    have B13 := Aside0.mk b7
    have K13 := Aside0.mk (And.intro k7 k8)
    have HBD := Aside0.mk (below2' HB3.out HB13.out)
    obtain ⟨A13', c13', e13', l13', C13'⟩ := row_read O13.out HBD.out
    obtain ⟨rfl, -, rfl⟩ := Value.slice.inj e13'
    have H13 := Aside0.mk (And.intro l13' C13')
    clear b7 k7 k8 e13' l13' C13'
    rcases HRE.out with hx0 | ⟨hx0, lx, xs, ys, gx, ho3, hv3, hres⟩
    · have e1 : (x != 0) = true := by simpa using hx0
      clear hx0 HRE
      go_wp2_with (go_at_call 11; (refine (TK.out _).mono ?_); rintro e w15 ⟨rfl, hb3⟩; have HB15 := Aside0.mk hb3; clear hb3)
      go_ret
      exact ⟨rfl, below2' HBD.out HB15.out⟩
    · subst hx0
      rw [← UY.out.1, ← UY.out.2, ← HM2.out] at ho3
      have HV3 := Aside0.mk hv3; have HRS := Aside0.mk hres
      have TO3 := Aside0.mk (fun (W : World) (hW : Below w13.heap.size w13 W) => own_C k A13 c13 m2 lx W (Kd.C_below H13.out.2 hW) H13.out.1 ho3)
      clear HRE ho3 hv3 hres
      go_upto_region 17 with (first
        | (go_at_call 13; (with_reducible refine (TO3.out _ ?tb).mono ?_); (case tb => (repeat (first | exact Below.refl _ _ | apply below_alloc | apply below_drew1 | apply pw_below_drewN))); rintro e wo16 ⟨Ao16, co16, rfl, q, hb⟩; have HBo16 := Aside0.mk (below2' (w0 := w) (by (repeat (first | exact HBD.out | apply below_alloc | apply below_drew1 | apply pw_below_drewN))) hb); have HBp16 := Aside0.mk hb; have TL16 := Aside0.mk (fun (W : World) (hW : Below wo16.heap.size wo16 W) => learn_C Ao16 co16 lx am A3 c3 sp xs ys gx W (Kd.C_below q.2 hW) q.1 (Kd.C_below HSP.out (below2' HBo16.out hW)) HSC.out HV3.out); clear q hb)
        | (go_at_call 12; (with_reducible refine (TL16.out _ ?tb).mono ?_); (case tb => repeat (first | exact Below.refl _ _ | apply below_alloc | apply below_drew1 | apply pw_below_drewN)); rintro e wl16 ⟨Al16, cl16, Am16, cm16, rfl, q, hb⟩; have HBl16 := Aside0.mk (below2' (w0 := w) (by repeat (first | exact HBo16.out | apply below_alloc | apply below_drew1 | apply pw_below_drewN)) hb); have HBq16 := Aside0.mk hb; have QL16 := Aside0.mk q; have b1_ := blk_new wl16 (.cells #[.slice none 0 0, .slice none 0 0] 30 (0, 0)); have z0 := blk_frozen b1_ 0; have z1 := blk_frozen b1_ 1; clear b1_ q hb))
      have bg := blk_new wl16 (.cells #[.slice Al16 xs.length cl16, .slice Am16 ys.length cm16] 30 (0, 0))
      have ba : Below wl16.heap.size wl16 (wl16.alloc (.cells #[.slice Al16 xs.length cl16, .slice Am16 ys.length cm16] 30 (0, 0))) := below_alloc (Below.refl _ _) _
      obtain ⟨g16, hg_⟩ : ∃ g16, g16 = wl16.heap.size := ⟨_, rfl⟩
      rw [← hg_] at bg
      rw [← hg_]
      generalize wl16.alloc _ = W16 at bg ba ⊢
      have BG16 := Aside0.mk bg
      have HBW16 := Aside0.mk (below2' HBl16.out ba)
      have HBs16 := Aside0.mk (below2' (below2' HBp16.out HBq16.out) ba)
      have QK16 := Aside0.mk (And.intro (Kd.R_below QL16.out.1 ba) (Kd.R_below QL16.out.2 ba))
      have LG16 := Aside0.mk (show w.heap.size ≤ g16 from by have := HBl16.out.size; omega)
      have LO16 := Aside0.mk (below_size HBp16.out)
      have LW16 := Aside0.mk (show wo16.heap.size ≤ g16 from by rw [hg_]; exact below_size HBq16.out)
      clear z0 z1 bg ba hg_ QL16 TL16 HBl16 HBo16 HBp16 HBq16
      have d0 := (blk_cell (blk_below B13.out HBs16.out) 0).trans (show _ = some (Value.slice Al7 ts.length cl7) from rfl)
      have d1 := (blk_cell (blk_below B13.out HBs16.out) 1).trans (show _ = some (Value.slice Am7 ms.length cm7) from rfl)
      have d2 := (blk_cell BG16.out 0).trans (show _ = some (Value.slice Al16 xs.length cl16) from rfl)
      have d3 := (blk_cell BG16.out 1).trans (show _ = some (Value.slice Am16 ys.length cm16) from rfl)
      rcases HRS.out with hg2 | ⟨hg2, hsm⟩
      · subst hg2
        clear HRS
        go_wp2_with (go_at_call 11; (refine (TK.out _).mono ?_); rintro e w17 ⟨rfl, hb3⟩; have HB17 := Aside0.mk hb3; clear hb3)
        go_ret
        exact ⟨rfl, below2' HBW16.out HB17.out⟩
      · subst hg2
        have TS2 := Aside0.mk (fun (W : World) (hW : Below W16.heap.size W16 W) => imprimaturref11_Same.calls k Al7 cl7 ts Am7 cm7 ms Al16 cl16 xs Am16 cm16 ys true W (Kd.C_below (Kd.C_below (Kd.R_reads' K13.out.1).2.2 HBs16.out) hW) (Kd.R_reads' K13.out.1).2.1 (Kd.C_below (Kd.C_below (Kd.R_reads' K13.out.2).2.2 HBs16.out) hW) (Kd.R_reads' K13.out.2).2.1 (Kd.C_below (Kd.R_reads' QK16.out.1).2.2 hW) (Kd.R_reads' QK16.out.1).2.1 (Kd.C_below (Kd.R_reads' QK16.out.2).2.2 hW) (Kd.R_reads' QK16.out.2).2.1 hsm)
        clear HRS hsm
        go_wp2_with (first
          | (go_at_call 17; (with_reducible refine (TS2.out _ ?tb).mono ?_); (case tb => (repeat (first | exact Below.refl _ _ | apply below_alloc | apply below_drew1 | apply pw_below_drewN))); rintro e w17 ⟨rfl, hb⟩; have HB17 := Aside0.mk hb; clear hb)
          | (go_at_call 11; (refine (TK.out _).mono ?_); rintro e w18 ⟨rfl, hb3⟩; have HB18 := Aside0.mk hb3; clear hb3))
        go_ret
        exact ⟨rfl, below2' (below2' HBW16.out HB17.out) HB18.out⟩
end Go.Proofs.Ytkdegcpfjfgajaa.L
