/- reader.bytes: what it answers, and that its Go text does so. No condition but the reader's own. -/
import Derived.Test.YtgijcafgnonjjaaXPan
import Derived.Laws.BitsAllLaws
import Derived.StillTailTactics
namespace Go.Proofs.Ytgijcafgnonjjaa.X
open Go.RowKit Go.Proofs.YtgijcafgnonjjaaW.PrintWords Go.Proofs.YtgijcafgnonjjaaW.PrintLast Go.Proofs.YtgijcafgnonjjaaW.PrintMore Go.Proofs.Ytgijcafgnonjjaa.Q
attribute [local go_sem] max2_int min2_int max_two min_two max_three min_three max_four min_four
set_option linter.unusedVariables false

theorem infoE : ∃ i, Try.prog.info? 5 = some i ∧ i.size = 1 := by
  obtain ⟨i, h1, h2⟩ := Option.map_eq_some_iff.1 info5
  exact ⟨i, h1, by simp only [Prod.mk.injEq] at h2; exact h2.2.1⟩

theorem wrap0 : IntKind.u64.wrap 0 = 0 := by rw [IntKind.wrap_u64]; rfl
theorem or_byte (n x : Nat) (hn : n < 72057594037927936) (hx : x < 256) : Go.bits .or .u64 (IntKind.u64.wrap ((n : Int) * 256)) (x : Int) = ((n * 256 + x : Nat) : Int) := by
  have e : IntKind.u64.wrap ((n : Int) * 256) = ((n * 256 : Nat) : Int) := by
    rw [IntKind.wrap_u64]; omega
  rw [e, u64_or_nat (n * 256) x (by omega) (by omega)]
  congr 1
  have h := Nat.two_pow_add_eq_or_of_lt (i := 8) (b := x) (by omega) n
  rw [show (2 : Nat) ^ 8 * n = n * 256 by omega] at h
  exact h.symm

/-- The bytes' number, d of them still to come. -/
def bGo (l : List Int) (frm size : Int) : Nat → Int → Int → Int → Res
  | 0, _, a, n => .inl (n, a)
  | d + 1, i, a, n =>
    if a = l.length then .inr (frm, 20)
    else if i = 0 ∧ rd l a = 0 then .inr (frm, 22)
    else if size = 1 ∧ rd l a < 192 then .inr (frm, 22)
    else bGo l frm size d (i + 1) (a + 1) (n * 256 + rd l a)
theorem cGo_eq (l : List Int) (hby : ∀ i, 0 ≤ rd l i ∧ rd l i ≤ 255) (frm size : Int) : ∀ (d i : Nat) (a : Int) (n : Nat), i + d ≤ 8 → n < 256 ^ i → cGo l frm size d i a n = bGo l frm size d i a n
  | 0, _, _, _, _, _ => rfl
  | d + 1, i, a, n, hi, hn => by
    have hb := hby a
    have h7 : n < 72057594037927936 := Nat.lt_of_lt_of_le hn (show 256 ^ i ≤ 256 ^ 7 from Nat.pow_le_pow_right (by omega) (by omega))
    obtain ⟨x, hx⟩ : ∃ x : Nat, rd l a = (x : Int) := ⟨(rd l a).toNat, by omega⟩
    have ih := cGo_eq l hby frm size d (i + 1) (a + 1) (n * 256 + x) (by omega) (by rw [Nat.pow_succ]; omega)
    simp only [cGo, bGo]
    rw [hx, or_byte n x h7 (by omega), show ((i : Int) + 1) = ((i + 1 : Nat) : Int) by omega, ih]
    rw [show ((n * 256 + x : Nat) : Int) = (n : Int) * 256 + (x : Int) by omega]
theorem bGo_ok (l : List Int) (hby : ∀ i, 0 ≤ rd l i ∧ rd l i ≤ 255) (frm size : Int) : ∀ (d i : Nat) (a : Int) (n : Nat) (r a' : Int), i + d ≤ 8 → n < 256 ^ i → a ≤ l.length → bGo l frm size d i a n = .inl (r, a') → 0 ≤ r ∧ r < 18446744073709551616 ∧ a ≤ a' ∧ a' ≤ l.length
  | 0, i, a, n, r, a', hi, hn, ha, h => by
    simp only [bGo, Sum.inl.injEq, Prod.mk.injEq] at h
    have h8 : n < 256 ^ 8 := Nat.lt_of_lt_of_le hn (Nat.pow_le_pow_right (by omega) (by omega))
    obtain ⟨rfl, rfl⟩ := h
    exact ⟨by omega, by omega, by omega, ha⟩
  | d + 1, i, a, n, r, a', hi, hn, ha, h => by
    have hb := hby a
    obtain ⟨x, hx⟩ : ∃ x : Nat, rd l a = (x : Int) := ⟨(rd l a).toNat, by omega⟩
    simp only [bGo] at h
    by_cases c1 : a = l.length
    · rw [if_pos c1] at h; cases h
    rw [if_neg c1] at h
    by_cases c2 : (i : Int) = 0 ∧ rd l a = 0
    · rw [if_pos c2] at h; cases h
    rw [if_neg c2] at h
    by_cases c3 : size = 1 ∧ rd l a < 192
    · rw [if_pos c3] at h; cases h
    rw [if_neg c3, hx, show ((n : Int) * 256 + x) = ((n * 256 + x : Nat) : Int) by omega, show ((i : Int) + 1) = ((i + 1 : Nat) : Int) by omega] at h
    have := bGo_ok l hby frm size d (i + 1) (a + 1) (n * 256 + x) r a' (by omega) (by rw [Nat.pow_succ]; omega) (by omega) h
    omega
theorem cnt_ok (l : List Int) (hby : ∀ i, 0 ≤ rd l i ∧ rd l i ≤ 255) (a : Int) (ha : a ≤ l.length) (n a' : Int) (h : cnt l a = .inl (n, a')) : 0 ≤ n ∧ n < 18446744073709551616 ∧ a + 1 ≤ a' ∧ a' ≤ l.length := by
  have hb := hby a
  unfold cnt at h
  by_cases c1 : a = l.length
  · rw [if_pos c1] at h; cases h
  rw [if_neg c1] at h
  by_cases c2 : rd l a < 192
  · rw [if_pos c2] at h
    simp only [Sum.inl.injEq, Prod.mk.injEq] at h
    omega
  rw [if_neg c2] at h
  by_cases c3 : 199 < rd l a
  · rw [if_pos c3] at h; cases h
  rw [if_neg c3] at h
  have e := cGo_eq l hby a (rd l a - 191) (rd l a - 191).toNat 0 (a + 1) 0 (by omega) (by decide)
  have e' : cGo l a (rd l a - 191) (rd l a - 191).toNat 0 (a + 1) 0 = bGo l a (rd l a - 191) (rd l a - 191).toNat 0 (a + 1) 0 := e
  rw [e'] at h
  have := bGo_ok l hby a (rd l a - 191) (rd l a - 191).toNat 0 (a + 1) 0 n a' (by omega) (by decide) (by omega) h
  omega

def byts (l : List Int) (a E : Int) : (List Int × Int) ⊕ (Int × Int) :=
  match cnt l a with
  | .inr e => .inr e
  | .inl (n, a') =>
    if n > IntKind.u64.wrap (mx 0 E) then .inr (a, 2)
    else if n > (l.length : Int) - a' then .inr (a', 20)
    else .inl ((l.take (a' + n).toNat).drop a'.toNat, a' + n)
def BPost (w0 w : World) (g : Nat) (l : List Int) (many B D M E : Int) (r : (List Int × Int) ⊕ (Int × Int)) (e : Ending) (w' : World) : Prop :=
  match r with
  | .inl (bs, a) => ∃ v : Value, e = .returned v ∧ Kd.R (Kd.int .u8) 5 w' w.heap.size (fun _ => True) v bs ∧ IsRd w0 w' g l a many B D M E ∧ Below w0.heap.size w0 w' ∧ KeepBut w w' g none
  | .inr (p, er) => e = .panicked [pan p er] ∧ Below w0.heap.size w0 w'

set_option maxHeartbeats 2000000 in
set_option maxRecDepth 100000 in
theorem bytes_calls (g : Nat) (l : List Int) (at_ many B D M E : Int) (r : (List Int × Int) ⊕ (Int × Int)) (w0 w : World) (hI : IsRd w0 w g l at_ many B D M E) (hB : Below w0.heap.size w0 w) (h0 : 0 ≤ at_) (h1 : at_ ≤ l.length) (hl : l.length ≤ 140737488355328) (hby : ∀ i, 0 ≤ rd l i ∧ rd l i ≤ 255) (hr : byts l at_ E = r) :
    Calls Try.prog 83 #[.pointer (some ⟨g, 0, none⟩)] w (BPost w0 w g l many B D M E r) := by
  have FC := fail_calls
  have HI0 := Aside0.mk hI
  have HR := Aside0.mk hr
  have HK := Aside0.mk hby
  obtain ⟨A0, c0, hb, hg, hC, hcc⟩ := hI
  have f1 := blk_cell hb 1
  simp only [List.getElem?_toArray, List.getElem?_cons_zero, List.getElem?_cons_succ] at f1
  have hcn := count_calls g l at_ many B D M E _ w0 w HI0.out hB h0 h1 hl hby rfl
  clear hb hC hcc
  rcases hcr : cnt l at_ with ⟨n, a⟩ | ⟨p, er⟩
  · rw [hcr] at hcn
    obtain ⟨n0, n1, a0, a1⟩ := cnt_ok l hby at_ h1 n a hcr
    have HR' := HR.out
    unfold byts at HR'
    rw [hcr] at HR'
    replace HR' : (if n > IntKind.u64.wrap (mx 0 E) then .inr (at_, 2) else if n > (l.length : Int) - a then .inr (a, 20) else .inl ((l.take (a + n).toNat).drop a.toNat, a + n)) = r := HR'
    have hcn' : Calls Try.prog 71 #[.pointer (some ⟨g, 0, none⟩)] w fun e w' => e = .returned (.int .u64 n) ∧ IsRd w0 w' g l a many B D M E ∧ Below w0.heap.size w0 w' ∧ KeepBut w w' g none := hcn
    clear hcn hr hby hB
    have HR2 := Aside0.mk HR'
    clear HR' hcr HR
    go_enter Try.func83, Try.ntmps83
    go_upto_region 3 with (go_at_call 71; (with_reducible refine hcn'.mono ?_); rintro e w' ⟨rfl, HI, HB, HK⟩)
    clear f1 HI0
    have HI1 := Aside0.mk HI
    have HB1 := Aside0.mk HB
    have HK1 := Aside0.mk HK
    obtain ⟨A1, c1, hb, hg1, hC, hcc⟩ := HI
    have HC := Aside0.mk (Kd.C_below hC HB)
    have g0 := blk_cell hb 0
    have g1 := blk_cell hb 1
    have g6 := blk_cell hb 6
    simp only [List.getElem?_toArray, List.getElem?_cons_zero, List.getElem?_cons_succ] at g0 g1 g6
    have z1 := blk_frozen hb 1
    clear hb hC HB HK hg1
    obtain ⟨m, hm, hmx⟩ : ∃ m, ((0 < E ∧ m = E) ∨ (E ≤ 0 ∧ m = 0)) ∧ mx 0 E = m := by
      unfold mx
      by_cases h : 0 < E
      · exact ⟨E, .inl ⟨h, rfl⟩, by rw [if_pos h]⟩
      · exact ⟨0, .inr ⟨by omega, rfl⟩, by rw [if_neg h]⟩
    have HR3 := HR2.out
    rw [hmx] at HR3
    clear HR2 hmx
    have HR2 := Aside0.mk HR3
    clear HR3
    by_cases c2 : n > IntKind.u64.wrap m
    · have HR3 := HR2.out
      rw [if_pos c2] at HR3
      have R1 := Aside0.mk HR3.symm
      have c2b : decide (IntKind.u64.wrap m < n) = true := decide_eq_true c2
      clear HR3 HR2 c2
      rcases hm with ⟨hE, rfl⟩ | ⟨hE, rfl⟩
      rotate_left 1
      rw [wrap0] at c2b
      rotate_left 1
      all_goals
        go_wp2_with (go_at_call 67; (with_reducible refine (FC _ _ _).mono ?_); rintro e w' ⟨rfl, rfl⟩)
        refine ⟨rfl, ?_⟩
        rw [R1.out]
        exact ⟨rfl, HB1.out⟩
    · have HR3 := HR2.out
      rw [if_neg c2] at HR3
      have c2b : decide (IntKind.u64.wrap m < n) = false := decide_eq_false c2
      have s1 : IntKind.i64.wrap ((l.length : Int) - a) = (l.length : Int) - a := by rw [IntKind.wrap_i64]; omega
      have s2 : IntKind.u64.wrap ((l.length : Int) - a) = (l.length : Int) - a := by rw [IntKind.wrap_u64]; omega
      by_cases c3 : n > (l.length : Int) - a
      · rw [if_pos c3] at HR3
        have R1 := Aside0.mk HR3.symm
        have c3b : decide ((l.length : Int) - a < n) = true := decide_eq_true c3
        clear HR3 HR2 c2 c3
        rcases hm with ⟨hE, rfl⟩ | ⟨hE, rfl⟩
        rotate_left 1
        rw [wrap0] at c2b
        rotate_left 1
        all_goals
          go_wp2_with (go_at_call 67; (with_reducible refine (FC _ _ _).mono ?_); rintro e w' ⟨rfl, rfl⟩)
          go_quiet (fail)
          go_wp2_with (go_at_call 67; (with_reducible refine (FC _ _ _).mono ?_); rintro e w' ⟨rfl, rfl⟩)
          refine ⟨rfl, ?_⟩
          rw [R1.out]
          exact ⟨rfl, pw_below_drewN HB1.out _⟩
      · rw [if_neg c3] at HR3
        have R1 := Aside0.mk HR3.symm
        have c3b : decide ((l.length : Int) - a < n) = false := decide_eq_false c3
        have n2 : n ≤ (l.length : Int) - a := by omega
        clear HR3 HR2 c2 c3
        rcases hm with ⟨hE, rfl⟩ | ⟨hE, rfl⟩
        rotate_left 1
        rw [wrap0] at c2b
        rotate_left 1
        all_goals
          go_wp2_with (go_at_call 67; (with_reducible refine (FC _ _ _).mono ?_); rintro e w' ⟨rfl, rfl⟩)
          go_quiet (fail)
          go_wp2_with (go_at_call 67; (with_reducible refine (FC _ _ _).mono ?_); rintro e w' ⟨rfl, rfl⟩)
          have IW := Aside0.mk (IsRd.set_at (IsRd.drewN HI1.out nq) (a + n))
          have BW : Aside0 (Below w0.heap.size w0 ((w'.drewN nq).setCell ⟨g, 1, none⟩ (.int .i64 (a + n)))) := ⟨(pw_below_drewN HB1.out _).setCell hg _⟩
          have KW : Aside0 (KeepBut w ((w'.drewN nq).setCell ⟨g, 1, none⟩ (.int .i64 (a + n))) g none) := ⟨KeepBut.set_ HK1.out _ _⟩
          generalize ((w'.drewN nq).setCell ⟨g, 1, none⟩ (.int .i64 (a + n))) = W2 at IW BW KW ⊢
          clear g0 g1 g6 z1 HI1 HB1 HK1 HC hcn'
          obtain ⟨A3, c3, hb, _, hC, hcc3⟩ := IW.out
          have HC := Aside0.mk (Kd.C_below hC BW.out)
          have g0 := blk_cell hb 0
          have g1 := blk_cell hb 1
          simp only [List.getElem?_toArray, List.getElem?_cons_zero, List.getElem?_cons_succ] at g0 g1
          clear hb hC
          obtain ⟨ie, hie, hise⟩ := infoE
          obtain ⟨A2, hsl, hrd, hc2⟩ := print_mid_int (P := Try.prog) (k := .u8) 23 5 Try.underlying23 hie hise A3 c3 l a (a + n) (by omega) (by omega) (by omega) hcc3
          have HRD := Aside0.mk hrd
          clear hrd hie hise
          have s3 : IntKind.i64.wrap (a + n - n) = a := by rw [IntKind.wrap_i64]; omega
          have s5 : IntKind.i64.wrap a = a := by rw [IntKind.wrap_i64]; omega
          have s4 : IntKind.i64.wrap n = n := by rw [IntKind.wrap_i64]; omega
          go_still_tail 16, (by kernel_rfl)
          change wpList _ _ _ _ _ W2.drew
          have HCm : Kd.C (Kd.int .u8) W2.drew A2 ((l.take (a + n).toNat).drop a.toNat).length ((l.take (a + n).toNat).drop a.toNat) :=
            Kd.C_of_reads (d := (0 : Int)) (HRD.out W2.drew (Kd.reads_of_C (d := (0 : Int)) (Kd.C_drewN HC.out 1)))
          rw [List.length_drop, List.length_take] at HCm
          have hle : ((l.take (a + n).toNat).drop a.toNat).length ≤ l.length := by rw [List.length_drop, List.length_take]; omega
          refine Kd.R_append_row (Value.int .u8) (0 : Int) (h1 := fun _ => rfl) (w0 := W2) W2.heap.size rfl (.const (.slice none 0 0)) (.tmp 64) 23 5 (.int .u8 0) 1 rfl Try.underlying23 info5 rfl (by decide) (.slice none 0 0) [] ((l.take (a + n).toNat).drop a.toNat) A2 _ _ (fun _ => True) rfl rfl (fun _ _ => trivial) (Kd.R_nil _ _ _ _ _) HCm (below_drew (Below.refl _ _)) (Nat.le_refl _) (by simp only [List.length_nil]; omega) ?_
          intro v1 w1 hR hB1 _ _
          have RR := Aside0.mk hR
          have BB := Aside0.mk hB1
          clear hR hB1 HCm hle
          go_wp2
          go_ret
          rw [R1.out]
          exact ⟨_, rfl, Kd.R_lower (by have hh := RR.out; rw [List.nil_append] at hh; exact hh) KW.out.1, IW.out.below BB.out, below_then BW.out BW.out.size BB.out, KW.out.trans (KeepBut.of_below BB.out _ _) (.inl rfl)⟩
  · rw [hcr] at hcn
    have HR' := HR.out
    unfold byts at HR'
    rw [hcr] at HR'
    replace HR' : .inr (p, er) = r := HR'
    have R1 := Aside0.mk HR'.symm
    have hcn' : Calls Try.prog 71 #[.pointer (some ⟨g, 0, none⟩)] w fun e w' => e = .panicked [pan p er] ∧ Below w0.heap.size w0 w' := hcn
    clear hcn hr hby hB HR' hcr HR
    go_enter Try.func83, Try.ntmps83
    go_wp2_with (go_at_call 71; (with_reducible refine hcn'.mono ?_); rintro e w' ⟨rfl, HB⟩)
    refine ⟨rfl, ?_⟩
    rw [R1.out]
    exact ⟨rfl, HB⟩
