/- The checker of a vocabulary: how it lies in memory; its method token. No condition but the checker's own. -/
import Derived.Test.YtlgagppdipdkeaaQ2V
import Derived.Maps.OwnSet
import Derived.Maps.Views
import Derived.Maps.OwnOps
import Derived.Deep.RegionLaw
import Derived.StillTailTactics
import Derived.Outline
import Derived.StringKeys
import Derived.Lib.Hide
section
namespace Go.Proofs.Ytlgagppdipdkeaa.Q
open Go.RowKit Go.Proofs.YtlgagppdipdkeaaW.PrintWords Go.Proofs.YtlgagppdipdkeaaW.PrintLast Go.Proofs.YtlgagppdipdkeaaW.PrintMore
set_option linter.unusedVariables false
def hasPre (l0 l1 : List Int) : Bool := decide (l1.length ≤ l0.length) && ((strOfNums (l0.take l1.length)).toList == (strOfNums l1).toList)
theorem bytes_HasPrefix.calls (A0 : Option Addr) (c0 : Nat) (l0 : List Int) (A1 : Option Addr) (c1 : Nat) (l1 : List Int) (w : World) (hr0 : Kd.C (Kd.int .u8) w A0 l0.length l0) (hc0 : l0.length ≤ c0) (hr1 : Kd.C (Kd.int .u8) w A1 l1.length l1) (hc1 : l1.length ≤ c1) :
    Calls Try.prog 70 #[.slice A0 l0.length c0, .slice A1 l1.length c1] w fun e w' => e = .returned (.bool (hasPre l0 l1)) ∧ Drawn0 w w' := by
  have HR0 := Aside0.mk hr0; have HC0 := Aside0.mk hc0; clear hr0 hc0; have HR1 := Aside0.mk hr1; have HC1 := Aside0.mk hc1; clear hr1 hc1
  by_cases c : l1.length ≤ l0.length
  · obtain ⟨p, hp, hpl⟩ : ∃ p, p = l0.take l1.length ∧ p.length = l1.length := ⟨_, rfl, by rw [List.length_take]; omega⟩
    have hR : hasPre l0 l1 = ((strOfNums p).toList == (strOfNums l1).toList) := by unfold hasPre; rw [hp]; simp [c]
    have HR := Aside0.mk hR; clear hR
    obtain ⟨i07, hi07, _, hsz7, _⟩ := info_parts info5
    obtain ⟨hcut, _, hC7⟩ := print_take_of (P := Try.prog) (Value.int .u8) 0 37 5 .i64 Try.underlying37 hi07 hsz7 A0 c0 l0 (l1.length : Int) (by omega) (by omega) HC0.out
    rw [Int.toNat_natCast, List.length_take, Nat.min_eq_left c] at hcut hC7
    have hcp : Kd.C (Kd.int .u8) w A0 p.length p := by rw [hp]; exact Kd.C_take HR0.out c
    have HE : ∀ W : World, Drawn0 w W → Calls Try.prog 98 #[.slice A0 l1.length c0, .slice A1 l1.length c1] W fun e w' => e = .returned (.bool ((strOfNums p).toList == (strOfNums l1).toList)) ∧ Drawn0 W w' := by
      intro W hW
      obtain ⟨n, rfl⟩ := hW.out
      have := bytes_Equal.calls A0 c0 p A1 c1 l1 _ (w.drewN n) (Kd.C_drewN hcp n) (by omega) (Kd.C_drewN HR1.out n) HC1.out rfl
      rw [hpl] at this
      exact this
    have HE' := Aside0.mk HE; have HP' := Aside0.mk hpl; have HQ' := Aside0.mk hp; clear HE hpl hp hcp hC7 hi07 hsz7
    have c3b0 : decide ((l1.length : Int) ≤ (l0.length : Int)) = true := decide_eq_true (by omega)
    have c3b1 : decide (l1.length ≤ l0.length) = true := decide_eq_true c
    have c4b1 : decide (0 ≤ (l1.length : Int)) = true := decide_eq_true (by omega)
    clear c
    go_enter Try.func70, Try.ntmps70
    go_wp2_with (go_at_call 98; (refine (HE'.out _ ?hd).mono ?_); (case hd => repeat (first | exact Drawn0.refl _ | apply Drawn0.step)); rintro e w1 ⟨rfl, hd⟩; obtain ⟨nq, rfl⟩ := hd.out)
    go_ret
    rw [HR.out]
    exact ⟨rfl, by repeat (first | exact Drawn0.refl _ | apply Drawn0.step)⟩
  · have hR : hasPre l0 l1 = false := by unfold hasPre; simp [c]
    have HR := Aside0.mk hR; clear hR
    have c3b0 : decide ((l1.length : Int) ≤ (l0.length : Int)) = false := decide_eq_false (by omega)
    have c3b1 : decide (l1.length ≤ l0.length) = false := decide_eq_false c
    clear c
    go_enter Try.func70, Try.ntmps70
    go_wp2
    go_ret
    rw [HR.out]
    exact ⟨rfl, by repeat (first | exact Drawn0.refl _ | apply Drawn0.step)⟩
/-- What is behind a prefix. -/
theorem bytes_CutPrefix.calls (A0 : Option Addr) (c0 : Nat) (l0 : List Int) (A1 : Option Addr) (c1 : Nat) (l1 : List Int) (w : World) (hr0 : Kd.C (Kd.int .u8) w A0 l0.length l0) (hc0 : l0.length ≤ c0) (hr1 : Kd.C (Kd.int .u8) w A1 l1.length l1) (hc1 : l1.length ≤ c1) (hh : hasPre l0 l1 = true) :
    Calls Try.prog 127 #[.slice A0 l0.length c0, .slice A1 l1.length c1] w fun e w' => ∃ A2 c2, e = .returned (.tuple #[.slice A2 (l0.length - l1.length) c2, .bool true]) ∧ Kd.C (Kd.int .u8) w A2 (l0.length - l1.length) (l0.drop l1.length) ∧ l0.length - l1.length ≤ c2 ∧ Drawn0 w w' := by
  have HR0 := Aside0.mk hr0; have HC0 := Aside0.mk hc0; clear hr0 hc0; have HR1 := Aside0.mk hr1; have HC1 := Aside0.mk hc1; clear hr1 hc1
  have c : l1.length ≤ l0.length := by unfold hasPre at hh; simp at hh; exact hh.1
  obtain ⟨i07, hi07, _, hsz7, _⟩ := info_parts info5
  obtain ⟨A2, hcut, hrd, hC7⟩ := print_drop_of (P := Try.prog) (Value.int .u8) 0 37 5 .i64 Try.underlying37 hi07 hsz7 A0 c0 l0 (l1.length : Int) (by omega) (by omega) HC0.out
  rw [Int.toNat_natCast, List.length_drop] at hcut hC7
  have hrd2 := hrd w (Kd.reads_of_C HR0.out)
  have hcd := Kd.C_of_reads (d := (0 : Int)) (h1 := fun _ => rfl) hrd2
  rw [Int.toNat_natCast, List.length_drop] at hcd
  have HCD := Aside0.mk hcd; have HH := Aside0.mk hh; have HC7 := Aside0.mk hC7; clear hh hcd hrd hrd2 hC7 hi07 hsz7
  have c3b1 : decide (l1.length ≤ l0.length) = true := decide_eq_true c
  have c4b1 : decide (0 ≤ (l1.length : Int)) = true := decide_eq_true (by omega)
  clear c
  go_enter Try.func127, Try.ntmps127
  go_wp2_with (go_at_call 70; (refine (bytes_HasPrefix.calls _ _ l0 _ _ l1 _ ?s1 ?s2 ?s3 ?s4).mono ?_); (case s1 => exact HR0.out); (case s2 => exact HC0.out); (case s3 => exact HR1.out); (case s4 => exact HC1.out); rw [HH.out]; rintro e w1 ⟨rfl, hd⟩; obtain ⟨nq, rfl⟩ := hd.out)
  go_ret2
  exact ⟨A2, _, rfl, HCD.out, HC7.out, by repeat (first | exact Drawn0.refl _ | apply Drawn0.step)⟩
theorem bytes_CutPrefix.not (A0 : Option Addr) (c0 : Nat) (l0 : List Int) (A1 : Option Addr) (c1 : Nat) (l1 : List Int) (w : World) (hr0 : Kd.C (Kd.int .u8) w A0 l0.length l0) (hc0 : l0.length ≤ c0) (hr1 : Kd.C (Kd.int .u8) w A1 l1.length l1) (hc1 : l1.length ≤ c1) (hh : hasPre l0 l1 = false) :
    Calls Try.prog 127 #[.slice A0 l0.length c0, .slice A1 l1.length c1] w fun e w' => e = .returned (.tuple #[.slice A0 l0.length c0, .bool false]) ∧ Drawn0 w w' := by
  have HR0 := Aside0.mk hr0; have HC0 := Aside0.mk hc0; clear hr0 hc0; have HR1 := Aside0.mk hr1; have HC1 := Aside0.mk hc1; clear hr1 hc1; have HH := Aside0.mk hh; clear hh
  go_enter Try.func127, Try.ntmps127
  go_wp2_with (go_at_call 70; (refine (bytes_HasPrefix.calls _ _ l0 _ _ l1 _ ?s1 ?s2 ?s3 ?s4).mono ?_); (case s1 => exact HR0.out); (case s2 => exact HC0.out); (case s3 => exact HR1.out); (case s4 => exact HC1.out); rw [HH.out]; rintro e w1 ⟨rfl, hd⟩; obtain ⟨nq, rfl⟩ := hd.out)
  go_ret2
  exact ⟨rfl, by repeat (first | exact Drawn0.refl _ | apply Drawn0.step)⟩
end Go.Proofs.Ytlgagppdipdkeaa.Q

end
namespace Go.Proofs.Ytlgagppdipdkeaa.X
open Go.RowKit Go.Maps Go.Proofs.YtlgagppdipdkeaaW.PrintWords Go.Proofs.YtlgagppdipdkeaaW.PrintLast Go.Proofs.YtlgagppdipdkeaaW.PrintMore Go.Proofs.Ytlgagppdipdkeaa.Q
set_option linter.unusedVariables false
set_option linter.unusedSimpArgs false
abbrev Ids := ByteArray → Option Int
theorem law9 : Keyed Try.prog 9 := string_keyed Try.underlying9
theorem zero2 (w : World) : (zeroValue 2).run Try.prog w = .ok (.int .i64 0) w := by kernel_rfl
/-- Block b is a map of at most n entries that holds what I says. -/
def MapI (W : World) (b n : Nat) (I : Ids) : Prop :=
  ∃ D : DataW Unit, W.ownsMap Try.prog 9 (plainElem Try.prog 2) b n D ∧ ∀ s : ByteArray, s.size ≤ maxLen → Maps.has D (.string s.data.toList) = (I s).isSome ∧ D.atKey (.string s.data.toList) (.lit (.int .i64 0)) = .lit (.int .i64 ((I s).getD 0))
theorem ownsMap_same {H : Type} {W W1 : World} {P : Program} {k : TypeId} {R : Value → Option (DataW H × List MemPlace)} {b n : Nat} {D : DataW H} (h : W.ownsMap P k R b n D) (e : W1.heap[b]? = W.heap[b]?) : W1.ownsMap P k R b n D := by
  obtain ⟨es, clock, hb, F, hs, hD⟩ := h
  exact ⟨es, clock, e.trans hb, F, hs, hD⟩
theorem MapI.same {W W1 : World} {b n : Nat} {I : Ids} (h : MapI W b n I) (e : W1.heap[b]? = W.heap[b]?) : MapI W1 b n I := by
  obtain ⟨D, h1, h2⟩ := h
  exact ⟨D, ownsMap_same h1 e, h2⟩
theorem MapI.lt {W : World} {b n : Nat} {I : Ids} (h : MapI W b n I) : b < W.heap.size := by
  obtain ⟨D, h1, h2⟩ := h
  exact h1.lt
theorem MapI.made (W : World) : MapI (W.alloc (.map #[] 0)) W.heap.size 0 (fun _ => none) :=
  ⟨.map [], World.ownsMap_made _ _ _ _, fun s _ => ⟨rfl, by simp [DataW.atKey]⟩⟩
def put (I : Ids) (s : ByteArray) (i : Int) : Ids := fun t => if t = s then some i else I t
theorem lit_inj {s t : ByteArray} (h : (Lit.string s.data.toList) = Lit.string t.data.toList) : s = t := by
  injection h with h
  have h2 := Array.toList_inj.1 h
  cases s; cases t
  simp only at h2
  rw [h2]
theorem put_views {D : DataW Unit} {I : Ids} (hD : IsMap D) (h2 : ∀ s : ByteArray, s.size ≤ maxLen → Maps.has D (.string s.data.toList) = (I s).isSome ∧ D.atKey (.string s.data.toList) (.lit (.int .i64 0)) = .lit (.int .i64 ((I s).getD 0))) (s : ByteArray) (i : Int) (hk : WideAt.IsKeyLit (.string s.data.toList)) :
    ∀ t : ByteArray, t.size ≤ maxLen → Maps.has (D.put (.string s.data.toList) (.lit (.int .i64 i))) (.string t.data.toList) = (put I s i t).isSome ∧ (D.put (.string s.data.toList) (.lit (.int .i64 i))).atKey (.string t.data.toList) (.lit (.int .i64 0)) = .lit (.int .i64 ((put I s i t).getD 0)) := by
  intro t ht
  by_cases e : t = s
  · subst e
    rw [has_put_same hD hk, atKey_put_same hD hk]
    simp [put]
  · have hne : (Lit.string t.data.toList) ≠ Lit.string s.data.toList := fun h => e (lit_inj h)
    rw [has_put_other hne, atKey_put_other hne]
    simp only [put, if_neg e]
    exact h2 t ht
theorem key_of (s : ByteArray) (hs : s.size ≤ maxLen) : keyOf Try.prog 9 (.string s) = some (.string s.data.toList) := Go.WideMaps.keyOf_string_mk Try.underlying9 hs
theorem MapI.look {W : World} {b n : Nat} {I : Ids} (h : MapI W b n I) (s : ByteArray) (hs : s.size ≤ maxLen) :
    (Instr.lookup 116 (.map (some b)) (.string s) true).run Try.prog W = .ok (.tuple #[.int .i64 ((I s).getD 0), .bool (I s).isSome]) W := by
  obtain ⟨D, h1, h2⟩ := h
  obtain ⟨v, ps, hr, hv⟩ := h1.look_ok law9 Try.underlying116 (zero2 _) (zd := .lit (.int .i64 0)) (zp := []) (plainElem_int Try.underlying2 (by decide)) (key_of s hs)
  obtain ⟨c, rfl, hc, _⟩ := plainElem_int_inv Try.underlying2 hv
  have h3 := h2 s hs
  have h4 := congrArg Prod.fst hc
  simp only at h4
  rw [h3.2] at h4
  simp only [DataW.lit.injEq, Lit.int.injEq, true_and] at h4
  rw [hr, h3.1, h4]
theorem wpQuiet_look {ops : Array Oper} {rest : List Oper} {o : Oper} {a : Act} {Q : Act → Prop} {w : World} {m x : Operand} (hop : o.op = .lookup 116 m x true) (hg : o.guard = none) {b n : Nat} {I : Ids} {s : ByteArray} (hm : a.eval m = .map (some b)) (hx : a.eval x = .string s) (hI : MapI w b n I) (hs : s.size ≤ maxLen)
    (h : wpQuiet Try.prog ops (fun w' => ∃ n, w' = w.drewN n) Q rest (a.put o.dst (.tuple #[.int .i64 ((I s).getD 0), .bool (I s).isSome]))) : wpQuiet Try.prog ops (fun w' => ∃ n, w' = w.drewN n) Q (o :: rest) a := by
  refine Go.BigFrame.wpQuiet_want (by simp [Region.wanted, hg]) (fun K hK => ⟨_, fun w' hw => ?_, hK _ h⟩)
  obtain ⟨k, rfl⟩ := hw
  have hr := MapI.look (W := w.drewN k) (hI.same rfl) s hs
  unfold Oper.quietAt Oper.quietUpon
  simp [execOp, hop, hm, hx, hr]
theorem MapI.store {W : World} {b n : Nat} {I : Ids} (h : MapI W b n I) (hn : n < maxLen) {ops : Array Oper} {rest : List Oper} {o : Oper} {a : Act} {Q : Exit → Act → World → Prop} {m x v : Operand} (hop : o.op = .mapUpdate 116 m x v) (hg : o.guard = none) {s : ByteArray} {i : Int} (hm : a.eval m = .map (some b)) (hx : a.eval x = .string s) (hv : a.eval v = .int .i64 i) (hs : s.size ≤ maxLen) (hw : (Lit.int .i64 i).wf = true)
    (hK : ∀ w', MapI w' b (n + 1) (put I s i) → W.mapTurned w' b → wpList Try.prog ops Q rest (a.put o.dst undef) w') : wpList Try.prog ops Q (o :: rest) a W := by
  obtain ⟨D, h1, h2⟩ := h
  refine wpList_mapUpdate_in W hg m x v 116 hop 9 2 law9 Try.underlying116 _ b n D hm h1 hn _ _ _ hx hv (key_of s hs) _ [] (plainElem_int Try.underlying2 hw) ?_
  intro w1 ho ht
  exact hK w1 ⟨_, ho, put_views h1.isMap h2 s i trivial⟩ ht
/-- All that stood stands but for blocks b and q. -/
def KP (b q : Nat) (w w' : World) : Prop := ∀ i, i < w.heap.size → i ≠ b → i ≠ q → w'.heap[i]? = w.heap[i]?
theorem KP.of_below {b q : Nat} {w w' : World} (h : Below w.heap.size w w') : KP b q w w' := fun i hi _ _ => h.block i hi
/-- A checker at block g: the tokens and the merges came in by w0; ids is block b, made is block q. -/
def CK (w0 W : World) (g b q : Nat) (ts : List S44) (ms : List S50) (n : Nat) (I : Ids) (mk : List Bool) : Prop :=
  ∃ At ct Am cm cq, W.heap[g]? = some (.cells #[.slice At ts.length ct, .slice Am ms.length cm, .map (some b), .slice (some ⟨q, 0, none⟩) mk.length cq] 119 (0, 0)) ∧ (w0.heap.size ≤ g ∧ w0.heap.size ≤ b ∧ w0.heap.size ≤ q ∧ g ≠ b ∧ g ≠ q ∧ b ≠ q) ∧
    Kd.C k44 w0 At ts.length ts ∧ ts.length ≤ ct ∧ Kd.C k50 w0 Am ms.length ms ∧ ms.length ≤ cm ∧ MapI W b n I ∧ W.heap[q]? = some (.cells (mk.map Value.bool).toArray 4 (0, 0))
theorem CK.below {w0 W W1 : World} {g b q n : Nat} {ts : List S44} {ms : List S50} {I : Ids} {mk : List Bool} (h : CK w0 W g b q ts ms n I mk) (hb : Below W.heap.size W W1) : CK w0 W1 g b q ts ms n I mk := by
  obtain ⟨At, ct, Am, cm, cq, hg, hne, h1, h2, h3, h4, h5, h6⟩ := h
  exact ⟨At, ct, Am, cm, cq, blk_below hg hb, hne, h1, h2, h3, h4, h5.same (hb.block b h5.lt), blk_below h6 hb⟩
theorem CK.size {w0 W : World} {g b q n : Nat} {ts : List S44} {ms : List S50} {I : Ids} {mk : List Bool} (h : CK w0 W g b q ts ms n I mk) : g < W.heap.size := by
  obtain ⟨At, ct, Am, cm, cq, hg, hne, h1, h2, h3, h4, h5, h6⟩ := h
  exact blk_lt hg
theorem below_two {w0 w W : World} (h1 : Below w0.heap.size w0 w) (h2 : Below w.heap.size w W) : Below w0.heap.size w0 W := h1.trans (h2.mono h1.size)
theorem CK.turn {w0 w W3 W4 : World} {g n b q ct cm cq : Nat} {At Am : Option Addr} {ts : List S44} {ms : List S50} {I : Ids} {mk : List Bool} (hB : Below w0.heap.size w0 w)
    (hg : w.heap[g]? = some (.cells #[.slice At ts.length ct, .slice Am ms.length cm, .map (some b), .slice (some ⟨q, 0, none⟩) mk.length cq] 119 (0, 0))) (hne : w0.heap.size ≤ g ∧ w0.heap.size ≤ b ∧ w0.heap.size ≤ q ∧ g ≠ b ∧ g ≠ q ∧ b ≠ q)
    (k1 : Kd.C k44 w0 At ts.length ts) (k2 : ts.length ≤ ct) (k3 : Kd.C k50 w0 Am ms.length ms) (k4 : ms.length ≤ cm) (k6 : w.heap[q]? = some (.cells (mk.map Value.bool).toArray 4 (0, 0))) (hb : Below w.heap.size w W3) (hlt : b < w.heap.size) (hM : MapI W4 b n I) (hT : W3.mapTurned W4 b) :
    CK w0 W4 g b q ts ms n I mk ∧ Below w0.heap.size w0 W4 ∧ KP b q w W4 := by
  have hgr := hT.grown
  have e1 := blk_below hg hb
  have e2 := blk_below k6 hb
  refine ⟨⟨At, ct, Am, cm, cq, (hgr.block g (blk_lt e1) (by simpa using hne.2.2.2.1)).trans e1, hne, k1, k2, k3, k4, hM, (hgr.block q (blk_lt e2) (by simpa using fun h => hne.2.2.2.2.2 h.symm)).trans e2⟩, ?_⟩
  exact ⟨(below_two hB hb).grown hgr (below_two hB hb).size (fun j hj => by cases hj; exact hne.2.1), fun i hi h1 h2 => (hgr.block i (Nat.lt_of_lt_of_le hi hb.size) (by simpa using h1)).trans (hb.block i hi)⟩
theorem size_str (l : List Int) : (strOfNums l).size = l.length := by
  unfold strOfNums ByteArray.size
  simp
end Go.Proofs.Ytlgagppdipdkeaa.X
