/- bytes.HasPrefix and bytes.CutPrefix over slices that came in: what they answer. No condition. -/
import Derived.Test.YtlgagppdipdkeaaQ2V
namespace Go.Proofs.Ytlgagppdipdkeaa.Q
open Go.RowKit Go.Proofs.YtlgagppdipdkeaaW.PrintWords Go.Proofs.YtlgagppdipdkeaaW.PrintLast Go.Proofs.YtlgagppdipdkeaaW.PrintMore
set_option linter.unusedVariables false
def hasPre (l0 l1 : List Int) : Bool := decide (l1.length ≤ l0.length) && ((strOfNums (l0.take l1.length)).toList == (strOfNums l1).toList)
theorem bytes_HasPrefix.calls (A0 : Option Addr) (c0 : Nat) (l0 : List Int) (A1 : Option Addr) (c1 : Nat) (l1 : List Int) (w : World) (hr0 : Kd.C (Kd.int .u8) w A0 l0.length l0) (hc0 : l0.length ≤ c0) (hr1 : Kd.C (Kd.int .u8) w A1 l1.length l1) (hc1 : l1.length ≤ c1) :
    Calls Try.prog 70 #[.slice A0 l0.length c0, .slice A1 l1.length c1] w fun e w' => e = .returned (.bool (hasPre l0 l1)) ∧ Drawn0 w w' := by
  have HR0 := Aside0.mk hr0
  have HC0 := Aside0.mk hc0
  clear hr0 hc0
  have HR1 := Aside0.mk hr1
  have HC1 := Aside0.mk hc1
  clear hr1 hc1
  by_cases c : l1.length ≤ l0.length
  · obtain ⟨p, hp, hpl⟩ : ∃ p, p = l0.take l1.length ∧ p.length = l1.length := ⟨_, rfl, by rw [List.length_take]; omega⟩
    have hR : hasPre l0 l1 = ((strOfNums p).toList == (strOfNums l1).toList) := by unfold hasPre; rw [hp]; simp [c]
    have HR := Aside0.mk hR
    clear hR
    obtain ⟨i07, hi07, _, hsz7, _⟩ := info_parts info5
    obtain ⟨hcut, _, hC7⟩ := print_take_of (P := Try.prog) (Value.int .u8) 0 37 5 .i64 Try.underlying37 hi07 hsz7 A0 c0 l0 (l1.length : Int) (by omega) (by omega) HC0.out
    rw [Int.toNat_natCast, List.length_take, Nat.min_eq_left c] at hcut hC7
    have hcp : Kd.C (Kd.int .u8) w A0 p.length p := by rw [hp]; exact Kd.C_take HR0.out c
    have HE : ∀ W : World, Drawn0 w W → Calls Try.prog 98 #[.slice A0 l1.length c0, .slice A1 l1.length c1] W fun e w' => e = .returned (.bool ((strOfNums p).toList == (strOfNums l1).toList)) ∧ Drawn0 W w' := by
      intro W hW
      obtain ⟨n, rfl⟩ := hW.out
      have := bytes_Equal.calls A0 c0 p A1 c1 l1 _ (w.drewN n) (Kd.C_drewN hcp n) (by omega) (Kd.C_drewN HR1.out n) HC1.out rfl
      rw [hpl] at this
      exact this
    have HE' := Aside0.mk HE
    have HP' := Aside0.mk hpl
    have HQ' := Aside0.mk hp
    clear HE hpl hp hcp hC7 hi07 hsz7
    have c3b0 : decide ((l1.length : Int) ≤ (l0.length : Int)) = true := decide_eq_true (by omega)
    have c3b1 : decide (l1.length ≤ l0.length) = true := decide_eq_true c
    have c4b1 : decide (0 ≤ (l1.length : Int)) = true := decide_eq_true (by omega)
    clear c
    go_enter Try.func70, Try.ntmps70
    go_wp2_with (go_at_call 98; (refine (HE'.out _ ?hd).mono ?_); (case hd => repeat (first | exact Drawn0.refl _ | apply Drawn0.step)); rintro e w1 ⟨rfl, hd⟩; obtain ⟨nq, rfl⟩ := hd.out)
    go_ret
    rw [HR.out]
    exact ⟨rfl, by repeat (first | exact Drawn0.refl _ | apply Drawn0.step)⟩
  · have hR : hasPre l0 l1 = false := by unfold hasPre; simp [c]
    have HR := Aside0.mk hR
    clear hR
    have c3b0 : decide ((l1.length : Int) ≤ (l0.length : Int)) = false := decide_eq_false (by omega)
    have c3b1 : decide (l1.length ≤ l0.length) = false := decide_eq_false c
    clear c
    go_enter Try.func70, Try.ntmps70
    go_wp2
    go_ret
    rw [HR.out]
    exact ⟨rfl, by repeat (first | exact Drawn0.refl _ | apply Drawn0.step)⟩
/-- What is behind a prefix. -/
theorem bytes_CutPrefix.calls (A0 : Option Addr) (c0 : Nat) (l0 : List Int) (A1 : Option Addr) (c1 : Nat) (l1 : List Int) (w : World) (hr0 : Kd.C (Kd.int .u8) w A0 l0.length l0) (hc0 : l0.length ≤ c0) (hr1 : Kd.C (Kd.int .u8) w A1 l1.length l1) (hc1 : l1.length ≤ c1) (hh : hasPre l0 l1 = true) :
    Calls Try.prog 127 #[.slice A0 l0.length c0, .slice A1 l1.length c1] w fun e w' => ∃ A2 c2, e = .returned (.tuple #[.slice A2 (l0.length - l1.length) c2, .bool true]) ∧ Kd.C (Kd.int .u8) w A2 (l0.length - l1.length) (l0.drop l1.length) ∧ l0.length - l1.length ≤ c2 ∧ Drawn0 w w' := by
  have HR0 := Aside0.mk hr0
  have HC0 := Aside0.mk hc0
  clear hr0 hc0
  have HR1 := Aside0.mk hr1
  have HC1 := Aside0.mk hc1
  clear hr1 hc1
  have c : l1.length ≤ l0.length := by unfold hasPre at hh; simp at hh; exact hh.1
  obtain ⟨i07, hi07, _, hsz7, _⟩ := info_parts info5
  obtain ⟨A2, hcut, hrd, hC7⟩ := print_drop_of (P := Try.prog) (Value.int .u8) 0 37 5 .i64 Try.underlying37 hi07 hsz7 A0 c0 l0 (l1.length : Int) (by omega) (by omega) HC0.out
  rw [Int.toNat_natCast, List.length_drop] at hcut hC7
  have hrd2 := hrd w (Kd.reads_of_C HR0.out)
  have hcd := Kd.C_of_reads (d := (0 : Int)) (h1 := fun _ => rfl) hrd2
  rw [Int.toNat_natCast, List.length_drop] at hcd
  have HCD := Aside0.mk hcd
  have HH := Aside0.mk hh
  have HC7 := Aside0.mk hC7
  clear hh hcd hrd hrd2 hC7 hi07 hsz7
  have c3b1 : decide (l1.length ≤ l0.length) = true := decide_eq_true c
  have c4b1 : decide (0 ≤ (l1.length : Int)) = true := decide_eq_true (by omega)
  clear c
  go_enter Try.func127, Try.ntmps127
  go_wp2_with (go_at_call 70; (refine (bytes_HasPrefix.calls _ _ l0 _ _ l1 _ ?s1 ?s2 ?s3 ?s4).mono ?_); (case s1 => exact HR0.out); (case s2 => exact HC0.out); (case s3 => exact HR1.out); (case s4 => exact HC1.out); rw [HH.out]; rintro e w1 ⟨rfl, hd⟩; obtain ⟨nq, rfl⟩ := hd.out)
  go_ret2
  exact ⟨A2, _, rfl, HCD.out, HC7.out, by repeat (first | exact Drawn0.refl _ | apply Drawn0.step)⟩
theorem bytes_CutPrefix.not (A0 : Option Addr) (c0 : Nat) (l0 : List Int) (A1 : Option Addr) (c1 : Nat) (l1 : List Int) (w : World) (hr0 : Kd.C (Kd.int .u8) w A0 l0.length l0) (hc0 : l0.length ≤ c0) (hr1 : Kd.C (Kd.int .u8) w A1 l1.length l1) (hc1 : l1.length ≤ c1) (hh : hasPre l0 l1 = false) :
    Calls Try.prog 127 #[.slice A0 l0.length c0, .slice A1 l1.length c1] w fun e w' => e = .returned (.tuple #[.slice A0 l0.length c0, .bool false]) ∧ Drawn0 w w' := by
  have HR0 := Aside0.mk hr0
  have HC0 := Aside0.mk hc0
  clear hr0 hc0
  have HR1 := Aside0.mk hr1
  have HC1 := Aside0.mk hc1
  clear hr1 hc1
  have HH := Aside0.mk hh
  clear hh
  go_enter Try.func127, Try.ntmps127
  go_wp2_with (go_at_call 70; (refine (bytes_HasPrefix.calls _ _ l0 _ _ l1 _ ?s1 ?s2 ?s3 ?s4).mono ?_); (case s1 => exact HR0.out); (case s2 => exact HC0.out); (case s3 => exact HR1.out); (case s4 => exact HC1.out); rw [HH.out]; rintro e w1 ⟨rfl, hd⟩; obtain ⟨nq, rfl⟩ := hd.out)
  go_ret2
  exact ⟨rfl, by repeat (first | exact Drawn0.refl _ | apply Drawn0.step)⟩
end Go.Proofs.Ytlgagppdipdkeaa.Q
