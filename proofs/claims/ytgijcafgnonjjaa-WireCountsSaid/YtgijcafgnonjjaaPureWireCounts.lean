/- The plain statement of WireCounts. No condition. -/
import Derived.Test.YtgijcafgnonjjaaPc
import Derived.Test.YtgijcafgnonjjaaLC3
import Derived.OpenShut
namespace Go.Proofs.Ytgijcafgnonjjaa.Pure
open Go.RowKit Go.Proofs.YtgijcafgnonjjaaW.PrintWords Go.Proofs.Ytgijcafgnonjjaa.Q Go.Proofs.Ytgijcafgnonjjaa.X Go.Proofs.Ytgijcafgnonjjaa.Pc
theorem okb_of {l : List Int} (hl : l.length ≤ 140737488355328) (h : ∀ x ∈ l, (Lit.int .u8 x).wf = true) : okb l = true := by
  unfold okb
  simp only [Bool.and_eq_true, decide_eq_true_eq, List.all_eq_true]
  exact ⟨hl, fun x hx => bounds_u8 (h x hx)⟩
theorem rc_some {l : List Int} (h : okb l = true) (a : Int) : ∃ x i e, wire_ReadCount.f l a = some (x, i, e) := by
  unfold wire_ReadCount.f
  rw [if_pos h]
  by_cases c1 : a < 0
  · exact ⟨_, _, _, if_pos c1⟩
  rw [if_neg c1]
  by_cases c2 : (l.length : Int) < a
  · exact ⟨_, _, _, if_pos c2⟩
  rw [if_neg c2]
  rcases cnt l a with ⟨n, a'⟩ | ⟨p, er⟩
  · exact ⟨_, _, _, rfl⟩
  · exact ⟨_, _, _, rfl⟩
theorem rc_enc (n : Int) (h0 : 0 ≤ n) (h1 : n ≤ 18446744073709551615) : wire_ReadCount.f (enc n) 0 = some (n, ((enc n).length : Int), 0) := by
  unfold wire_ReadCount.f
  rw [if_pos (enc_okb n h0), if_neg (by omega), if_neg (by omega), cnt_enc n h0 h1]
theorem samebytes (l : List Int) : imprimaturref01_SameBytes.f l l = some true := by
  unfold imprimaturref01_SameBytes.f
  simp
theorem WireCounts : ∀ (a0 : Int) (l1 : (List Int)) (a2 : Int), (fun n => (Lit.int .u64 n).wf = true) a0 → (fun l => ∀ x ∈ l, (fun n => (Lit.int .u8 n).wf = true) x) l1 → (fun n => (Lit.int .i64 n).wf = true) a2 → ∃ k, LC.imprimaturlaw03_WireCounts.f k a0 l1 a2 = some true := by
  intro n l a hn0 hl0 ha0
  have hn := bounds_u64 hn0
  have ha := bounds_i64 ha0
  refine ⟨30, ?_⟩
  unfold LC.imprimaturlaw03_WireCounts.f LC.imprimaturlaw03_long.f imprimaturlaw03_known.f
  by_cases c : (l.length : Int) > 2000
  · simp [c]
  have hk := okb_of (by omega) hl0
  obtain ⟨x, i, e, hx⟩ := rc_some hk a
  have hr := at_rounds (LC.imprimaturref03_ReadCount.mono l a) (show 20 ≤ 30 by omega) ((ref_count l hk a ha).trans hx)
  rw [hx, hr, wc n hn.1 hn.2, rc n hn.1 hn.2]
  simp [c, rc_enc n hn.1 hn.2, samebytes]
end Go.Proofs.Ytgijcafgnonjjaa.Pure
