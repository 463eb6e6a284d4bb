/- The plain statement of VocabMany: so many tokens, and one more. No condition. -/
import Derived.Test.YtlgagppdipdkeaaPgZ
import Derived.Test.YtlgagppdipdkeaaPfZ
import Derived.Test.YtlgagppdipdkeaaKMany3Z
import Derived.OpenShut
namespace Go.Proofs.Ytlgagppdipdkeaa.Pk
set_option linter.unusedVariables false
set_option linter.unusedSimpArgs false
open Go.RowKit Go.Proofs.YtlgagppdipdkeaaW.PrintWords Go.Proofs.Ytlgagppdipdkeaa.Q Go.Proofs.Ytlgagppdipdkeaa.X Go.Proofs.Ytlgagppdipdkeaa.R Go.Proofs.Ytlgagppdipdkeaa.K Go.Proofs.Ytlgagppdipdkeaa.KMany
/-! ### the specials -/
def spc (i : Nat) : S44 := ⟨[60, ((65 + i % 26 : Nat) : Int), ((65 + i / 26 % 26 : Nat) : Int), ((65 + i / 676 : Nat) : Int), 62], 0, true⟩
def many (n : Nat) : List S44 := lets 256 ++ (List.range n).map spc
theorem many_len (n : Nat) : (many n).length = 256 + n := by simp [many, lets_len]
theorem many_low (n : Nat) (j : Int) (h0 : 0 ≤ j) (h1 : j < 256) : rd_T44 (many n) j = ⟨[j], 0, false⟩ := by
  rw [← lets_at 256 j h0 (by omega)]
  unfold rd_T44 many
  rw [List.getD_eq_getElem?_getD, List.getD_eq_getElem?_getD, List.getElem?_append_left (by rw [lets_len]; omega)]
theorem many_high (n : Nat) (j : Int) (h0 : 256 ≤ j) (h1 : j < 256 + n) : rd_T44 (many n) j = spc (j.toNat - 256) := by
  unfold rd_T44 many
  rw [List.getD_eq_getElem?_getD, List.getElem?_append_right (by rw [lets_len]; omega), lets_len, List.getElem?_map, List.getElem?_range (by omega)]
  rfl
theorem tokEr_spc (i : Nat) : tokEr (spc i) = 0 := by
  have hv : X.vld 0 = true := by kernel_rfl
  have ho : FloatKind.f64.format.order 0 0 = some .eq := by kernel_rfl
  have h1 : rd (spc i).f0 0 = 60 := rfl
  have h2 : rd (spc i).f0 (((spc i).f0.length : Int) - 1) = 62 := rfl
  have h3 : ((spc i).f0.length : Int) = 5 := rfl
  have h4 : (spc i).f1 = 0 := rfl
  unfold tokEr
  rw [h2, h3, h1, h4, hv, ho]
  simp
theorem u8_inj {a b : Nat} (ha : a < 256) (hb : b < 256) (h : UInt8.ofNat ((a : Int)).toNat = UInt8.ofNat ((b : Int)).toNat) : a = b := by
  have h3 := congrArg UInt8.toNat h
  simp only [UInt8.toNat_ofNat', Int.toNat_natCast] at h3
  omega
theorem spc_inj {i j : Nat} (hi : i < 4000) (hj : j < 4000) (h : strOfNums (spc i).f0 = strOfNums (spc j).f0) : i = j := by
  have h2 : (strOfNums (spc i).f0).data.toList = (strOfNums (spc j).f0).data.toList := by rw [h]
  rw [str_data, str_data] at h2
  simp only [spc, List.map_cons, List.map_nil, List.cons.injEq, and_true, true_and] at h2
  obtain ⟨a, b, c⟩ := h2
  have a' := u8_inj (by omega) (by omega) a
  have b' := u8_inj (by omega) (by omega) b
  have c' := u8_inj (by omega) (by omega) c
  omega
theorem many_wf (n : Nat) (hn : n ≤ 3840) : WF (many n) [] := by
  have hl := many_len n
  have hlow : ∀ j, 0 ≤ j → j < 256 → rd_T44 (many n) j = ⟨[j], 0, false⟩ := fun j a b => many_low n j a b
  have hhigh : ∀ j : Int, 256 ≤ j → j < 256 + n → rd_T44 (many n) j = spc (j.toNat - 256) := fun j a b => many_high n j a b
  generalize many n = ts at hl hlow hhigh
  refine ⟨⟨by omega, by simp, fun j h0 h1 => ?_, fun i j h0 h1 h2 h => ?_, fun c h0 h1 => ⟨c, h0, by omega, ?_, ?_⟩, fun r a b => absurd b (by simp; omega)⟩, fun j h0 h1 => ?_⟩
  · by_cases c : j < 256
    · rw [hlow _ h0 c]; exact tokEr_let j
    · rw [hhigh _ (by omega) (by omega)]; exact tokEr_spc _
  · unfold str at h
    by_cases c : j < 256
    · rw [hlow i h0 (by omega), hlow j (by omega) c] at h
      have := str_one h0 (by omega) (by omega) (by omega) h
      omega
    · rw [hhigh j (by omega) (by omega)] at h
      by_cases c2 : i < 256
      · rw [hlow i h0 c2] at h
        have := len_of_str h
        simp [spc] at this
      · rw [hhigh i (by omega) (by omega)] at h
        have := spc_inj (by omega) (by omega) h
        omega
  · unfold str; rw [hlow c h0 h1]
  · rw [hlow c h0 h1]
  · by_cases c : j < 256
    · refine .inr ?_
      unfold madeB isB
      rw [hlow j h0 c]
      simp [shortB]
      omega
    · rw [hhigh _ (by omega) (by omega)]; exact .inl rfl
theorem over_chk (ts : List S44) (h : 4096 < ts.length) : chk ts [] = some (0, 0, 2) := by
  unfold chk
  rw [if_pos (by omega)]
theorem w65 (x : Nat) (hx : x < 100) : wrap64 (65 + (x : Int)) % 256 = ((65 + x : Nat) : Int) := by
  have e : wrap64 (65 + (x : Int)) = 65 + (x : Int) := by unfold wrap64; omega
  rw [e, Int.emod_eq_of_lt (by omega) (by omega)]
  simp
theorem spc_lit (i : Nat) (hi : i < 4000) : (⟨[60, (wrap64 (65 + (Int.tmod (i : Int) 26))) % 256, (wrap64 (65 + (Int.tmod (wrap64 (Int.tdiv (i : Int) 26)) 26))) % 256, (wrap64 (65 + (wrap64 (Int.tdiv (i : Int) 676)))) % 256, 62], 0, true⟩ : S44) = spc i := by
  have e1 : Int.tmod (i : Int) 26 = (i : Int) % 26 := Int.tmod_eq_emod_of_nonneg (by omega)
  have e2 : Int.tdiv (i : Int) 26 = (i : Int) / 26 := Int.tdiv_eq_ediv_of_nonneg (by omega)
  have e3 : Int.tdiv (i : Int) 676 = (i : Int) / 676 := Int.tdiv_eq_ediv_of_nonneg (by omega)
  have w2 : wrap64 ((i : Int) / 26) = (i : Int) / 26 := by unfold wrap64; omega
  have w3 : wrap64 ((i : Int) / 676) = (i : Int) / 676 := by unfold wrap64; omega
  have e4 : Int.tmod ((i : Int) / 26) 26 = (i : Int) / 26 % 26 := Int.tmod_eq_emod_of_nonneg (by omega)
  rw [e1, e2, e3, w2, w3, e4]
  unfold spc
  have f1 : wrap64 (65 + (i : Int) % 26) % 256 = ((65 + i % 26 : Nat) : Int) := by
    have e : (i : Int) % 26 = ((i % 26 : Nat) : Int) := by simp
    rw [e]; exact w65 _ (by omega)
  have f2 : wrap64 (65 + (i : Int) / 26 % 26) % 256 = ((65 + i / 26 % 26 : Nat) : Int) := by
    have e : (i : Int) / 26 % 26 = ((i / 26 % 26 : Nat) : Int) := by simp
    rw [e]; exact w65 _ (by omega)
  have f3 : wrap64 (65 + (i : Int) / 676) % 256 = ((65 + i / 676 : Nat) : Int) := by
    have e : (i : Int) / 676 = ((i / 676 : Nat) : Int) := by simp
    rw [e]; exact w65 _ (Nat.div_lt_of_lt_mul (Nat.lt_trans hi (by decide)))
  rw [f1, f2, f3]
theorem many_l0 (a : Int) (h0 : 0 ≤ a) (m : Nat) (hm : (m : Int) = 3840 + a % 2) : ∀ (d i : Nat), i + d = m → ∀ k, d + 302 ≤ k → imprimaturlaw11_VocabMany.l0 k a (i : Int) (many i) [] = some true := by
  have ea : Int.tmod a 2 = a % 2 := Int.tmod_eq_emod_of_nonneg h0
  have wa : wrap64 (4096 + wrap64 (a % 2)) = 4096 + a % 2 := by unfold wrap64; omega
  intro d
  induction d with
  | zero =>
    intro i hi k hk
    obtain ⟨k, rfl⟩ : ∃ k', k = k' + 1 := ⟨k - 1, by omega⟩
    have hi' : i = m := by omega
    subst hi'
    have hl := many_len i
    have hwf := many_wf i
    have hov := over_chk (many i)
    generalize many i = ts at hl hwf hov ⊢
    rw [imprimaturlaw11_VocabMany.l0, ea, wa, if_neg (by omega), known_ev k (by omega)]
    by_cases c : a % 2 = 1
    · have hv : vocab_Check.f ts [] = some (0, 0, 2) := by unfold vocab_Check.f; rw [if_pos ⟨by omega, by simp⟩, hov (by omega)]
      rw [hv]
      simp [c]
    · have hv : vocab_Check.f ts [] = some (0, 0, 0) := by unfold vocab_Check.f; rw [if_pos ⟨by omega, by simp⟩, chk_wf (hwf (by omega))]
      rw [hv]
      simp [c]
  | succ d ih =>
    intro i hi k hk
    obtain ⟨k, rfl⟩ : ∃ k', k = k' + 1 := ⟨k - 1, by omega⟩
    have hw : wrap64 ((i : Int) + 1) = ((i + 1 : Nat) : Int) := by unfold wrap64; omega
    have e : many i ++ [spc i] = many (i + 1) := by simp [many, List.range_succ]
    rw [imprimaturlaw11_VocabMany.l0, ea, wa, if_pos (by rw [many_len]; omega), if_pos (by rw [many_len]; omega), spc_lit i (by omega), e, hw]
    exact ih (i + 1) (by omega) k (by omega)
end Go.Proofs.Ytlgagppdipdkeaa.Pk
namespace Go.Proofs.Ytlgagppdipdkeaa.Pure
open Go.RowKit Go.Proofs.YtlgagppdipdkeaaW.PrintWords Go.Proofs.Ytlgagppdipdkeaa.Q Go.Proofs.Ytlgagppdipdkeaa.KMany Go.Proofs.Ytlgagppdipdkeaa.Pk
theorem VocabMany : ∀ (a0 : Int), (fun n => (Lit.int .u8 n).wf = true) a0 → ∃ k, imprimaturlaw11_VocabMany.f k a0 = some true := by
  intro a0 h
  have hb := bounds_u8 h
  refine ⟨5000, ?_⟩
  unfold imprimaturlaw11_VocabMany.f
  have hl : imprimaturlaw11_letters.f 5000 = some (lets 256, []) := letters_l0 256 0 (by omega) 5000 (by omega)
  rw [hl, Option.bind_some]
  have hm0 : many 0 = lets 256 := by simp [many]
  show imprimaturlaw11_VocabMany.l0 5000 a0 ((0 : Nat) : Int) (lets 256) [] = some true
  rw [← hm0]
  exact many_l0 a0 hb.1 (3840 + (a0 % 2).toNat) (by omega) (3840 + (a0 % 2).toNat) 0 (by omega) 5000 (by omega)
end Go.Proofs.Ytlgagppdipdkeaa.Pure
