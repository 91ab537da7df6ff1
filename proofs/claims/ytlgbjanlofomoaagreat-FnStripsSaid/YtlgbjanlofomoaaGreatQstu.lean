/- Plain laws of the functions on numbers: what the program computes is what the reference computes. -/
import Derived.Test.YtlgbjanlofomoaaGreatQqr
import Derived.Test.YtlgbjanlofomoaaGreatF3
set_option linter.unusedVariables false
set_option linter.unusedSimpArgs false
namespace Go.Proofs.YtlgbjanlofomoaaGreat.Abs
open Go

theorem atanh_pos (f : I64 → Iv) (n : I64) (h0 : 0 ≤ n.val) (h1 : n.val < 1152921504606846976) : F_impl_AtanhI_1 n = F_spec_l08Atanh_b f n := by
  unfold F_impl_AtanhI_1 F_spec_l08Atanh_b
  rw [decide_eq_false (by omega : ¬ n.val < 0), cond_f]
  by_cases h : n.val ≥ 4294967296
  · simp only [decide_eq_true h, cond_t, bindP_e, eq_Whole]
  · simp only [decide_eq_false h, cond_f, bindP_e]
    rw [at8 (by rw [w64_val]; omega), at8 (by rw [w64_val]; omega), eq_DivI, eq_LogI, eq_HalfI]

theorem eq_atanh (n : I64) (h0 : -1152921504606846976 < n.val) (h1 : n.val < 1152921504606846976) : F_impl_odd_1__p_impl_AtanhI_1 n = F_spec_l08Atanh n := by
  unfold F_impl_odd_1__p_impl_AtanhI_1 F_spec_l08Atanh F_spec_l08Atanh_r
  simp only [bindP_e, eq_NegI]
  by_cases h : n.val < 0
  · have en : (w64 (0 - n.val)).val = -n.val := by rw [w64_val]; omega
    rw [decide_eq_true h, cond_t, atanh_pos (F_spec_l08Atanh_r 0) (w64 (0 - n.val)) (by omega) (by omega)]
    rw [show F_spec_l08Atanh_b (F_spec_l08Atanh_r 1) n = F_spec_NegI (F_spec_l08Atanh_r 1 (w64 (0 - n.val))) by
      rw [F_spec_l08Atanh_b]
      simp only [bindP_e, decide_eq_true h, cond_t]]
    rw [F_spec_l08Atanh_r]
  · rw [decide_eq_false h, cond_f]
    exact atanh_pos _ n (by omega) h1

theorem eq_AtanhI (x : Iv) : F_impl_AtanhI x = F_spec_AtanhI x := by
  unfold F_impl_AtanhI F_spec_AtanhI F_impl_monotonic__impl_odd_1_p_impl_AtanhI_1
  rw [bindP_e, mono_eq x F_impl_odd_1__p_impl_AtanhI_1 F_spec_l08Atanh fun h => by
    obtain ⟨h1, h2, h3⟩ := Ok4 h
    exact ⟨eq_atanh _ h1 (by omega), eq_atanh _ (by omega) h3⟩]
  simp only [bindP_e]

theorem zero_code : ((c64 0).val != 0) = false := by decide

theorem one_code : ((c64 1).val != 0) = true := by decide

theorem code_zero : ((c64 0).val != 0) = false := by decide

theorem code_one : ((c64 1).val != 0) = true := by decide

theorem code_eight : ((c64 8).val != 0) = true := by decide

theorem code_nine : ((c64 9).val != 0) = true := by decide

theorem eq_TransverseForward (p : Pj) (q : Pt) : F_impl_TransverseForward p q = F_spec_TransverseForward p q := by
  unfold F_impl_TransverseForward F_spec_TransverseForward F_spec_l21Forward__pPj F_spec_l21Side__pPj
  simp only [bindP_e, eq_transverse]
  cases F_spec_l21Ok__pPj p with
  | false => simp only [Bool.not_false, cond_t, code_one]
  | true =>
    cases F_spec_l11Ok q with
    | false => simp only [Bool.not_false, Bool.not_true, cond_t, cond_f, code_one]
    | true =>
      cases F_spec_l21Edge__pPj p q with
      | true => simp only [Bool.not_true, cond_t, cond_f, code_eight]
      | false => simp only [Bool.not_true, cond_f, code_zero, eq_AtanhI, eq_SinI, eq_MulI, eq_CosI, eq_DirectionI, eq_RadiansOf, eq_SubI, eq_planar]

theorem spec_whole (x : Iv) : F_spec_IsWhole x = !F_spec_l04Ok x := by
  unfold F_spec_IsWhole
  simp only [bindP_e]

theorem point_val {p : Pt} (h : F_spec_l11Ok p = true) : -900000000 ≤ p.lat.val ∧ p.lat.val ≤ 900000000 ∧ -1800000000 < p.lon.val ∧ p.lon.val ≤ 1800000000 := by
  unfold F_spec_l11Ok at h
  simp only [bindP_e, sp_in, c64_v] at h
  by_cases h1 : -900000000 ≤ p.lat.val
  · by_cases h2 : p.lat.val ≤ 900000000
    · simp only [h1, h2, decide_true, Bool.and_true, cond_t, Bool.and_eq_true, decide_eq_true_eq] at h
      omega
    · simp only [h1, h2, decide_true, decide_false, Bool.and_false, cond_f] at h
      cases h
  · simp only [h1, decide_false, Bool.false_and, cond_f] at h
    cases h

/-- Bounded, or whole. -/
def Sane (z : Iv) : Prop := F_spec_l04Ok z = true ∨ z = F_spec_l04Whole

theorem sane_make (a b : I64) : Sane (F_spec_l04Make a b) := by
  by_cases h : -1152921504606846976 < a.val ∧ a.val ≤ b.val ∧ b.val < 1152921504606846976
  · rw [Make_ok h]
    exact .inl (Ok4_of h)
  · rw [Make_bad h]
    exact .inr rfl

theorem sane_whole : Sane F_spec_l04Whole := .inr rfl

theorem sane_bif {b : Bool} {x y : Iv} (hx : Sane x) (hy : Sane y) : Sane (bif b then x else y) := by
  cases b
  · exact hy
  · exact hx

theorem l11_of {p : Pt} (h : -900000000 ≤ p.lat.val ∧ p.lat.val ≤ 900000000 ∧ -1800000000 < p.lon.val ∧ p.lon.val ≤ 1800000000) : F_spec_l11Ok p = true := by
  unfold F_spec_l11Ok
  simp only [bindP_e, sp_in, c64_v]
  rw [decide_eq_true h.1, decide_eq_true h.2.1, decide_eq_true (by omega : -1799999999 ≤ p.lon.val), decide_eq_true h.2.2.2]
  rfl

end Go.Proofs.YtlgbjanlofomoaaGreat.Abs
