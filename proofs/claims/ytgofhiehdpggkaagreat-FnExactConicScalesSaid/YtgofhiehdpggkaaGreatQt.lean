/- Plain laws of the functions on numbers: what the program computes is what the reference computes. -/
import Derived.Test.YtgofhiehdpggkaaGreatQs
import Derived.Test.YtgofhiehdpggkaaGreatF5
set_option linter.unusedVariables false
set_option linter.unusedSimpArgs false
namespace Go.Proofs.YtgofhiehdpggkaaGreat.Abs
open Go

theorem code_zero : ((c64 0).val != 0) = false := by decide

theorem code_one : ((c64 1).val != 0) = true := by decide

theorem code_eight : ((c64 8).val != 0) = true := by decide

theorem code_nine : ((c64 9).val != 0) = true := by decide

theorem eq_TransverseForward (p : Pj) (q : Pt) : F_impl_TransverseForward p q = F_spec_TransverseForward p q := by
  unfold F_impl_TransverseForward F_spec_TransverseForward F_spec_l21Forward__pPj F_spec_l21Side__pPj
  simp only [bindP_e, eq_transverse]
  cases F_spec_l21Ok__pPj p with
  | false => simp only [Bool.not_false, cond_t, code_one]
  | true =>
    cases F_spec_l11Ok q with
    | false => simp only [Bool.not_false, Bool.not_true, cond_t, cond_f, code_one]
    | true =>
      cases F_spec_l21Edge__pPj p q with
      | true => simp only [Bool.not_true, cond_t, cond_f, code_eight]
      | false => simp only [Bool.not_true, cond_f, code_zero, eq_AtanhI, eq_SinI, eq_MulI, eq_CosI, eq_DirectionI, eq_RadiansOf, eq_SubI, eq_planar]

theorem pure_FnExactTransverseForward (p : Pj) (q : Pt) : F_laws_FnExactTransverseForward p q = true := by
  unfold F_laws_FnExactTransverseForward F_laws_toProjection F_laws_toPoint
  simp only [bindP_e, eq_TransverseForward, rf_Planar, Bool.not_true, cond_f, bne_self_eq_false]

theorem spec_whole (x : Iv) : F_spec_IsWhole x = !F_spec_l04Ok x := by
  unfold F_spec_IsWhole
  simp only [bindP_e]

theorem eq_TransverseInverse (p : Pj) (q : Pn) : F_impl_TransverseInverse p q = F_spec_TransverseInverse p q := by
  unfold F_impl_TransverseInverse F_spec_TransverseInverse
  simp only [bindP_e, eq_isTransverse, eq_RadiansOf, eq_AddI, eq_SinI, eq_CosI, eq_CoshI, eq_SinhI, eq_DivI, eq_AsinI, eq_areBounded, eq_DirectionI, eq_IsWhole, spec_whole]
  cases F_spec_l21Ok__pPj p with
  | false => simp only [Bool.not_false, cond_t]
  | true =>
    simp only [Bool.not_true, cond_f]
    cases F_spec_l04Ok (F_spec_AddI q.y (F_spec_RadiansOf p.lat0)) with
    | false => simp only [Bool.false_and, Bool.not_false, cond_t]
    | true =>
      cases F_spec_l04Ok (F_spec_DivI (F_spec_SinI (F_spec_AddI q.y (F_spec_RadiansOf p.lat0))) (F_spec_CoshI q.x)) with
      | false => simp only [Bool.true_and, Bool.not_true, Bool.not_false, cond_t, cond_f]
      | true => simp only [Bool.true_and, Bool.not_true, cond_f]

theorem pure_FnExactTransverseInverse (p : Pj) (q : Pn) : F_laws_FnExactTransverseInverse p q = true := by
  unfold F_laws_FnExactTransverseInverse F_laws_toProjection F_laws_toPlanar F_laws_toInterval
  simp only [bindP_e, eq_TransverseInverse, rf_Interval, Bool.not_true, cond_f, bne_self_eq_false]

theorem pole_eq (p : Pt) (h : -9223372036854775808 < p.lat.val) : F_impl_isPole p = F_spec_l11Pole p := by
  unfold F_impl_isPole F_spec_l11Pole
  rw [bindP_e, abs_is _ _ (by decide) h]

theorem point_val {p : Pt} (h : F_spec_l11Ok p = true) : -900000000 ≤ p.lat.val ∧ p.lat.val ≤ 900000000 ∧ -1800000000 < p.lon.val ∧ p.lon.val ≤ 1800000000 := by
  unfold F_spec_l11Ok at h
  simp only [bindP_e, sp_in, c64_v] at h
  by_cases h1 : -900000000 ≤ p.lat.val
  · by_cases h2 : p.lat.val ≤ 900000000
    · simp only [h1, h2, decide_true, Bool.and_true, cond_t, Bool.and_eq_true, decide_eq_true_eq] at h
      omega
    · simp only [h1, h2, decide_true, decide_false, Bool.and_false, cond_f] at h
      cases h
  · simp only [h1, decide_false, Bool.false_and, cond_f] at h
    cases h

theorem eq_ConicScales (p : Pj) (q : Pt) : F_impl_ConicScales p q = F_spec_ConicScales p q := by
  unfold F_impl_ConicScales F_spec_ConicScales
  simp only [bindP_e, eq_ValidPoint]
  rcases eq_newConic p with ⟨h1, h2⟩ | ⟨h1, h2⟩
  · rw [h1, h2]
    simp only [zero_code, cond_f, Bool.not_true]
    cases h3 : F_spec_l11Ok q with
    | false => simp only [Bool.not_false, cond_t]
    | true =>
      have hp := point_val h3
      have hl : F_spec_LatOf q = F_spec_RadiansOf q.lat := by
        unfold F_spec_LatOf
        simp only [bindP_e, h3, Bool.not_true, cond_f]
      simp only [Bool.not_true, cond_f, pole_eq q (by omega), eq_LatOf h3, hl, eq_scale, eq_pair, eq_Integer, eq_DivI]
  · rw [h1, h2]
    simp only [one_code, cond_t, Bool.not_false]

theorem pure_FnExactConicScales (p : Pj) (q : Pt) : F_laws_FnExactConicScales p q = true := by
  unfold F_laws_FnExactConicScales F_laws_toProjection F_laws_toPoint
  simp only [bindP_e, eq_ConicScales, rf_Interval, Bool.not_true, cond_f, bne_self_eq_false]

end Go.Proofs.YtgofhiehdpggkaaGreat.Abs
