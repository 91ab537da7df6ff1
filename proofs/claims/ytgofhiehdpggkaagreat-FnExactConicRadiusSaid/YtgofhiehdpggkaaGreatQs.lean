/- Plain laws of the functions on numbers: what the program computes is what the reference computes. -/
import Derived.Test.YtgofhiehdpggkaaGreatQr
import Derived.Test.YtgofhiehdpggkaaGreatF5
set_option linter.unusedVariables false
set_option linter.unusedSimpArgs false
namespace Go.Proofs.YtgofhiehdpggkaaGreat.Abs
open Go

theorem eq_sinh (n : I64) : F_impl_SinhI_1 n = F_spec_l08Sinh n := by
  unfold F_impl_SinhI_1 F_spec_l08Sinh
  simp only [bindP_e, eq_ExpAt, eq_SubI, eq_HalfI]

theorem eq_SinhI (x : Iv) : F_impl_SinhI x = F_spec_SinhI x := by
  unfold F_impl_SinhI F_spec_SinhI F_impl_monotonic__impl_SinhI_1
  rw [bindP_e, mono_eq x F_impl_SinhI_1 F_spec_l08Sinh fun _ => ⟨eq_sinh _, eq_sinh _⟩]
  simp only [bindP_e]

theorem eq_cosh (n : I64) : F_impl_CoshI_1 n = F_spec_l08Cosh n := by
  unfold F_impl_CoshI_1 F_spec_l08Cosh
  simp only [bindP_e, eq_ExpAt, eq_AddI, eq_HalfI]

theorem AbsI_ok (x : Iv) : F_spec_l04Ok (F_spec_AbsI x) = F_spec_l04Ok x := by
  cases ho : F_spec_l04Ok x with
  | true =>
    rw [AbsI_val ho]
    obtain ⟨h1, h2, h3⟩ := Ends_val ho
    exact Ok4_of ⟨by show _ < (F_spec_l04Ends x).1.val; omega, h2, h3⟩
  | false =>
    unfold F_spec_AbsI
    simp only [bindP_e, ho, Bool.not_false, cond_t]
    decide

theorem eq_CoshI (x : Iv) : F_impl_CoshI x = F_spec_CoshI x := by
  unfold F_impl_CoshI F_spec_CoshI F_impl_monotonic__impl_CoshI_1
  simp only [bindP_e, eq_AbsI2]
  have h := mono_eq (F_spec_AbsI x) F_impl_CoshI_1 F_spec_l08Cosh fun _ => ⟨eq_cosh _, eq_cosh _⟩
  simp only [bindP_e, AbsI_ok] at h
  exact h

theorem atanh_pos (f : I64 → Iv) (n : I64) (h0 : 0 ≤ n.val) (h1 : n.val < 1152921504606846976) : F_impl_AtanhI_1 n = F_spec_l08Atanh_b f n := by
  unfold F_impl_AtanhI_1 F_spec_l08Atanh_b
  rw [decide_eq_false (by omega : ¬ n.val < 0), cond_f]
  by_cases h : n.val ≥ 4294967296
  · simp only [decide_eq_true h, cond_t, bindP_e, eq_Whole]
  · simp only [decide_eq_false h, cond_f, bindP_e]
    rw [at8 (by rw [w64_val]; omega), at8 (by rw [w64_val]; omega), eq_DivI, eq_LogI, eq_HalfI]

theorem eq_atanh (n : I64) (h0 : -1152921504606846976 < n.val) (h1 : n.val < 1152921504606846976) : F_impl_odd_1__p_impl_AtanhI_1 n = F_spec_l08Atanh n := by
  unfold F_impl_odd_1__p_impl_AtanhI_1 F_spec_l08Atanh F_spec_l08Atanh_r
  simp only [bindP_e, eq_NegI]
  by_cases h : n.val < 0
  · have en : (w64 (0 - n.val)).val = -n.val := by rw [w64_val]; omega
    rw [decide_eq_true h, cond_t, atanh_pos (F_spec_l08Atanh_r 0) (w64 (0 - n.val)) (by omega) (by omega)]
    rw [show F_spec_l08Atanh_b (F_spec_l08Atanh_r 1) n = F_spec_NegI (F_spec_l08Atanh_r 1 (w64 (0 - n.val))) by
      rw [F_spec_l08Atanh_b]
      simp only [bindP_e, decide_eq_true h, cond_t]]
    rw [F_spec_l08Atanh_r]
  · rw [decide_eq_false h, cond_f]
    exact atanh_pos _ n (by omega) h1

theorem eq_AtanhI (x : Iv) : F_impl_AtanhI x = F_spec_AtanhI x := by
  unfold F_impl_AtanhI F_spec_AtanhI F_impl_monotonic__impl_odd_1_p_impl_AtanhI_1
  rw [bindP_e, mono_eq x F_impl_odd_1__p_impl_AtanhI_1 F_spec_l08Atanh fun h => by
    obtain ⟨h1, h2, h3⟩ := Ok4 h
    exact ⟨eq_atanh _ h1 (by omega), eq_atanh _ (by omega) h3⟩]
  simp only [bindP_e]

theorem conicOf_n (p : Pj) : (conicOf p).n = F_spec_l19Cone p := Eq.trans rfl rfl

theorem conicOf_g (p : Pj) : (conicOf p).g = F_spec_l19Constant p (F_spec_l19Cone p) := Eq.trans rfl rfl

theorem conicOf_p (p : Pj) : (conicOf p).p = p := Eq.trans rfl rfl

theorem conicOf_a (p : Pj) : (conicOf p).a = F_spec_RadiansOf p.lat1 := Eq.trans rfl rfl

theorem conicOf_b (p : Pj) : (conicOf p).b = F_spec_RadiansOf p.lat2 := Eq.trans rfl rfl

theorem conicOf_o (p : Pj) : (conicOf p).o = F_spec_RadiansOf p.lat0 := Eq.trans rfl rfl

theorem eq_radius (p : Pj) (x : Iv) : F_impl_conic_radius__pCn (conicOf p) x = F_spec_l19Radius p.kind (F_spec_l19Cone p) (F_spec_l19Constant p (F_spec_l19Cone p)) x := by
  unfold F_impl_conic_radius__pCn F_spec_l19Radius
  simp only [conicOf_n, conicOf_g, conicOf_p]
  generalize F_spec_l19Constant p (F_spec_l19Cone p) = g
  generalize F_spec_l19Cone p = n
  simp only [bindP_e, eq_SinI, eq_times, eq_MulI, eq_SubI, eq_SqrtI, eq_DivI, eq_isometric, eq_NegI, eq_ExpI]

theorem eq_scale (p : Pj) (x : Iv) : F_impl_conic_scale__pCn (conicOf p) x = F_spec_l19Scale p x := by
  unfold F_impl_conic_scale__pCn F_spec_l19Scale
  simp only [bindP_e, eq_radius, conicOf_n, eq_MulI, eq_CosI, eq_DivI]

theorem eq_pair (x y : Iv) : F_impl_pair x y = F_spec_l17Scales x y := by
  unfold F_impl_pair F_spec_l17Scales
  simp only [bindP_e, eq_areBounded]
  cases F_spec_l04Ok x <;> cases F_spec_l04Ok y <;> simp only [Bool.and_true, Bool.and_false, Bool.not_true, Bool.not_false, cond_t, cond_f]

theorem zero_code : ((c64 0).val != 0) = false := by decide

theorem one_code : ((c64 1).val != 0) = true := by decide

theorem eq_ConicRadius (p : Pj) (x : Iv) : F_impl_ConicRadius p x = F_spec_ConicRadius p x := by
  unfold F_impl_ConicRadius F_spec_ConicRadius
  simp only [bindP_e]
  rcases eq_newConic p with ⟨h1, h2⟩ | ⟨h1, h2⟩
  · rw [h1, h2]
    simp only [zero_code, cond_f, Bool.not_true, known19, eq_radius]
  · rw [h1, h2]
    simp only [one_code, cond_t, Bool.not_false]

theorem pure_FnExactConicRadius (p : Pj) (x : Iv) : F_laws_FnExactConicRadius p x = true := by
  unfold F_laws_FnExactConicRadius F_laws_toProjection F_laws_toInterval
  simp only [bindP_e, eq_ConicRadius, rf_Interval, Bool.not_true, cond_f, bne_self_eq_false]

theorem eq_StandardScales (p : Pj) : F_impl_StandardScales p = F_spec_StandardScales p := by
  unfold F_impl_StandardScales F_spec_StandardScales
  simp only [bindP_e]
  rcases eq_newConic p with ⟨h1, h2⟩ | ⟨h1, h2⟩
  · rw [h1, h2]
    simp only [zero_code, cond_f, Bool.not_true, eq_scale, eq_pair, conicOf_a, conicOf_b]
  · rw [h1, h2]
    simp only [one_code, cond_t, Bool.not_false]

theorem pure_FnExactStandardScales (p : Pj) : F_laws_FnExactStandardScales p = true := by
  unfold F_laws_FnExactStandardScales F_laws_toProjection
  simp only [bindP_e, eq_StandardScales, rf_Interval, Bool.not_true, cond_f, bne_self_eq_false]

end Go.Proofs.YtgofhiehdpggkaaGreat.Abs
