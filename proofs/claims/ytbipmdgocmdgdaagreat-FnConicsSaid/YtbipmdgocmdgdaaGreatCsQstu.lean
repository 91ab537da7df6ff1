/- Plain laws of the functions on numbers: what the program computes is what the reference computes. -/
import Derived.Test.YtbipmdgocmdgdaaGreatCsQqr
import Derived.Test.YtbipmdgocmdgdaaGreatCsFx
set_option linter.unusedVariables false
set_option linter.unusedSimpArgs false
namespace Go.Proofs.YtbipmdgocmdgdaaGreat.Abs
open Go
theorem eq_sinh (n : I64) : I_SinhI_1 n = S_l08Sinh n:=by
  unfold I_SinhI_1 S_l08Sinh
  simp only [bindP_e,eq_ExpAt,eq_SubI,eq_HalfI]
theorem eq_SinhI (x : Iv) : I_SinhI x = S_SinhI x:=by
  unfold I_SinhI S_SinhI I_monotonic__impl_SinhI_1
  rw [bindP_e,mono_eq x I_SinhI_1 S_l08Sinh fun _=>⟨eq_sinh _,eq_sinh _⟩]
  simp only [bindP_e]
theorem conicOf_n (p : Pj) : (conicOf p).n = S_l19Cone p:=Eq.trans rfl rfl
theorem conicOf_g (p : Pj) : (conicOf p).g = S_l19Constant p (S_l19Cone p):=Eq.trans rfl rfl
theorem conicOf_p (p : Pj) : (conicOf p).p = p:=Eq.trans rfl rfl
theorem conicOf_a (p : Pj) : (conicOf p).a = S_RadiansOf p.lat1:=Eq.trans rfl rfl
theorem conicOf_b (p : Pj) : (conicOf p).b = S_RadiansOf p.lat2:=Eq.trans rfl rfl
theorem conicOf_o (p : Pj) : (conicOf p).o = S_RadiansOf p.lat0:=Eq.trans rfl rfl
theorem eq_radius (p : Pj) (x : Iv) : I_conic_radius__pCn (conicOf p) x = S_l19Radius p.kind (S_l19Cone p) (S_l19Constant p (S_l19Cone p)) x:=by
  unfold I_conic_radius__pCn S_l19Radius
  simp only [conicOf_n,conicOf_g,conicOf_p]
  generalize S_l19Constant p (S_l19Cone p) = g
  generalize S_l19Cone p = n
  simp only [bindP_e,eq_SinI,eq_times,eq_MulI,eq_SubI,eq_SqrtI,eq_DivI,eq_isometric,eq_NegI,eq_ExpI]
theorem eq_scale (p : Pj) (x : Iv) : I_conic_scale__pCn (conicOf p) x = S_l19Scale p x:=by
  unfold I_conic_scale__pCn S_l19Scale
  simp only [bindP_e,eq_radius,conicOf_n,eq_MulI,eq_CosI,eq_DivI]
theorem eq_pair (x y : Iv) : I_pair x y = S_l17Scales x y:=by
  unfold I_pair S_l17Scales
  simp only [bindP_e,eq_areBounded]
  cases S_l04Ok x <;> cases S_l04Ok y <;> simp only [Bool.and_true,Bool.and_false,Bool.not_true,Bool.not_false,cond_t,cond_f]
theorem eq_planar17 (x y : Iv) : I_planar x y = S_l17End x y:=by
  unfold I_planar S_l17End
  simp only [bindP_e,eq_areBounded]
  cases S_l04Ok x <;> cases S_l04Ok y <;> simp only [Bool.and_true,Bool.and_false,Bool.not_true,Bool.not_false,cond_t,cond_f]
theorem zero_code : ((c64 0).val != 0) = false:=by decide
theorem one_code : ((c64 1).val != 0) = true:=by decide
theorem eq_ConicRadius (p : Pj) (x : Iv) : I_ConicRadius p x = S_ConicRadius p x:=by
  unfold I_ConicRadius S_ConicRadius
  simp only [bindP_e]
  rcases eq_newConic p with ⟨h1,h2⟩ | ⟨h1,h2⟩
  · rw [h1,h2]
    simp only [zero_code,cond_f,Bool.not_true,known19,eq_radius]
  · rw [h1,h2]
    simp only [one_code,cond_t,Bool.not_false]
theorem eq_StandardScales (p : Pj) : I_StandardScales p = S_StandardScales p:=by
  unfold I_StandardScales S_StandardScales
  simp only [bindP_e]
  rcases eq_newConic p with ⟨h1,h2⟩ | ⟨h1,h2⟩
  · rw [h1,h2]
    simp only [zero_code,cond_f,Bool.not_true,eq_scale,eq_pair,conicOf_a,conicOf_b]
  · rw [h1,h2]
    simp only [one_code,cond_t,Bool.not_false]
theorem code_zero : ((c64 0).val != 0) = false:=by decide
theorem code_one : ((c64 1).val != 0) = true:=by decide
theorem pole_eq (p : Pt) (h : -9223372036854775808 < p.lat.val) : I_isPole p = S_l11Pole p:=by
  unfold I_isPole S_l11Pole
  rw [bindP_e,abs_is _ _ (by decide) h]
theorem point_val {p : Pt} (h : S_l11Ok p = true) : -900000000 ≤ p.lat.val ∧ p.lat.val ≤ 900000000 ∧ -1800000000 < p.lon.val ∧ p.lon.val ≤ 1800000000:=by
  unfold S_l11Ok at h
  simp only [bindP_e,sp_in,c64_v] at h
  by_cases h1 : -900000000 ≤ p.lat.val
  · by_cases h2 : p.lat.val ≤ 900000000
    · simp only [h1,h2,decide_true,Bool.and_true,cond_t,Bool.and_eq_true,decide_eq_true_eq] at h
      omega
    · simp only [h1,h2,decide_true,decide_false,Bool.and_false,cond_f] at h
      cases h
  · simp only [h1,decide_false,Bool.false_and,cond_f] at h
    cases h
theorem l11_of {p : Pt} (h : -900000000 ≤ p.lat.val ∧ p.lat.val ≤ 900000000 ∧ -1800000000 < p.lon.val ∧ p.lon.val ≤ 1800000000) : S_l11Ok p = true:=by
  unfold S_l11Ok
  simp only [bindP_e,sp_in,c64_v]
  rw [decide_eq_true h.1,decide_eq_true h.2.1,decide_eq_true (by omega : -1799999999 ≤ p.lon.val),decide_eq_true h.2.2.2]
  rfl
end Go.Proofs.YtbipmdgocmdgdaaGreat.Abs
