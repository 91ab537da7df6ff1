/- Plain laws of the functions on numbers: what the program computes is what the reference computes. -/
import Derived.Test.YtjckiicaegpghaaGreatQv
import Derived.Test.YtjckiicaegpghaaGreatF6
set_option linter.unusedVariables false
set_option linter.unusedSimpArgs false
namespace Go.Proofs.YtjckiicaegpghaaGreat.Abs
open Go

theorem eq_CylinderScales (p : Pj) (q : Pt) : F_impl_CylinderScales p q = F_spec_CylinderScales p q := by
  unfold F_impl_CylinderScales F_spec_CylinderScales F_spec_l17Cylinder F_impl_isCylindrical
  simp only [bindP_e, eq_ValidPoint, eq_l17Ok, eq_in]
  cases F_spec_l17Ok p with
  | false => simp only [Bool.not_false, cond_t, cond_f]
  | true =>
    cases h3 : F_spec_l11Ok q with
    | false => cases F_spec_l00In p.kind (c64 1) (c64 4) <;> simp only [Bool.not_false, Bool.not_true, cond_t, cond_f]
    | true =>
      cases F_spec_l00In p.kind (c64 1) (c64 4) with
      | false => simp only [Bool.not_false, Bool.not_true, cond_t, cond_f]
      | true =>
        have hp := point_val h3
        simp only [Bool.not_true, cond_t, cond_f, pole_eq q (by omega), eq_LatOf h3, spec_LatOf h3, eq_CosI, eq_RadiansOf, eq_Integer, eq_DivI, eq_Quotient, eq_MulI, eq_pair]

theorem eq_LonOf {p : Pt} (h : F_spec_l11Ok p = true) : F_impl_LonOf p = F_spec_RadiansOf p.lon := by
  unfold F_impl_LonOf
  simp only [bindP_e, eq_ValidPoint, h, Bool.not_true, cond_f, eq_RadiansOf]

theorem eq_vectorOf {p : Pt} (h : F_spec_l11Ok p = true) : F_impl_vectorOf p = F_spec_l15Vec p := by
  unfold F_impl_vectorOf F_spec_l15Vec
  simp only [bindP_e, eq_LatOf h, eq_LonOf h, eq_CosI, eq_SinI, eq_MulI]

theorem eq_AngleBetween (p q : Pt) : F_impl_AngleBetween p q = F_spec_AngleBetween p q := by
  unfold F_impl_AngleBetween F_spec_AngleBetween F_spec_l15Angle F_impl_areValid
  simp only [bindP_e, eq_ValidPoint]
  cases h1 : F_spec_l11Ok p with
  | false => simp only [Bool.not_false, cond_t, cond_f]
  | true =>
    cases h2 : F_spec_l11Ok q with
    | false => simp only [Bool.not_false, Bool.not_true, cond_t, cond_f]
    | true => simp only [Bool.not_true, cond_t, cond_f, eq_vectorOf h1, eq_vectorOf h2, eq_CrossV, eq_NormV, eq_DotV, eq_DirectionI, eq_knownI]

theorem known_ok {x y : Iv} {c : I64} (h : F_spec_l15Known x = (y, c)) (hc : (c.val != 0) = false) : F_spec_l04Ok y = true := by
  unfold F_spec_l15Known at h
  rw [bindP_e, spec_whole] at h
  cases ho : F_spec_l04Ok x with
  | true =>
    rw [ho, Bool.not_true, cond_f] at h
    cases h
    exact ho
  | false =>
    rw [ho, Bool.not_false, cond_t] at h
    cases h
    exact absurd hc (by decide)

theorem angle_ok {p q : Pt} (h : ((F_spec_AngleBetween p q).2.val != 0) = false) : F_spec_l04Ok (F_spec_AngleBetween p q).1 = true := by
  unfold F_spec_AngleBetween at h ⊢
  simp only [bindP_e] at h ⊢
  cases h1 : F_spec_l11Ok p with
  | false => rw [h1, Bool.not_false, cond_t] at h; exact absurd h (by decide)
  | true =>
    cases h2 : F_spec_l11Ok q with
    | false => rw [h1, h2, Bool.not_false, Bool.not_true, cond_f, cond_t] at h; exact absurd h (by decide)
    | true =>
      rw [h1, h2, Bool.not_true, cond_f] at h
      simp only [Bool.not_true, cond_f] at h ⊢
      exact known_ok rfl h

theorem eq_FamilyOf (k : I64) : F_impl_FamilyOf k = F_spec_l22Family k := by
  unfold F_impl_FamilyOf F_spec_l22Family F_impl_isCylindrical F_impl_isAzimuthal F_impl_isConic F_impl_isPseudo
  simp only [bindP_e, eq_in]

theorem eq_centreScales (p : Pj) (q : Pt) : F_impl_centreScales p q = F_spec_l22Azimuthal p q := by
  unfold F_impl_centreScales F_spec_l22Azimuthal
  have ec : F_impl_Projection_centre p = ⟨p.lat0, p.lon0⟩ := Eq.trans rfl rfl
  simp only [bindP_e, eq_AzimuthalForward, ec, eq_AngleBetween]
  cases h1 : F_spec_l18Ok__pPj p with
  | false =>
    have e : ((F_spec_AzimuthalForward p q).2.val != 0) = true := by
      unfold F_spec_AzimuthalForward
      simp only [bindP_e, h1, Bool.not_false, cond_t]
      decide
    simp only [e, cond_t]
  | true =>
    cases ((F_spec_AzimuthalForward p q).2.val != 0) with
    | true => simp only [cond_t]
    | false =>
      cases ha : ((F_spec_AngleBetween ⟨p.lat0, p.lon0⟩ q).2.val != 0) with
      | true => simp only [cond_t, cond_f]
      | false =>
        have hs := angle_ok ha
        simp only [cond_f]
        generalize (F_spec_AngleBetween ⟨p.lat0, p.lon0⟩ q).1 = c at *
        unfold F_impl_azimuthalScales
        simp only [bindP_e, eq_Integer, eq_HalfI, eq_CosI, eq_SqrI, eq_DivI, eq_SinI, eq_HullI, positive_sane (.inl hs), eq_pair]
        rcases kind18 h1 with hk | hk | hk | hk | hk <;> simp only [hk, Int.reduceBEq, cond_t, cond_f]
        cases decide (c.lo.val > 0) <;> simp only [cond_t, cond_f]

theorem scale_known (p : Pj) (q : Pt) : (((F_spec_TransverseScale p q).2.val != 0) = true ∧ (F_spec_TransverseScale p q).1 = ⟨c64 0, c64 0⟩) ∨ ((F_spec_TransverseScale p q).2 = c64 0 ∧ F_spec_l04Ok (F_spec_TransverseScale p q).1 = true) := by
  unfold F_spec_TransverseScale
  simp only [bindP_e]
  cases F_spec_l21Ok__pPj p with
  | false => exact .inl ⟨code_one, rfl⟩
  | true =>
    cases F_spec_l11Ok q with
    | false => exact .inl ⟨code_one, rfl⟩
    | true =>
      cases F_spec_l21Edge__pPj p q with
      | true => exact .inl ⟨code_eight, rfl⟩
      | false =>
        simp only [Bool.not_true, cond_f]
        generalize F_spec_DivI (F_spec_Integer (c64 1)) _ = x
        unfold F_spec_l15Known
        rw [bindP_e, spec_whole]
        cases h : F_spec_l04Ok x with
        | false => exact .inl ⟨code_nine, rfl⟩
        | true => exact .inr ⟨rfl, h⟩

theorem eq_Scales22 (p : Pj) (q : Pt) : F_impl_ScalesOf p q = F_spec_l22Scales p q := by
  unfold F_impl_ScalesOf F_spec_l22Scales
  simp only [bindP_e, eq_l17Ok, eq_ValidPoint, eq_FamilyOf, eq_CylinderScales, eq_centreScales, eq_ConicScales, eq_TransverseScale]
  have e : ((F_spec_TransverseScale p q).1, (F_spec_TransverseScale p q).1, (F_spec_TransverseScale p q).2) = (bif ((F_spec_TransverseScale p q).2.val != 0) then ((⟨(c64 0), (c64 0)⟩ : Iv), (⟨(c64 0), (c64 0)⟩ : Iv), (F_spec_TransverseScale p q).2) else ((F_spec_l17Scales (F_spec_TransverseScale p q).1 (F_spec_TransverseScale p q).1).1, (F_spec_l17Scales (F_spec_TransverseScale p q).1 (F_spec_TransverseScale p q).1).2.1, (F_spec_l17Scales (F_spec_TransverseScale p q).1 (F_spec_TransverseScale p q).1).2.2)) := by
    rcases scale_known p q with ⟨h1, h2⟩ | ⟨h1, h2⟩
    · rw [h1, h2, cond_t]
    · rw [h1, code_zero, cond_f]
      unfold F_spec_l17Scales
      simp only [bindP_e, h2, Bool.not_true, cond_f]
  rw [e]

end Go.Proofs.YtjckiicaegpghaaGreat.Abs
