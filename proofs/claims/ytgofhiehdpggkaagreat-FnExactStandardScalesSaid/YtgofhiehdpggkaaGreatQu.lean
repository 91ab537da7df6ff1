/- Plain laws of the functions on numbers: what the program computes is what the reference computes. -/
import Derived.Test.YtgofhiehdpggkaaGreatQt
import Derived.Test.YtgofhiehdpggkaaGreatF5
set_option linter.unusedVariables false
set_option linter.unusedSimpArgs false
namespace Go.Proofs.YtgofhiehdpggkaaGreat.Abs
open Go

/-- Bounded, or whole. -/
def Sane (z : Iv) : Prop := F_spec_l04Ok z = true ∨ z = F_spec_l04Whole

theorem sane_make (a b : I64) : Sane (F_spec_l04Make a b) := by
  by_cases h : -1152921504606846976 < a.val ∧ a.val ≤ b.val ∧ b.val < 1152921504606846976
  · rw [Make_ok h]
    exact .inl (Ok4_of h)
  · rw [Make_bad h]
    exact .inr rfl

theorem sane_whole : Sane F_spec_l04Whole := .inr rfl

theorem sane_bif {b : Bool} {x y : Iv} (hx : Sane x) (hy : Sane y) : Sane (bif b then x else y) := by
  cases b
  · exact hy
  · exact hx

theorem norm_sane (v : Vc) : Sane (F_spec_NormV v) := by
  rw [← eq_NormV]
  unfold F_impl_NormV
  simp only [bindP_e, eq_bounded, eq_Whole]
  exact sane_bif sane_whole (sane_bif sane_whole (sane_make _ _))

theorem flat_sane (v : Vc) : Sane (F_spec_l15Flat v) := by
  unfold F_spec_l15Flat
  rw [bindP_e]
  exact norm_sane _

theorem positive_sane {z : Iv} (h : Sane z) : F_impl_isPositive z = decide (z.lo.val > 0) := by
  unfold F_impl_isPositive
  simp only [bindP_e, eq_Valid]
  rcases h with h | h
  · rw [h, cond_t]
  · rw [h]
    decide

theorem l11_of {p : Pt} (h : -900000000 ≤ p.lat.val ∧ p.lat.val ≤ 900000000 ∧ -1800000000 < p.lon.val ∧ p.lon.val ≤ 1800000000) : F_spec_l11Ok p = true := by
  unfold F_spec_l11Ok
  simp only [bindP_e, sp_in, c64_v]
  rw [decide_eq_true h.1, decide_eq_true h.2.1, decide_eq_true (by omega : -1799999999 ≤ p.lon.val), decide_eq_true h.2.2.2]
  rfl

theorem back_ok {p : Pj} (h : F_spec_ValidProjection p = true) : F_spec_l11Ok ⟨w64 (0 - p.lat0.val), F_spec_l11Wrap (w64 (p.lon0.val + 1800000000))⟩ = true := by
  have hc := point_val (centre_ok h)
  have hw := wrap_in64 (w64 (p.lon0.val + 1800000000))
  have e1 : (F_impl_Projection_centre p).lat = p.lat0 := Eq.trans rfl rfl
  rw [e1] at hc
  have e : (w64 (0 - p.lat0.val)).val = -p.lat0.val := by rw [w64_val]; omega
  refine l11_of ⟨?_, ?_, hw.1, hw.2⟩
  · show _ ≤ (w64 (0 - p.lat0.val)).val
    omega
  · show (w64 (0 - p.lat0.val)).val ≤ _
    omega

theorem eq_samePlace {q r : Pt} (hq : F_spec_l11Ok q = true) (hr : F_spec_l11Ok r = true) : F_impl_samePlace q r = (F_spec_SamePlace q r).1 := by
  have hp := point_val hq
  unfold F_impl_samePlace F_spec_SamePlace
  simp only [bindP_e, hq, hr, pole_eq q (by omega), Bool.not_true, cond_f]
  cases (q.lat.val == r.lat.val) <;> cases (q.lon.val == r.lon.val) <;> cases F_spec_l11Pole q <;> rfl

theorem eq_localOf (p : Pj) (q : Pt) : F_impl_localOf (F_spec_RadiansOf p.lat0) (F_spec_RadiansOf q.lat) (F_spec_RadiansOf (F_spec_l11Wrap (w64 (q.lon.val - p.lon0.val)))) = F_spec_l18Local__pPj p q := by
  unfold F_impl_localOf F_spec_l18Local__pPj
  simp only [bindP_e, eq_CosI, eq_SinI, eq_MulI, eq_SubI, eq_AddI]

theorem eq_LocalOf (p : Pj) (q : Pt) : F_impl_LocalOf p q = (bif (!(F_spec_l18Ok__pPj p)) then ((⟨(⟨(c64 0), (c64 0)⟩ : Iv), (⟨(c64 0), (c64 0)⟩ : Iv), (⟨(c64 0), (c64 0)⟩ : Iv)⟩ : Vc), (c64 1)) else (bif (!(F_spec_l11Ok q)) then ((⟨(⟨(c64 0), (c64 0)⟩ : Iv), (⟨(c64 0), (c64 0)⟩ : Iv), (⟨(c64 0), (c64 0)⟩ : Iv)⟩ : Vc), (c64 1)) else (F_spec_l18Local__pPj p q, (c64 0)))) := by
  unfold F_impl_LocalOf
  simp only [bindP_e, eq_isAzimuthalOne, eq_ValidPoint]
  cases h1 : F_spec_l18Ok__pPj p with
  | false => simp only [Bool.not_false, cond_t]
  | true =>
    cases h2 : F_spec_l11Ok q with
    | false => simp only [Bool.not_false, Bool.not_true, cond_t, cond_f]
    | true =>
      have hl : F_impl_LatOf (F_impl_Projection_centre p) = F_spec_RadiansOf p.lat0 := eq_LatOf (centre_ok (ok18_proj h1))
      have hd : F_impl_differenceOf (F_impl_Projection_centre p) q = F_spec_RadiansOf (F_spec_l11Wrap (w64 (q.lon.val - p.lon0.val))) := by
        unfold F_impl_differenceOf
        simp only [bindP_e, eq_WrapLon, eq_RadiansOf]
        exact Eq.trans rfl rfl
      simp only [Bool.not_true, cond_f, hl, eq_LatOf h2, hd, eq_localOf]

theorem kind18 {p : Pj} (h : F_spec_l18Ok__pPj p = true) : p.kind.val = 5 ∨ p.kind.val = 6 ∨ p.kind.val = 7 ∨ p.kind.val = 8 ∨ p.kind.val = 9 := by
  unfold F_spec_l18Ok__pPj F_spec_l18Kind at h
  simp only [bindP_e] at h
  cases hk : F_spec_l00In p.kind (c64 5) (c64 9) with
  | false => rw [hk, cond_f] at h; cases h
  | true =>
    rw [sp_in] at hk
    simp only [Bool.and_eq_true, decide_eq_true_eq, c64_v] at hk
    omega

theorem eq_antipode {p : Pj} (h : F_spec_ValidProjection p = true) : (F_impl_Antipode (F_impl_Projection_centre p)).1 = ⟨w64 (0 - p.lat0.val), F_spec_l11Wrap (w64 (p.lon0.val + 1800000000))⟩ := by
  unfold F_impl_Antipode
  simp only [bindP_e, eq_ValidPoint, centre_ok h, eq_WrapLon, Bool.not_true, cond_f]
  exact Eq.trans rfl rfl

theorem eq_AzimuthalForward (p : Pj) (q : Pt) : F_impl_AzimuthalForward p q = F_spec_AzimuthalForward p q := by
  unfold F_impl_AzimuthalForward F_spec_AzimuthalForward
  simp only [bindP_e, eq_LocalOf]
  cases h1 : F_spec_l18Ok__pPj p with
  | false => simp only [Bool.not_false, cond_t, code_one]
  | true =>
    cases h2 : F_spec_l11Ok q with
    | false => simp only [Bool.not_false, Bool.not_true, cond_t, cond_f, code_one]
    | true =>
      have hv := ok18_proj h1
      simp only [Bool.not_true, cond_f, code_zero, eq_antipode hv, eq_samePlace h2 (back_ok hv)]
      cases (F_spec_SamePlace q ⟨w64 (0 - p.lat0.val), F_spec_l11Wrap (w64 (p.lon0.val + 1800000000))⟩).1 with
      | true => simp only [cond_t]
      | false =>
        simp only [cond_f]
        generalize F_spec_l18Local__pPj p q = v
        have hw : F_spec_Whole = F_spec_l04Whole := Eq.trans rfl rfl
        unfold F_impl_forwardFactor F_spec_l18Factor
        simp only [bindP_e, eq_Integer, eq_LessI, eq_DivI, eq_AddI, eq_Whole, hw, eq_SqrtI, eq_fromAxis, eq_DirectionI, eq_HullI, positive_sane (flat_sane _), eq_MulI, eq_planar]
        rcases kind18 h1 with hk | hk | hk | hk | hk <;> simp only [hk, Int.reduceBEq, cond_t, cond_f]
        · cases ((F_spec_LessI (F_spec_Integer (c64 0)) v.z).val == 0)
          · simp only [cond_f, code_zero]
          · simp only [cond_t, code_eight]
        · simp only [code_zero, cond_f]
        · cases ((F_spec_LessI v.z (F_spec_Integer (c64 0))).val == 1)
          · simp only [cond_f]
            cases decide (v.z.lo.val < 0)
            · simp only [cond_f, code_zero]
            · simp only [cond_t, cond_f, code_zero]
          · simp only [cond_t, code_eight]
        · cases decide ((F_spec_l15Flat v).lo.val > 0)
          · simp only [cond_f, code_zero]
          · simp only [cond_t, cond_f, code_zero]
        · simp only [cond_f, code_zero]

theorem pure_FnExactAzimuthalForward (p : Pj) (q : Pt) : F_laws_FnExactAzimuthalForward p q = true := by
  unfold F_laws_FnExactAzimuthalForward F_laws_toProjection F_laws_toPoint
  simp only [bindP_e, eq_AzimuthalForward, rf_Planar, Bool.not_true, cond_f, bne_self_eq_false]

end Go.Proofs.YtgofhiehdpggkaaGreat.Abs
