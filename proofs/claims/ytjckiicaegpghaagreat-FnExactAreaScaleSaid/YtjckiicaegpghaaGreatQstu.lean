/- Plain laws of the functions on numbers: what the program computes is what the reference computes. -/
import Derived.Test.YtjckiicaegpghaaGreatQqr
import Derived.Test.YtjckiicaegpghaaGreatF6
set_option linter.unusedVariables false
set_option linter.unusedSimpArgs false
namespace Go.Proofs.YtjckiicaegpghaaGreat.Abs
open Go

theorem AbsI_ok (x : Iv) : F_spec_l04Ok (F_spec_AbsI x) = F_spec_l04Ok x := by
  cases ho : F_spec_l04Ok x with
  | true =>
    rw [AbsI_val ho]
    obtain ⟨h1, h2, h3⟩ := Ends_val ho
    exact Ok4_of ⟨by show _ < (F_spec_l04Ends x).1.val; omega, h2, h3⟩
  | false =>
    unfold F_spec_AbsI
    simp only [bindP_e, ho, Bool.not_false, cond_t]
    decide

theorem atanh_pos (f : I64 → Iv) (n : I64) (h0 : 0 ≤ n.val) (h1 : n.val < 1152921504606846976) : F_impl_AtanhI_1 n = F_spec_l08Atanh_b f n := by
  unfold F_impl_AtanhI_1 F_spec_l08Atanh_b
  rw [decide_eq_false (by omega : ¬ n.val < 0), cond_f]
  by_cases h : n.val ≥ 4294967296
  · simp only [decide_eq_true h, cond_t, bindP_e, eq_Whole]
  · simp only [decide_eq_false h, cond_f, bindP_e]
    rw [at8 (by rw [w64_val]; omega), at8 (by rw [w64_val]; omega), eq_DivI, eq_LogI, eq_HalfI]

theorem eq_atanh (n : I64) (h0 : -1152921504606846976 < n.val) (h1 : n.val < 1152921504606846976) : F_impl_odd_1__p_impl_AtanhI_1 n = F_spec_l08Atanh n := by
  unfold F_impl_odd_1__p_impl_AtanhI_1 F_spec_l08Atanh F_spec_l08Atanh_r
  simp only [bindP_e, eq_NegI]
  by_cases h : n.val < 0
  · have en : (w64 (0 - n.val)).val = -n.val := by rw [w64_val]; omega
    rw [decide_eq_true h, cond_t, atanh_pos (F_spec_l08Atanh_r 0) (w64 (0 - n.val)) (by omega) (by omega)]
    rw [show F_spec_l08Atanh_b (F_spec_l08Atanh_r 1) n = F_spec_NegI (F_spec_l08Atanh_r 1 (w64 (0 - n.val))) by
      rw [F_spec_l08Atanh_b]
      simp only [bindP_e, decide_eq_true h, cond_t]]
    rw [F_spec_l08Atanh_r]
  · rw [decide_eq_false h, cond_f]
    exact atanh_pos _ n (by omega) h1

theorem eq_AtanhI (x : Iv) : F_impl_AtanhI x = F_spec_AtanhI x := by
  unfold F_impl_AtanhI F_spec_AtanhI F_impl_monotonic__impl_odd_1_p_impl_AtanhI_1
  rw [bindP_e, mono_eq x F_impl_odd_1__p_impl_AtanhI_1 F_spec_l08Atanh fun h => by
    obtain ⟨h1, h2, h3⟩ := Ok4 h
    exact ⟨eq_atanh _ h1 (by omega), eq_atanh _ (by omega) h3⟩]
  simp only [bindP_e]

theorem conicOf_n (p : Pj) : (conicOf p).n = F_spec_l19Cone p := Eq.trans rfl rfl

theorem conicOf_g (p : Pj) : (conicOf p).g = F_spec_l19Constant p (F_spec_l19Cone p) := Eq.trans rfl rfl

theorem conicOf_p (p : Pj) : (conicOf p).p = p := Eq.trans rfl rfl

theorem conicOf_a (p : Pj) : (conicOf p).a = F_spec_RadiansOf p.lat1 := Eq.trans rfl rfl

theorem conicOf_b (p : Pj) : (conicOf p).b = F_spec_RadiansOf p.lat2 := Eq.trans rfl rfl

theorem conicOf_o (p : Pj) : (conicOf p).o = F_spec_RadiansOf p.lat0 := Eq.trans rfl rfl

theorem eq_radius (p : Pj) (x : Iv) : F_impl_conic_radius__pCn (conicOf p) x = F_spec_l19Radius p.kind (F_spec_l19Cone p) (F_spec_l19Constant p (F_spec_l19Cone p)) x := by
  unfold F_impl_conic_radius__pCn F_spec_l19Radius
  simp only [conicOf_n, conicOf_g, conicOf_p]
  generalize F_spec_l19Constant p (F_spec_l19Cone p) = g
  generalize F_spec_l19Cone p = n
  simp only [bindP_e, eq_SinI, eq_times, eq_MulI, eq_SubI, eq_SqrtI, eq_DivI, eq_isometric, eq_NegI, eq_ExpI]

theorem eq_scale (p : Pj) (x : Iv) : F_impl_conic_scale__pCn (conicOf p) x = F_spec_l19Scale p x := by
  unfold F_impl_conic_scale__pCn F_spec_l19Scale
  simp only [bindP_e, eq_radius, conicOf_n, eq_MulI, eq_CosI, eq_DivI]

theorem eq_pair (x y : Iv) : F_impl_pair x y = F_spec_l17Scales x y := by
  unfold F_impl_pair F_spec_l17Scales
  simp only [bindP_e, eq_areBounded]
  cases F_spec_l04Ok x <;> cases F_spec_l04Ok y <;> simp only [Bool.and_true, Bool.and_false, Bool.not_true, Bool.not_false, cond_t, cond_f]

theorem eq_planar17 (x y : Iv) : F_impl_planar x y = F_spec_l17End x y := by
  unfold F_impl_planar F_spec_l17End
  simp only [bindP_e, eq_areBounded]
  cases F_spec_l04Ok x <;> cases F_spec_l04Ok y <;> simp only [Bool.and_true, Bool.and_false, Bool.not_true, Bool.not_false, cond_t, cond_f]

theorem zero_code : ((c64 0).val != 0) = false := by decide

theorem one_code : ((c64 1).val != 0) = true := by decide

theorem code_zero : ((c64 0).val != 0) = false := by decide

theorem code_one : ((c64 1).val != 0) = true := by decide

theorem code_eight : ((c64 8).val != 0) = true := by decide

theorem code_nine : ((c64 9).val != 0) = true := by decide

theorem eq_TransverseForward (p : Pj) (q : Pt) : F_impl_TransverseForward p q = F_spec_TransverseForward p q := by
  unfold F_impl_TransverseForward F_spec_TransverseForward F_spec_l21Forward__pPj F_spec_l21Side__pPj
  simp only [bindP_e, eq_transverse]
  cases F_spec_l21Ok__pPj p with
  | false => simp only [Bool.not_false, cond_t, code_one]
  | true =>
    cases F_spec_l11Ok q with
    | false => simp only [Bool.not_false, Bool.not_true, cond_t, cond_f, code_one]
    | true =>
      cases F_spec_l21Edge__pPj p q with
      | true => simp only [Bool.not_true, cond_t, cond_f, code_eight]
      | false => simp only [Bool.not_true, cond_f, code_zero, eq_AtanhI, eq_SinI, eq_MulI, eq_CosI, eq_DirectionI, eq_RadiansOf, eq_SubI, eq_planar]

theorem spec_whole (x : Iv) : F_spec_IsWhole x = !F_spec_l04Ok x := by
  unfold F_spec_IsWhole
  simp only [bindP_e]

theorem pole_eq (p : Pt) (h : -9223372036854775808 < p.lat.val) : F_impl_isPole p = F_spec_l11Pole p := by
  unfold F_impl_isPole F_spec_l11Pole
  rw [bindP_e, abs_is _ _ (by decide) h]

theorem point_val {p : Pt} (h : F_spec_l11Ok p = true) : -900000000 ≤ p.lat.val ∧ p.lat.val ≤ 900000000 ∧ -1800000000 < p.lon.val ∧ p.lon.val ≤ 1800000000 := by
  unfold F_spec_l11Ok at h
  simp only [bindP_e, sp_in, c64_v] at h
  by_cases h1 : -900000000 ≤ p.lat.val
  · by_cases h2 : p.lat.val ≤ 900000000
    · simp only [h1, h2, decide_true, Bool.and_true, cond_t, Bool.and_eq_true, decide_eq_true_eq] at h
      omega
    · simp only [h1, h2, decide_true, decide_false, Bool.and_false, cond_f] at h
      cases h
  · simp only [h1, decide_false, Bool.false_and, cond_f] at h
    cases h

theorem eq_ConicScales (p : Pj) (q : Pt) : F_impl_ConicScales p q = F_spec_ConicScales p q := by
  unfold F_impl_ConicScales F_spec_ConicScales
  simp only [bindP_e, eq_ValidPoint]
  rcases eq_newConic p with ⟨h1, h2⟩ | ⟨h1, h2⟩
  · rw [h1, h2]
    simp only [zero_code, cond_f, Bool.not_true]
    cases h3 : F_spec_l11Ok q with
    | false => simp only [Bool.not_false, cond_t]
    | true =>
      have hp := point_val h3
      have hl : F_spec_LatOf q = F_spec_RadiansOf q.lat := by
        unfold F_spec_LatOf
        simp only [bindP_e, h3, Bool.not_true, cond_f]
      simp only [Bool.not_true, cond_f, pole_eq q (by omega), eq_LatOf h3, hl, eq_scale, eq_pair, eq_Integer, eq_DivI]
  · rw [h1, h2]
    simp only [one_code, cond_t, Bool.not_false]

/-- Bounded, or whole. -/
def Sane (z : Iv) : Prop := F_spec_l04Ok z = true ∨ z = F_spec_l04Whole

theorem sane_make (a b : I64) : Sane (F_spec_l04Make a b) := by
  by_cases h : -1152921504606846976 < a.val ∧ a.val ≤ b.val ∧ b.val < 1152921504606846976
  · rw [Make_ok h]
    exact .inl (Ok4_of h)
  · rw [Make_bad h]
    exact .inr rfl

theorem sane_whole : Sane F_spec_l04Whole := .inr rfl

theorem sane_bif {b : Bool} {x y : Iv} (hx : Sane x) (hy : Sane y) : Sane (bif b then x else y) := by
  cases b
  · exact hy
  · exact hx

theorem norm_sane (v : Vc) : Sane (F_spec_NormV v) := by
  rw [← eq_NormV]
  unfold F_impl_NormV
  simp only [bindP_e, eq_bounded, eq_Whole]
  exact sane_bif sane_whole (sane_bif sane_whole (sane_make _ _))

theorem flat_sane (v : Vc) : Sane (F_spec_l15Flat v) := by
  unfold F_spec_l15Flat
  rw [bindP_e]
  exact norm_sane _

theorem positive_sane {z : Iv} (h : Sane z) : F_impl_isPositive z = decide (z.lo.val > 0) := by
  unfold F_impl_isPositive
  simp only [bindP_e, eq_Valid]
  rcases h with h | h
  · rw [h, cond_t]
  · rw [h]
    decide

theorem l11_of {p : Pt} (h : -900000000 ≤ p.lat.val ∧ p.lat.val ≤ 900000000 ∧ -1800000000 < p.lon.val ∧ p.lon.val ≤ 1800000000) : F_spec_l11Ok p = true := by
  unfold F_spec_l11Ok
  simp only [bindP_e, sp_in, c64_v]
  rw [decide_eq_true h.1, decide_eq_true h.2.1, decide_eq_true (by omega : -1799999999 ≤ p.lon.val), decide_eq_true h.2.2.2]
  rfl

theorem back_ok {p : Pj} (h : F_spec_ValidProjection p = true) : F_spec_l11Ok ⟨w64 (0 - p.lat0.val), F_spec_l11Wrap (w64 (p.lon0.val + 1800000000))⟩ = true := by
  have hc := point_val (centre_ok h)
  have hw := wrap_in64 (w64 (p.lon0.val + 1800000000))
  have e1 : (F_impl_Projection_centre p).lat = p.lat0 := Eq.trans rfl rfl
  rw [e1] at hc
  have e : (w64 (0 - p.lat0.val)).val = -p.lat0.val := by rw [w64_val]; omega
  refine l11_of ⟨?_, ?_, hw.1, hw.2⟩
  · show _ ≤ (w64 (0 - p.lat0.val)).val
    omega
  · show (w64 (0 - p.lat0.val)).val ≤ _
    omega

theorem eq_samePlace {q r : Pt} (hq : F_spec_l11Ok q = true) (hr : F_spec_l11Ok r = true) : F_impl_samePlace q r = (F_spec_SamePlace q r).1 := by
  have hp := point_val hq
  unfold F_impl_samePlace F_spec_SamePlace
  simp only [bindP_e, hq, hr, pole_eq q (by omega), Bool.not_true, cond_f]
  cases (q.lat.val == r.lat.val) <;> cases (q.lon.val == r.lon.val) <;> cases F_spec_l11Pole q <;> rfl

theorem eq_localOf (p : Pj) (q : Pt) : F_impl_localOf (F_spec_RadiansOf p.lat0) (F_spec_RadiansOf q.lat) (F_spec_RadiansOf (F_spec_l11Wrap (w64 (q.lon.val - p.lon0.val)))) = F_spec_l18Local__pPj p q := by
  unfold F_impl_localOf F_spec_l18Local__pPj
  simp only [bindP_e, eq_CosI, eq_SinI, eq_MulI, eq_SubI, eq_AddI]

theorem eq_LocalOf (p : Pj) (q : Pt) : F_impl_LocalOf p q = (bif (!(F_spec_l18Ok__pPj p)) then ((⟨(⟨(c64 0), (c64 0)⟩ : Iv), (⟨(c64 0), (c64 0)⟩ : Iv), (⟨(c64 0), (c64 0)⟩ : Iv)⟩ : Vc), (c64 1)) else (bif (!(F_spec_l11Ok q)) then ((⟨(⟨(c64 0), (c64 0)⟩ : Iv), (⟨(c64 0), (c64 0)⟩ : Iv), (⟨(c64 0), (c64 0)⟩ : Iv)⟩ : Vc), (c64 1)) else (F_spec_l18Local__pPj p q, (c64 0)))) := by
  unfold F_impl_LocalOf
  simp only [bindP_e, eq_isAzimuthalOne, eq_ValidPoint]
  cases h1 : F_spec_l18Ok__pPj p with
  | false => simp only [Bool.not_false, cond_t]
  | true =>
    cases h2 : F_spec_l11Ok q with
    | false => simp only [Bool.not_false, Bool.not_true, cond_t, cond_f]
    | true =>
      have hl : F_impl_LatOf (F_impl_Projection_centre p) = F_spec_RadiansOf p.lat0 := eq_LatOf (centre_ok (ok18_proj h1))
      have hd : F_impl_differenceOf (F_impl_Projection_centre p) q = F_spec_RadiansOf (F_spec_l11Wrap (w64 (q.lon.val - p.lon0.val))) := by
        unfold F_impl_differenceOf
        simp only [bindP_e, eq_WrapLon, eq_RadiansOf]
        exact Eq.trans rfl rfl
      simp only [Bool.not_true, cond_f, hl, eq_LatOf h2, hd, eq_localOf]

theorem kind18 {p : Pj} (h : F_spec_l18Ok__pPj p = true) : p.kind.val = 5 ∨ p.kind.val = 6 ∨ p.kind.val = 7 ∨ p.kind.val = 8 ∨ p.kind.val = 9 := by
  unfold F_spec_l18Ok__pPj F_spec_l18Kind at h
  simp only [bindP_e] at h
  cases hk : F_spec_l00In p.kind (c64 5) (c64 9) with
  | false => rw [hk, cond_f] at h; cases h
  | true =>
    rw [sp_in] at hk
    simp only [Bool.and_eq_true, decide_eq_true_eq, c64_v] at hk
    omega

theorem eq_antipode {p : Pj} (h : F_spec_ValidProjection p = true) : (F_impl_Antipode (F_impl_Projection_centre p)).1 = ⟨w64 (0 - p.lat0.val), F_spec_l11Wrap (w64 (p.lon0.val + 1800000000))⟩ := by
  unfold F_impl_Antipode
  simp only [bindP_e, eq_ValidPoint, centre_ok h, eq_WrapLon, Bool.not_true, cond_f]
  exact Eq.trans rfl rfl

theorem eq_AzimuthalForward (p : Pj) (q : Pt) : F_impl_AzimuthalForward p q = F_spec_AzimuthalForward p q := by
  unfold F_impl_AzimuthalForward F_spec_AzimuthalForward
  simp only [bindP_e, eq_LocalOf]
  cases h1 : F_spec_l18Ok__pPj p with
  | false => simp only [Bool.not_false, cond_t, code_one]
  | true =>
    cases h2 : F_spec_l11Ok q with
    | false => simp only [Bool.not_false, Bool.not_true, cond_t, cond_f, code_one]
    | true =>
      have hv := ok18_proj h1
      simp only [Bool.not_true, cond_f, code_zero, eq_antipode hv, eq_samePlace h2 (back_ok hv)]
      cases (F_spec_SamePlace q ⟨w64 (0 - p.lat0.val), F_spec_l11Wrap (w64 (p.lon0.val + 1800000000))⟩).1 with
      | true => simp only [cond_t]
      | false =>
        simp only [cond_f]
        generalize F_spec_l18Local__pPj p q = v
        have hw : F_spec_Whole = F_spec_l04Whole := Eq.trans rfl rfl
        unfold F_impl_forwardFactor F_spec_l18Factor
        simp only [bindP_e, eq_Integer, eq_LessI, eq_DivI, eq_AddI, eq_Whole, hw, eq_SqrtI, eq_fromAxis, eq_DirectionI, eq_HullI, positive_sane (flat_sane _), eq_MulI, eq_planar]
        rcases kind18 h1 with hk | hk | hk | hk | hk <;> simp only [hk, Int.reduceBEq, cond_t, cond_f]
        · cases ((F_spec_LessI (F_spec_Integer (c64 0)) v.z).val == 0)
          · simp only [cond_f, code_zero]
          · simp only [cond_t, code_eight]
        · simp only [code_zero, cond_f]
        · cases ((F_spec_LessI v.z (F_spec_Integer (c64 0))).val == 1)
          · simp only [cond_f]
            cases decide (v.z.lo.val < 0)
            · simp only [cond_f, code_zero]
            · simp only [cond_t, cond_f, code_zero]
          · simp only [cond_t, code_eight]
        · cases decide ((F_spec_l15Flat v).lo.val > 0)
          · simp only [cond_f, code_zero]
          · simp only [cond_t, cond_f, code_zero]
        · simp only [cond_f, code_zero]

end Go.Proofs.YtjckiicaegpghaaGreat.Abs
