/- Plain laws of the functions on numbers: what the program computes is what the reference computes. -/
import Derived.Test.YtclbkeejhnmeoaaGreatQw
import Derived.Test.YtclbkeejhnmeoaaGreatF6
set_option linter.unusedVariables false
set_option linter.unusedSimpArgs false
namespace Go.Proofs.YtclbkeejhnmeoaaGreat.Abs
open Go

theorem eq_l12Ok (e : El) : F_impl_ValidEllipsoid e = F_spec_l12Ok e := by
  unfold F_impl_ValidEllipsoid F_spec_l12Ok
  simp only [bindP_e, sp_in, sp_within, c64_v]
  rw [Bool.eq_iff_iff]
  first | (simp; done) | (simp; grind)

theorem eq_ValidEllipsoid (e : El) : F_impl_ValidEllipsoid e = F_spec_ValidEllipsoid e := by
  unfold F_spec_ValidEllipsoid
  rw [bindP_e, eq_l12Ok]

theorem eq_MajorI (e : El) : F_impl_MajorI e = F_spec_MajorI e := by
  unfold F_impl_MajorI F_spec_MajorI F_impl_ifValid__impl_MajorI_1_pEl F_impl_MajorI_1__pEl
  simp only [bindP_e, eq_l12Ok, eq_Whole, eq_Quotient]

theorem eq_FlatteningI (e : El) : F_impl_FlatteningI e = F_spec_FlatteningI e := by
  unfold F_impl_FlatteningI F_spec_FlatteningI F_impl_ifValid__impl_FlatteningI_1_pEl F_impl_FlatteningI_1__pEl
  simp only [bindP_e, eq_l12Ok, eq_Whole, eq_Quotient]

theorem eq_EccI (e : El) : F_impl_EccI e = F_spec_EccI e := by
  unfold F_impl_EccI F_spec_EccI
  simp only [bindP_e, eq_FlatteningI, eq_Integer, eq_SubI, eq_MulI]

theorem eq_weightOf (e : El) (s : Iv) : F_impl_weightOf e s = F_spec_SubI (F_spec_Integer (c64 1)) (F_spec_MulI (F_spec_EccI e) (F_spec_SqrI s)) := by
  unfold F_impl_weightOf
  simp only [bindP_e, eq_EccI, eq_SqrI, eq_MulI, eq_oneLess]

theorem eq_RadiusN (e : El) (x : Iv) : F_impl_RadiusN e x = F_spec_RadiusN e x := by
  unfold F_impl_RadiusN F_spec_RadiusN F_spec_l12W
  simp only [bindP_e, eq_MajorI, eq_SinI, eq_weightOf, eq_SqrtI, eq_DivI]

theorem eq_ValidPlace (p : Pl) : F_impl_ValidPlace p = F_spec_l14Ok__pPl p := by
  unfold F_impl_ValidPlace F_spec_l14Ok__pPl F_impl_isHeight
  simp only [bindP_e, eq_ValidPoint, eq_in]

theorem place_ok {p : Pl} (h : F_spec_l14Ok__pPl p = true) : F_spec_l11Ok p.point = true ∧ F_spec_l00In p.height (c64 (-20000000)) (c64 20000000000) = true := by
  unfold F_spec_l14Ok__pPl at h
  simp only [bindP_e] at h
  cases h1 : F_spec_l11Ok p.point with
  | false => rw [h1, cond_f] at h; cases h
  | true => rw [h1, cond_t] at h; exact ⟨rfl, h⟩

theorem eq_toCartesian (e : El) {p : Pl} (h : F_spec_l14Ok__pPl p = true) : F_impl_toCartesian e p = F_spec_l14To__pPl p e := by
  obtain ⟨h1, h2⟩ := place_ok h
  unfold F_impl_toCartesian F_spec_l14To__pPl F_impl_HeightI F_impl_isHeight
  simp only [bindP_e, eq_LatOf h1, eq_LonOf h1, eq_in, h2, Bool.not_true, cond_f, eq_RadiusN, eq_Quotient, eq_AddI, eq_CosI, eq_SinI, eq_MulI, eq_EccI, eq_oneLess]

theorem eq_SideAt {e : El} (h : F_spec_ValidEllipsoid e = true) (v : Vc) (n : I64) : F_impl_SideAt e v n = F_spec_l14Side e (F_spec_l15Flat v) v.z n := by
  have ea : F_impl_at n = F_spec_l05At n := rfl
  unfold F_impl_SideAt F_spec_l14Side
  simp only [bindP_e, eq_ValidEllipsoid, h, Bool.not_true, cond_f, eq_SinAt, eq_CosAt, eq_EccI, eq_RadiusN, ea, eq_MulI, eq_fromAxis, eq_SubI]

theorem far_code (e : El) (v : Vc) : F_impl_centreCode e v = F_spec_l14Far e v := by
  unfold F_impl_centreCode F_spec_l14Far
  simp only [bindP_e, eq_ValidEllipsoid, eq_NormV, eq_MajorI, eq_HalfI, eq_LessI]
  cases F_spec_ValidEllipsoid e with
  | false => simp only [Bool.not_false, cond_t]
  | true =>
    simp only [Bool.not_true, cond_f]
    rcases LessI_val (F_spec_NormV v) (F_spec_HalfI (F_spec_MajorI e)) with h | h | h <;> simp only [h, Int.reduceBEq, cond_t, cond_f]

theorem far_valid {e : El} {v : Vc} (h : ((F_spec_l14Far e v).val != 0) = false) : F_spec_ValidEllipsoid e = true := by
  unfold F_spec_l14Far at h
  simp only [bindP_e] at h
  cases hv : F_spec_ValidEllipsoid e with
  | true => rfl
  | false => rw [hv, Bool.not_false, cond_t] at h; exact absurd h (by decide)

theorem lat1 {e : El} (h : F_spec_ValidEllipsoid e = true) (v : Vc) (x : I64) : ∀ (fu : Nat) (lo hi : I64), F_impl_latitudeOf_L1 fu e v x lo hi = F_spec_l14Lat_L1 fu e v (F_spec_l15Flat v) x lo hi := by
  intro fu
  induction fu with
  | zero => intro lo hi; rfl
  | succ fu ih =>
    intro lo hi
    unfold F_impl_latitudeOf_L1 F_spec_l14Lat_L1
    simp only [bindP_e, eq_SideAt h, ih]

theorem lat0 {e : El} (h : F_spec_ValidEllipsoid e = true) (v : Vc) : ∀ (fu : Nat) (lo hi : I64), F_impl_latitudeOf_L0 fu e v lo hi = F_spec_l14Lat_L0 fu e v (F_spec_l15Flat v) lo hi := by
  intro fu
  induction fu with
  | zero => intro lo hi; rfl
  | succ fu ih =>
    intro lo hi
    unfold F_impl_latitudeOf_L0 F_spec_l14Lat_L0
    simp only [bindP_e, eq_SideAt h, ih, lat1 h, quarter_hi]

theorem eq_latitudeOf {e : El} (h : F_spec_ValidEllipsoid e = true) (v : Vc) : F_impl_latitudeOf e v = F_spec_l14Lat e v := by
  unfold F_impl_latitudeOf F_spec_l14Lat
  simp only [bindP_e, lat0 h, quarter_hi]

theorem eq_FromCartesian (e : El) (v : Vc) : F_impl_FromCartesian e v = F_spec_FromCartesian e v := by
  unfold F_impl_FromCartesian F_spec_FromCartesian
  simp only [bindP_e, far_code]
  cases hf : ((F_spec_l14Far e v).val != 0) with
  | true => simp only [cond_t]
  | false =>
    simp only [cond_f, eq_latitudeOf (far_valid hf), eq_SinI, eq_CosI, eq_fromAxis, eq_MulI, eq_AddI, eq_MajorI, eq_weightOf, eq_SqrtI, eq_SubI, eq_IsWhole, spec_whole, eq_DirectionI]

theorem eq_MovePlace (e : El) (s : Sf) (f : El) (p : Pl) : F_impl_MovePlace e s f p = F_spec_MovePlace e s f p := by
  unfold F_impl_MovePlace F_spec_MovePlace
  simp only [bindP_e, eq_ValidEllipsoid, eq_ValidShift, eq_ValidPlace, eq_affineOf, eq_ApplyAffine, eq_FromCartesian]
  cases h4 : F_spec_l14Ok__pPl p with
  | false => cases F_spec_ValidEllipsoid e <;> cases F_spec_ValidEllipsoid f <;> cases F_spec_l23Ok__pSf s <;> simp only [Bool.not_false, Bool.not_true, cond_t, cond_f]
  | true => cases F_spec_ValidEllipsoid e <;> cases F_spec_ValidEllipsoid f <;> cases F_spec_l23Ok__pSf s <;> simp only [Bool.not_false, Bool.not_true, cond_t, cond_f, eq_toCartesian e h4]

theorem pure_FnExactMovePlace (e : El) (s : Sf) (f : El) (p : Pl) : F_laws_FnExactMovePlace e s f p = true := by
  unfold F_laws_FnExactMovePlace F_laws_toEllipsoid F_laws_toShift F_laws_toPlace F_laws_toPoint
  simp only [bindP_e, eq_MovePlace, rf_Interval, Bool.not_true, cond_f, bne_self_eq_false]

end Go.Proofs.YtclbkeejhnmeoaaGreat.Abs
