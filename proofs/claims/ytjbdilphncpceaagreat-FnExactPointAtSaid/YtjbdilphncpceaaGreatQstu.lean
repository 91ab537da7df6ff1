/- Plain laws of the functions on numbers: what the program computes is what the reference computes. -/
import Derived.Test.YtjbdilphncpceaaGreatQqr
import Derived.Test.YtjbdilphncpceaaGreatF5
set_option linter.unusedVariables false
set_option linter.unusedSimpArgs false
namespace Go.Proofs.YtjbdilphncpceaaGreat.Abs
open Go

theorem eq_sinh (n : I64) : F_impl_SinhI_1 n = F_spec_l08Sinh n := by
  unfold F_impl_SinhI_1 F_spec_l08Sinh
  simp only [bindP_e, eq_ExpAt, eq_SubI, eq_HalfI]

theorem eq_SinhI (x : Iv) : F_impl_SinhI x = F_spec_SinhI x := by
  unfold F_impl_SinhI F_spec_SinhI F_impl_monotonic__impl_SinhI_1
  rw [bindP_e, mono_eq x F_impl_SinhI_1 F_spec_l08Sinh fun _ => ⟨eq_sinh _, eq_sinh _⟩]
  simp only [bindP_e]

theorem eq_cosh (n : I64) : F_impl_CoshI_1 n = F_spec_l08Cosh n := by
  unfold F_impl_CoshI_1 F_spec_l08Cosh
  simp only [bindP_e, eq_ExpAt, eq_AddI, eq_HalfI]

theorem AbsI_ok (x : Iv) : F_spec_l04Ok (F_spec_AbsI x) = F_spec_l04Ok x := by
  cases ho : F_spec_l04Ok x with
  | true =>
    rw [AbsI_val ho]
    obtain ⟨h1, h2, h3⟩ := Ends_val ho
    exact Ok4_of ⟨by show _ < (F_spec_l04Ends x).1.val; omega, h2, h3⟩
  | false =>
    unfold F_spec_AbsI
    simp only [bindP_e, ho, Bool.not_false, cond_t]
    decide

theorem eq_CoshI (x : Iv) : F_impl_CoshI x = F_spec_CoshI x := by
  unfold F_impl_CoshI F_spec_CoshI F_impl_monotonic__impl_CoshI_1
  simp only [bindP_e, eq_AbsI2]
  have h := mono_eq (F_spec_AbsI x) F_impl_CoshI_1 F_spec_l08Cosh fun _ => ⟨eq_cosh _, eq_cosh _⟩
  simp only [bindP_e, AbsI_ok] at h
  exact h

theorem conicOf_n (p : Pj) : (conicOf p).n = F_spec_l19Cone p := Eq.trans rfl rfl

theorem conicOf_g (p : Pj) : (conicOf p).g = F_spec_l19Constant p (F_spec_l19Cone p) := Eq.trans rfl rfl

theorem conicOf_p (p : Pj) : (conicOf p).p = p := Eq.trans rfl rfl

theorem conicOf_a (p : Pj) : (conicOf p).a = F_spec_RadiansOf p.lat1 := Eq.trans rfl rfl

theorem conicOf_b (p : Pj) : (conicOf p).b = F_spec_RadiansOf p.lat2 := Eq.trans rfl rfl

theorem conicOf_o (p : Pj) : (conicOf p).o = F_spec_RadiansOf p.lat0 := Eq.trans rfl rfl

theorem eq_radius (p : Pj) (x : Iv) : F_impl_conic_radius__pCn (conicOf p) x = F_spec_l19Radius p.kind (F_spec_l19Cone p) (F_spec_l19Constant p (F_spec_l19Cone p)) x := by
  unfold F_impl_conic_radius__pCn F_spec_l19Radius
  simp only [conicOf_n, conicOf_g, conicOf_p]
  generalize F_spec_l19Constant p (F_spec_l19Cone p) = g
  generalize F_spec_l19Cone p = n
  simp only [bindP_e, eq_SinI, eq_times, eq_MulI, eq_SubI, eq_SqrtI, eq_DivI, eq_isometric, eq_NegI, eq_ExpI]

theorem zero_code : ((c64 0).val != 0) = false := by decide

theorem one_code : ((c64 1).val != 0) = true := by decide

theorem code_zero : ((c64 0).val != 0) = false := by decide

theorem code_one : ((c64 1).val != 0) = true := by decide

theorem code_eight : ((c64 8).val != 0) = true := by decide

theorem code_nine : ((c64 9).val != 0) = true := by decide

theorem spec_whole (x : Iv) : F_spec_IsWhole x = !F_spec_l04Ok x := by
  unfold F_spec_IsWhole
  simp only [bindP_e]

theorem eq_TransverseInverse (p : Pj) (q : Pn) : F_impl_TransverseInverse p q = F_spec_TransverseInverse p q := by
  unfold F_impl_TransverseInverse F_spec_TransverseInverse
  simp only [bindP_e, eq_isTransverse, eq_RadiansOf, eq_AddI, eq_SinI, eq_CosI, eq_CoshI, eq_SinhI, eq_DivI, eq_AsinI, eq_areBounded, eq_DirectionI, eq_IsWhole, spec_whole]
  cases F_spec_l21Ok__pPj p with
  | false => simp only [Bool.not_false, cond_t]
  | true =>
    simp only [Bool.not_true, cond_f]
    cases F_spec_l04Ok (F_spec_AddI q.y (F_spec_RadiansOf p.lat0)) with
    | false => simp only [Bool.false_and, Bool.not_false, cond_t]
    | true =>
      cases F_spec_l04Ok (F_spec_DivI (F_spec_SinI (F_spec_AddI q.y (F_spec_RadiansOf p.lat0))) (F_spec_CoshI q.x)) with
      | false => simp only [Bool.true_and, Bool.not_true, Bool.not_false, cond_t, cond_f]
      | true => simp only [Bool.true_and, Bool.not_true, cond_f]

theorem point_val {p : Pt} (h : F_spec_l11Ok p = true) : -900000000 ≤ p.lat.val ∧ p.lat.val ≤ 900000000 ∧ -1800000000 < p.lon.val ∧ p.lon.val ≤ 1800000000 := by
  unfold F_spec_l11Ok at h
  simp only [bindP_e, sp_in, c64_v] at h
  by_cases h1 : -900000000 ≤ p.lat.val
  · by_cases h2 : p.lat.val ≤ 900000000
    · simp only [h1, h2, decide_true, Bool.and_true, cond_t, Bool.and_eq_true, decide_eq_true_eq] at h
      omega
    · simp only [h1, h2, decide_true, decide_false, Bool.and_false, cond_f] at h
      cases h
  · simp only [h1, decide_false, Bool.false_and, cond_f] at h
    cases h

/-- Bounded, or whole. -/
def Sane (z : Iv) : Prop := F_spec_l04Ok z = true ∨ z = F_spec_l04Whole

theorem sane_make (a b : I64) : Sane (F_spec_l04Make a b) := by
  by_cases h : -1152921504606846976 < a.val ∧ a.val ≤ b.val ∧ b.val < 1152921504606846976
  · rw [Make_ok h]
    exact .inl (Ok4_of h)
  · rw [Make_bad h]
    exact .inr rfl

theorem sane_whole : Sane F_spec_l04Whole := .inr rfl

theorem sane_bif {b : Bool} {x y : Iv} (hx : Sane x) (hy : Sane y) : Sane (bif b then x else y) := by
  cases b
  · exact hy
  · exact hx

theorem norm_sane (v : Vc) : Sane (F_spec_NormV v) := by
  rw [← eq_NormV]
  unfold F_impl_NormV
  simp only [bindP_e, eq_bounded, eq_Whole]
  exact sane_bif sane_whole (sane_bif sane_whole (sane_make _ _))

theorem flat_sane (v : Vc) : Sane (F_spec_l15Flat v) := by
  unfold F_spec_l15Flat
  rw [bindP_e]
  exact norm_sane _

theorem positive_sane {z : Iv} (h : Sane z) : F_impl_isPositive z = decide (z.lo.val > 0) := by
  unfold F_impl_isPositive
  simp only [bindP_e, eq_Valid]
  rcases h with h | h
  · rw [h, cond_t]
  · rw [h]
    decide

theorem l11_of {p : Pt} (h : -900000000 ≤ p.lat.val ∧ p.lat.val ≤ 900000000 ∧ -1800000000 < p.lon.val ∧ p.lon.val ≤ 1800000000) : F_spec_l11Ok p = true := by
  unfold F_spec_l11Ok
  simp only [bindP_e, sp_in, c64_v]
  rw [decide_eq_true h.1, decide_eq_true h.2.1, decide_eq_true (by omega : -1799999999 ≤ p.lon.val), decide_eq_true h.2.2.2]
  rfl

theorem back_ok {p : Pj} (h : F_spec_ValidProjection p = true) : F_spec_l11Ok ⟨w64 (0 - p.lat0.val), F_spec_l11Wrap (w64 (p.lon0.val + 1800000000))⟩ = true := by
  have hc := point_val (centre_ok h)
  have hw := wrap_in64 (w64 (p.lon0.val + 1800000000))
  have e1 : (F_impl_Projection_centre p).lat = p.lat0 := Eq.trans rfl rfl
  rw [e1] at hc
  have e : (w64 (0 - p.lat0.val)).val = -p.lat0.val := by rw [w64_val]; omega
  refine l11_of ⟨?_, ?_, hw.1, hw.2⟩
  · show _ ≤ (w64 (0 - p.lat0.val)).val
    omega
  · show (w64 (0 - p.lat0.val)).val ≤ _
    omega

theorem kind18 {p : Pj} (h : F_spec_l18Ok__pPj p = true) : p.kind.val = 5 ∨ p.kind.val = 6 ∨ p.kind.val = 7 ∨ p.kind.val = 8 ∨ p.kind.val = 9 := by
  unfold F_spec_l18Ok__pPj F_spec_l18Kind at h
  simp only [bindP_e] at h
  cases hk : F_spec_l00In p.kind (c64 5) (c64 9) with
  | false => rw [hk, cond_f] at h; cases h
  | true =>
    rw [sp_in] at hk
    simp only [Bool.and_eq_true, decide_eq_true_eq, c64_v] at hk
    omega

end Go.Proofs.YtjbdilphncpceaaGreat.Abs
