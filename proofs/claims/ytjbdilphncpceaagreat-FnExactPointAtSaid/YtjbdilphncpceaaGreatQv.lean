/- Plain laws of the functions on numbers: what the program computes is what the reference computes. -/
import Derived.Test.YtjbdilphncpceaaGreatQstu
import Derived.Test.YtjbdilphncpceaaGreatF5
set_option linter.unusedVariables false
set_option linter.unusedSimpArgs false
namespace Go.Proofs.YtjbdilphncpceaaGreat.Abs
open Go

theorem ok19 {p : Pj} (h : F_spec_l19Ok p = true) : F_spec_ValidProjection p = true := by
  unfold F_spec_l19Ok at h
  unfold F_spec_ValidProjection
  simp only [bindP_e] at h ⊢
  cases hk : F_spec_l17Ok p with
  | true => rfl
  | false =>
    rw [hk] at h
    cases hn : F_spec_l00In p.kind (c64 10) (c64 12) <;> rw [hn] at h
    · rw [cond_f] at h; cases h
    · rw [cond_t] at h; cases h

theorem over_bad {a : Iv} (b : Iv) (h : F_spec_l04Ok a = false) : F_spec_OverlapI a b = true := by
  unfold F_spec_OverlapI F_spec_MeetI
  simp only [bindP_e, h, Bool.not_false, cond_t]
  cases F_spec_l04Ok b <;> simp only [Bool.not_false, Bool.not_true, cond_t, cond_f]

theorem if_over2 {α : Type} (x y : Iv) (E X : α) : (bif F_spec_l04Ok x then (bif !(F_spec_OverlapI x y) then E else X) else X) = bif !(F_spec_OverlapI x y) then E else X := by
  cases h : F_spec_l04Ok x
  · rw [cond_f, over_bad y h]; rfl
  · rw [cond_t]

theorem pair_if (x y : Iv) : F_impl_pair x y = bif !(F_spec_l04Ok x) then ((⟨(c64 0), (c64 0)⟩ : Iv), (⟨(c64 0), (c64 0)⟩ : Iv), (c64 9)) else (bif !(F_spec_l04Ok y) then ((⟨(c64 0), (c64 0)⟩ : Iv), (⟨(c64 0), (c64 0)⟩ : Iv), (c64 9)) else (x, y, (c64 0))) := by
  unfold F_impl_pair
  simp only [bindP_e, eq_areBounded]
  cases F_spec_l04Ok x <;> cases F_spec_l04Ok y <;> simp only [Bool.and_true, Bool.and_false, Bool.not_true, Bool.not_false, cond_t, cond_f]

theorem eq_onEarth (p : Pj) (x y : Iv) : F_impl_onEarth x y p.lon0 = F_spec_l17Back p x y := by
  unfold F_impl_onEarth F_spec_l17Back F_impl_overlapsAny
  have e : F_impl_TurnI (c64 2) = F_spec_l05Turn (c64 2) := by rw [eq_TurnI]; rfl
  simp only [bindP_e, eq_OverlapI, quarter_hi, e, if_over2, eq_RadiansOf, eq_AddI, pair_if]

theorem eq_ConicInverse (p : Pj) (q : Pn) : F_impl_ConicInverse p q = F_spec_ConicInverse p q := by
  unfold F_impl_ConicInverse F_spec_ConicInverse
  simp only [bindP_e]
  rcases eq_newConic p with ⟨h1, h2⟩ | ⟨h1, h2⟩
  · rw [h1, h2]
    unfold F_impl_conic_inverseLat__pCn
    have hr : F_impl_ring = F_spec_l06Ring := Eq.trans rfl rfl
    simp only [code_zero, cond_f, Bool.not_true, eq_radius, conicOf_o, conicOf_n, conicOf_g, conicOf_p, bindP_e, eq_SubI, eq_SqrI, eq_AddI, eq_SqrtI, eq_DirectionI, eq_NegI, eq_MulI, eq_times, eq_DivI, eq_AsinI, eq_OverlapI, eq_LogI, eq_SinhI, eq_AtanI, hr, if_over2, eq_onEarth]
    cases decide ((w64 (p.lat1.val + p.lat2.val)).val < 0) <;> cases (p.kind.val == 10) <;> cases (p.kind.val == 11) <;> simp only [cond_t, cond_f, Bool.not_true]
  · rw [h1, h2]
    simp only [code_one, cond_t, Bool.not_false]

theorem eq_MaxI (a b : Iv) : F_impl_MaxI a b = F_spec_MaxI a b := by
  unfold F_impl_MaxI F_spec_MaxI
  simp only [bindP_e, eq_areBounded, eq_Whole, eq_mx]
  cases ha : F_spec_l04Ok a with
  | false => simp only [Bool.false_and, Bool.not_false, cond_t]
  | true =>
    cases hb : F_spec_l04Ok b with
    | false => simp only [Bool.and_false, Bool.not_false, Bool.not_true, cond_t, cond_f]
    | true =>
      obtain ⟨a1, a2, a3⟩ := Ok4 ha
      obtain ⟨b1, b2, b3⟩ := Ok4 hb
      have m := mx_spec a.lo b.lo
      have n := mx_spec a.hi b.hi
      simp only [Bool.and_self, Bool.not_true, cond_f]
      rw [Make_ok (by omega)]

theorem less_whole (r : Iv) : F_spec_LessI F_spec_Whole r = c64 2 := by
  unfold F_spec_LessI
  have hw : F_spec_l04Ok F_spec_Whole = false := by decide
  simp only [bindP_e, hw, Bool.not_false, cond_t]

theorem eq_AzimuthalInverse (p : Pj) (q : Pn) : F_impl_AzimuthalInverse p q = F_spec_AzimuthalInverse p q := by
  unfold F_impl_AzimuthalInverse F_spec_AzimuthalInverse
  simp only [bindP_e, eq_isAzimuthalOne, eq_fromAxis]
  cases h1 : F_spec_l18Ok__pPj p with
  | false => simp only [Bool.not_false, cond_t]
  | true =>
    unfold F_impl_greatestRadius F_spec_l18Most F_impl_inverseFactors F_spec_l18Back
    simp only [bindP_e, eq_Integer, eq_PiI, eq_LessI, eq_SqrI, eq_HalfI, eq_AddI, eq_SqrtI, eq_DivI, eq_oneLess, eq_MulI, eq_MaxI, eq_SinI, eq_CosI, eq_HullI, positive_sane (flat_sane _), eq_GlobalOf, Bool.not_true, cond_f]
    have h2 : ((c64 2).val == 1) = false := by decide
    rcases kind18 h1 with hk | hk | hk | hk | hk <;> simp only [hk, Int.reduceBEq, cond_t, cond_f, less_whole, h2]
    cases decide ((F_spec_l15Flat ⟨q.x, q.y, ⟨c64 0, c64 0⟩⟩).lo.val > 0) <;> simp only [cond_t, cond_f]

theorem zone_proj {m : I64} (h : -1770000000 ≤ m.val ∧ m.val ≤ 1770000000) : F_spec_ValidProjection ⟨c64 16, c64 0, m, c64 0, c64 0⟩ = true := by
  unfold F_spec_ValidProjection F_spec_l17Ok
  have e : F_spec_l11Ok ⟨c64 0, m⟩ = true := l11_of ⟨by show _ ≤ (c64 0).val; rw [c64_v]; omega, by show (c64 0).val ≤ _; rw [c64_v]; omega, by show _ < m.val; omega, by show m.val ≤ _; omega⟩
  have s : F_spec_l17Standard (c64 0) = true := by decide
  simp only [bindP_e, e, s, Bool.not_true, cond_f, c64_v, Int.reduceBEq, cond_t, beq_self_eq_true]

end Go.Proofs.YtjbdilphncpceaaGreat.Abs
