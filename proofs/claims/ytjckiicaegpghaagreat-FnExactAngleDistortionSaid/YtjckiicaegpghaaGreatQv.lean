/- Plain laws of the functions on numbers: what the program computes is what the reference computes. -/
import Derived.Test.YtjckiicaegpghaaGreatQstu
import Derived.Test.YtjckiicaegpghaaGreatF6
set_option linter.unusedVariables false
set_option linter.unusedSimpArgs false
namespace Go.Proofs.YtjckiicaegpghaaGreat.Abs
open Go

theorem ok19 {p : Pj} (h : F_spec_l19Ok p = true) : F_spec_ValidProjection p = true := by
  unfold F_spec_l19Ok at h
  unfold F_spec_ValidProjection
  simp only [bindP_e] at h ⊢
  cases hk : F_spec_l17Ok p with
  | true => rfl
  | false =>
    rw [hk] at h
    cases hn : F_spec_l00In p.kind (c64 10) (c64 12) <;> rw [hn] at h
    · rw [cond_f] at h; cases h
    · rw [cond_t] at h; cases h

theorem spec_LatOf {q : Pt} (h : F_spec_l11Ok q = true) : F_spec_LatOf q = F_spec_RadiansOf q.lat := by
  unfold F_spec_LatOf
  simp only [bindP_e, h, Bool.not_true, cond_f]

theorem eq_ConicForward (p : Pj) (q : Pt) : F_impl_ConicForward p q = F_spec_ConicForward p q := by
  unfold F_impl_ConicForward F_spec_ConicForward
  simp only [bindP_e, eq_ValidPoint]
  rcases eq_newConic p with ⟨h1, h2⟩ | ⟨h1, h2⟩
  · rw [h1, h2]
    simp only [code_zero, cond_f, Bool.not_true]
    cases h3 : F_spec_l11Ok q with
    | false => simp only [Bool.not_false, cond_t]
    | true =>
      have hp := point_val h3
      have hl : F_spec_l17Lon p q = F_spec_RadiansOf (F_spec_l11Wrap (w64 (q.lon.val - p.lon0.val))) := by
        unfold F_spec_l17Lon
        simp only [bindP_e]
      simp only [Bool.not_true, cond_f, pole_eq q (by omega), eq_LatOf h3, spec_LatOf h3, eq_LonFrom (ok19 h1) h3, hl, eq_radius, conicOf_n, conicOf_o, eq_SinI, eq_CosI, eq_MulI, eq_SubI, eq_planar17]
      cases (p.kind.val == 11) <;> cases F_spec_l11Pole q <;> simp only [cond_t, cond_f]
  · rw [h1, h2]
    simp only [code_one, cond_t, Bool.not_false]

theorem over_bad {a : Iv} (b : Iv) (h : F_spec_l04Ok a = false) : F_spec_OverlapI a b = true := by
  unfold F_spec_OverlapI F_spec_MeetI
  simp only [bindP_e, h, Bool.not_false, cond_t]
  cases F_spec_l04Ok b <;> simp only [Bool.not_false, Bool.not_true, cond_t, cond_f]

theorem if_over2 {α : Type} (x y : Iv) (E X : α) : (bif F_spec_l04Ok x then (bif !(F_spec_OverlapI x y) then E else X) else X) = bif !(F_spec_OverlapI x y) then E else X := by
  cases h : F_spec_l04Ok x
  · rw [cond_f, over_bad y h]; rfl
  · rw [cond_t]

theorem less_whole (r : Iv) : F_spec_LessI F_spec_Whole r = c64 2 := by
  unfold F_spec_LessI
  have hw : F_spec_l04Ok F_spec_Whole = false := by decide
  simp only [bindP_e, hw, Bool.not_false, cond_t]

theorem zone_proj {m : I64} (h : -1770000000 ≤ m.val ∧ m.val ≤ 1770000000) : F_spec_ValidProjection ⟨c64 16, c64 0, m, c64 0, c64 0⟩ = true := by
  unfold F_spec_ValidProjection F_spec_l17Ok
  have e : F_spec_l11Ok ⟨c64 0, m⟩ = true := l11_of ⟨by show _ ≤ (c64 0).val; rw [c64_v]; omega, by show (c64 0).val ≤ _; rw [c64_v]; omega, by show _ < m.val; omega, by show m.val ≤ _; omega⟩
  have s : F_spec_l17Standard (c64 0) = true := by decide
  simp only [bindP_e, e, s, Bool.not_true, cond_f, c64_v, Int.reduceBEq, cond_t, beq_self_eq_true]

theorem eq_forward21 {p : Pj} {q : Pt} (h1 : F_spec_l21Ok__pPj p = true) (h2 : F_spec_l11Ok q = true) : F_impl_TransverseForward p q = F_spec_l21Forward__pPj p q := by
  unfold F_impl_TransverseForward F_spec_l21Forward__pPj F_spec_l21Side__pPj
  simp only [bindP_e, eq_transverse, h1, h2, Bool.not_true, cond_f]
  cases F_spec_l21Edge__pPj p q with
  | true => simp only [cond_t, code_eight]
  | false => simp only [cond_f, code_zero, eq_AtanhI, eq_SinI, eq_MulI, eq_CosI, eq_DirectionI, eq_RadiansOf, eq_SubI, eq_planar]

end Go.Proofs.YtjckiicaegpghaaGreat.Abs
