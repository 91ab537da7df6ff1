/- Plain laws of the functions on numbers: what the program computes is what the reference computes. -/
import Derived.Test.YtlgbjanlofomoaaGreatQstu
import Derived.Test.YtlgbjanlofomoaaGreatF3
set_option linter.unusedVariables false
set_option linter.unusedSimpArgs false
namespace Go.Proofs.YtlgbjanlofomoaaGreat.Abs
open Go

theorem over_bad {a : Iv} (b : Iv) (h : F_spec_l04Ok a = false) : F_spec_OverlapI a b = true := by
  unfold F_spec_OverlapI F_spec_MeetI
  simp only [bindP_e, h, Bool.not_false, cond_t]
  cases F_spec_l04Ok b <;> simp only [Bool.not_false, Bool.not_true, cond_t, cond_f]

theorem if_over2 {α : Type} (x y : Iv) (E X : α) : (bif F_spec_l04Ok x then (bif !(F_spec_OverlapI x y) then E else X) else X) = bif !(F_spec_OverlapI x y) then E else X := by
  cases h : F_spec_l04Ok x
  · rw [cond_f, over_bad y h]; rfl
  · rw [cond_t]

theorem zone_proj {m : I64} (h : -1770000000 ≤ m.val ∧ m.val ≤ 1770000000) : F_spec_ValidProjection ⟨c64 16, c64 0, m, c64 0, c64 0⟩ = true := by
  unfold F_spec_ValidProjection F_spec_l17Ok
  have e : F_spec_l11Ok ⟨c64 0, m⟩ = true := l11_of ⟨by show _ ≤ (c64 0).val; rw [c64_v]; omega, by show (c64 0).val ≤ _; rw [c64_v]; omega, by show _ < m.val; omega, by show m.val ≤ _; omega⟩
  have s : F_spec_l17Standard (c64 0) = true := by decide
  simp only [bindP_e, e, s, Bool.not_true, cond_f, c64_v, Int.reduceBEq, cond_t, beq_self_eq_true]

theorem eq_forward21 {p : Pj} {q : Pt} (h1 : F_spec_l21Ok__pPj p = true) (h2 : F_spec_l11Ok q = true) : F_impl_TransverseForward p q = F_spec_l21Forward__pPj p q := by
  unfold F_impl_TransverseForward F_spec_l21Forward__pPj F_spec_l21Side__pPj
  simp only [bindP_e, eq_transverse, h1, h2, Bool.not_true, cond_f]
  cases F_spec_l21Edge__pPj p q with
  | true => simp only [cond_t, code_eight]
  | false => simp only [cond_f, code_zero, eq_AtanhI, eq_SinI, eq_MulI, eq_CosI, eq_DirectionI, eq_RadiansOf, eq_SubI, eq_planar]

end Go.Proofs.YtlgbjanlofomoaaGreat.Abs
