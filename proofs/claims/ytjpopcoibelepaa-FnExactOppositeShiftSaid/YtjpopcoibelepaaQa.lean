/- Plain laws of the functions on numbers: what the program computes is what the reference computes. -/
import Derived.Test.YtjpopcoibelepaaF0
set_option linter.unusedVariables false
set_option linter.unusedSimpArgs false
namespace Go.Proofs.Ytjpopcoibelepaa.Abs
open Go

theorem bindP_eq {α β : Type} (x : α) (φ : α → β) : bindP x φ = φ x := rfl

theorem sp_in (a b c : I64) : F_spec_l00In a b c = (decide (b.val ≤ a.val) && decide (a.val ≤ c.val)) := by
  unfold F_spec_l00In
  by_cases h : b.val ≤ a.val <;> simp [h]

theorem sp_within (a b c : I64) : F_impl_within a b c = (decide (b.val ≤ a.val) && decide (a.val ≤ c.val)) := by
  unfold F_impl_within
  by_cases h : b.val ≤ a.val <;> simp [h]

theorem eq_ValidPoint (p : Pt) : F_impl_ValidPoint p = F_spec_l11Ok p := by
  unfold F_impl_ValidPoint F_spec_l11Ok
  simp only [bindP_eq, sp_in, sp_within, c64_val]
  rw [Bool.eq_iff_iff]
  simp
  grind

theorem eq_ZoneOf (p : Pt) : F_impl_ZoneOf p = F_spec_ZoneOf p := by
  unfold F_impl_ZoneOf F_spec_ZoneOf
  rw [eq_ValidPoint]
  rfl

theorem pure_FnExactZoneOf (p : Pt) : F_laws_FnExactZoneOf p = true := by
  unfold F_laws_FnExactZoneOf
  simp [bindP_eq, eq_ZoneOf]

theorem eq_ValidShift (s : Sf) : F_impl_ValidShift s = F_spec_l23Ok__pSf s := by
  unfold F_impl_ValidShift F_spec_l23Ok__pSf F_impl_areWithin__s3 F_impl_areWithin__s1
  simp only [bindP_eq, sp_in, sp_within, c64_val, w64_val]
  rw [Bool.eq_iff_iff]
  simp
  grind

theorem pure_FnExactValidShift (s : Sf) : F_laws_FnExactValidShift s = true := by
  unfold F_laws_FnExactValidShift F_spec_ValidShift
  simp [bindP_eq, eq_ValidShift, F_laws_toShift]

theorem eq_OppositeShift (s : Sf) : F_impl_OppositeShift s = F_spec_OppositeShift s := by
  unfold F_impl_OppositeShift F_spec_OppositeShift
  rw [eq_ValidShift]

theorem pure_FnExactOppositeShift (s : Sf) : F_laws_FnExactOppositeShift s = true := by
  unfold F_laws_FnExactOppositeShift
  simp [bindP_eq, eq_OppositeShift, F_laws_eqShift]

end Go.Proofs.Ytjpopcoibelepaa.Abs
