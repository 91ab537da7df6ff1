/- Plain laws of the functions on numbers: what the program computes is what the reference computes. -/
import Derived.Test.YtkbkopmelaiffaaQpre
import Derived.Test.YtkbkopmelaiffaaF2
set_option linter.unusedVariables false
set_option linter.unusedSimpArgs false
namespace Go.Proofs.Ytkbkopmelaiffaa.Abs
open Go

theorem bindP_eq {α β : Type} (x : α) (φ : α → β) : bindP x φ = φ x := rfl

theorem sp_in (a b c : I64) : F_spec_l00In a b c = (decide (b.val ≤ a.val) && decide (a.val ≤ c.val)) := by
  unfold F_spec_l00In
  by_cases h : b.val ≤ a.val <;> simp [h]

theorem sp_within (a b c : I64) : F_impl_within a b c = (decide (b.val ≤ a.val) && decide (a.val ≤ c.val)) := by
  unfold F_impl_within
  by_cases h : b.val ≤ a.val <;> simp [h]

theorem eq_ValidShift (s : Sf) : F_impl_ValidShift s = F_spec_l23Ok__pSf s := by
  unfold F_impl_ValidShift F_spec_l23Ok__pSf F_impl_areWithin__s3 F_impl_areWithin__s1
  simp only [bindP_eq, sp_in, sp_within, c64_val, w64_val]
  rw [Bool.eq_iff_iff]
  simp
  grind

end Go.Proofs.Ytkbkopmelaiffaa.Abs
