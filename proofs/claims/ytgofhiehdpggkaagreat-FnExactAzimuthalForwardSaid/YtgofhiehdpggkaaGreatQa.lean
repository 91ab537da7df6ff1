/- Plain laws of the functions on numbers: what the program computes is what the reference computes. -/
import Derived.Test.YtgofhiehdpggkaaGreatQpre
import Derived.Test.YtgofhiehdpggkaaGreatF5
set_option linter.unusedVariables false
set_option linter.unusedSimpArgs false
namespace Go.Proofs.YtgofhiehdpggkaaGreat.Abs
open Go

theorem bindP_eq {α β : Type} (x : α) (φ : α → β) : bindP x φ = φ x := rfl

theorem sp_in (a b c : I64) : F_spec_l00In a b c = (decide (b.val ≤ a.val) && decide (a.val ≤ c.val)) := by
  unfold F_spec_l00In
  by_cases h : b.val ≤ a.val <;> simp [h]

theorem sp_within (a b c : I64) : F_impl_within a b c = (decide (b.val ≤ a.val) && decide (a.val ≤ c.val)) := by
  unfold F_impl_within
  by_cases h : b.val ≤ a.val <;> simp [h]

theorem eq_ValidPoint (p : Pt) : F_impl_ValidPoint p = F_spec_l11Ok p := by
  unfold F_impl_ValidPoint F_spec_l11Ok
  simp only [bindP_eq, sp_in, sp_within, c64_val]
  rw [Bool.eq_iff_iff]
  simp
  grind

end Go.Proofs.YtgofhiehdpggkaaGreat.Abs
