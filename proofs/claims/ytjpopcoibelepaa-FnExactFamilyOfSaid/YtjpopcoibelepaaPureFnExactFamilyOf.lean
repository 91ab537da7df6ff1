/- The program's FamilyOf and the reference's return the same family, for every int64; no condition. -/
import Derived.Test.YtjpopcoibelepaaPFnExactFamilyOfx1
namespace Go.Proofs.Ytjpopcoibelepaa.Pure
open Go.RowKit Go.Proofs.Ytjpopcoibelepaa.PFnExactFamilyOf Go.Proofs.YtjpopcoibelepaaW.PrintWords Go.Proofs.YtjpopcoibelepaaW.PrintLast

theorem in_some (a l h : Int) : spec_l00In.f a l h = some (decide (l ≤ a ∧ a ≤ h)) := by
  unfold spec_l00In.f
  by_cases h1 : l ≤ a
  · rw [if_pos h1]; congr 1; simp [h1]
  · rw [if_neg h1]; congr 1; simp [h1]
theorem within_some (a l h : Int) : impl_within.f a l h = some (decide (l ≤ a ∧ a ≤ h)) := in_some a l h
theorem ite_some {α : Type} (c : Prop) [Decidable c] (a b : α) : (if c then some a else some b) = some (if c then a else b) := by split <;> rfl

theorem FnExactFamilyOf : laws_FnExactFamilyOf.Pure := by
  intro a0 _
  unfold laws_FnExactFamilyOf.f impl_FamilyOf.f spec_FamilyOf.f spec_l22Family.f impl_isCylindrical.f impl_isAzimuthal.f impl_isConic.f impl_isPseudo.f
  simp only [in_some, within_some, Option.bind_some, ite_some]
  rw [if_pos trivial]

end Go.Proofs.Ytjpopcoibelepaa.Pure
