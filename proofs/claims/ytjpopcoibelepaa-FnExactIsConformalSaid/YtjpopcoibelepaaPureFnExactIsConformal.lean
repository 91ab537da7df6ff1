/- The program's IsConformal and the reference's return the same bool, for every int64; no condition. -/
import Derived.Test.YtjpopcoibelepaaPFnExactIsConformalx1
namespace Go.Proofs.Ytjpopcoibelepaa.Pure
open Go.RowKit Go.Proofs.Ytjpopcoibelepaa.PFnExactIsConformal Go.Proofs.YtjpopcoibelepaaW.PrintWords Go.Proofs.YtjpopcoibelepaaW.PrintLast


theorem FnExactIsConformal : laws_FnExactIsConformal.Pure := by
  intro a0 _
  refine ⟨6, ?_⟩
  unfold laws_FnExactIsConformal.f spec_IsConformal.f impl_IsConformal.f spec_l00Has.f slices_Contains_int64_int64.f slices_Index_int64_int64.f
  simp only [spec_l00Has.l0, slices_Index_int64_int64.l0, rd, wrap64, List.length_cons, List.length_nil]
  by_cases h0 : a0 = 2
  · subst h0; simp
  have g0 := Ne.symm h0
  by_cases h1 : a0 = 6
  · subst h1; simp
  have g1 := Ne.symm h1
  by_cases h2 : a0 = 11
  · subst h2; simp
  have g2 := Ne.symm h2
  by_cases h3 : a0 = 16
  · subst h3; simp
  have g3 := Ne.symm h3
  simp [*]

end Go.Proofs.Ytjpopcoibelepaa.Pure
