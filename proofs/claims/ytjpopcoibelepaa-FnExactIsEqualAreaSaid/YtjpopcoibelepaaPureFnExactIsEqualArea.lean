/- The program's IsEqualArea and the reference's return the same bool, for every int64; no condition. -/
import Derived.Test.YtjpopcoibelepaaPFnExactIsEqualAreax1
namespace Go.Proofs.Ytjpopcoibelepaa.Pure
open Go.RowKit Go.Proofs.Ytjpopcoibelepaa.PFnExactIsEqualArea Go.Proofs.YtjpopcoibelepaaW.PrintWords Go.Proofs.YtjpopcoibelepaaW.PrintLast


theorem FnExactIsEqualArea : laws_FnExactIsEqualArea.Pure := by
  intro a0 _
  refine ⟨8, ?_⟩
  unfold laws_FnExactIsEqualArea.f spec_IsEqualArea.f impl_IsEqualArea.f spec_l00Has.f slices_Contains_int64_int64.f slices_Index_int64_int64.f
  simp only [spec_l00Has.l0, slices_Index_int64_int64.l0, rd, wrap64, List.length_cons, List.length_nil]
  by_cases h0 : a0 = 3
  · subst h0; simp
  have g0 := Ne.symm h0
  by_cases h1 : a0 = 9
  · subst h1; simp
  have g1 := Ne.symm h1
  by_cases h2 : a0 = 10
  · subst h2; simp
  have g2 := Ne.symm h2
  by_cases h3 : a0 = 13
  · subst h3; simp
  have g3 := Ne.symm h3
  by_cases h4 : a0 = 14
  · subst h4; simp
  have g4 := Ne.symm h4
  by_cases h5 : a0 = 15
  · subst h5; simp
  have g5 := Ne.symm h5
  simp [*]

end Go.Proofs.Ytjpopcoibelepaa.Pure
