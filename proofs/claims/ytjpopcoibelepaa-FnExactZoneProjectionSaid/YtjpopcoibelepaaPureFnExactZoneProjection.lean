/- The program's ZoneProjection and the reference's return the same projection and the same code, for every int64; no condition. -/
import Derived.Test.YtjpopcoibelepaaPFnExactZoneProjectionx1
namespace Go.Proofs.Ytjpopcoibelepaa.Pure
open Go.RowKit Go.Proofs.Ytjpopcoibelepaa.PFnExactZoneProjection Go.Proofs.YtjpopcoibelepaaW.PrintWords Go.Proofs.YtjpopcoibelepaaW.PrintLast


theorem FnExactZoneProjection : laws_FnExactZoneProjection.Pure := by
  intro a0 _
  unfold laws_FnExactZoneProjection.f spec_ZoneProjection.f impl_ZoneProjection.f impl_ZoneMiddle.f spec_l21Projection.f spec_l21Middle.f spec_l00In.f impl_within.f laws_eqProjection.f
  by_cases h : a0 ≥ 1
  · by_cases h2 : a0 ≤ 60 <;> simp [h, h2]
  · simp [h]

end Go.Proofs.Ytjpopcoibelepaa.Pure
