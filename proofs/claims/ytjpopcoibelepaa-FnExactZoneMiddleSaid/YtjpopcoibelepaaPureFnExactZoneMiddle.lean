/- The program's ZoneMiddle and the reference's return the same longitude and the same code, for every int64; no condition. -/
import Derived.Test.YtjpopcoibelepaaPFnExactZoneMiddlex1
namespace Go.Proofs.Ytjpopcoibelepaa.Pure
open Go.RowKit Go.Proofs.Ytjpopcoibelepaa.PFnExactZoneMiddle Go.Proofs.YtjpopcoibelepaaW.PrintWords Go.Proofs.YtjpopcoibelepaaW.PrintLast


theorem FnExactZoneMiddle : laws_FnExactZoneMiddle.Pure := by
  intro a0 _
  unfold laws_FnExactZoneMiddle.f spec_ZoneMiddle.f impl_ZoneMiddle.f spec_l00In.f impl_within.f spec_l21Middle.f
  by_cases h : a0 ≥ 1
  · by_cases h2 : a0 ≤ 60 <;> simp [h, h2]
  · simp [h]

end Go.Proofs.Ytjpopcoibelepaa.Pure
