/- The functions, on numbers; part 5 (written by w.py). -/
import Derived.Test.YtjbdilphncpceaaGreatF4
set_option linter.unusedVariables false
set_option linter.unusedSimpArgs false
namespace Go.Proofs.YtjbdilphncpceaaGreat.Abs
open Go Go.RowKit

def F_impl_conic_constant__pCn (b0 : Cn) : Iv :=
  (bif (b0.p.kind.val == 10) then bindP (F_impl_CosI b0.a) fun r1 => bindP (F_impl_SqrI r1) fun r2 => bindP (F_impl_times (c64 2) b0.n) fun r3 => bindP (F_impl_SinI b0.a) fun r4 => bindP (F_impl_MulI r3 r4) fun r5 => bindP (F_impl_AddI r2 r5) fun r6 => r6 else (bif (b0.p.kind.val == 11) then bindP (F_impl_CosI b0.a) fun r7 => bindP (F_impl_isometricSphere b0.a) fun r8 => bindP (F_impl_MulI b0.n r8) fun r9 => bindP (F_impl_ExpI r9) fun r10 => bindP (F_impl_MulI r7 r10) fun r11 => bindP (F_impl_DivI r11 b0.n) fun r12 => r12 else bindP (F_impl_CosI b0.a) fun r13 => bindP (F_impl_DivI r13 b0.n) fun r14 => bindP (F_impl_AddI r14 b0.a) fun r15 => r15))

def F_impl_newConic (a0 : Pj) : Cn × I64 :=
  bindP (F_impl_ValidProjection a0) fun r1 => (bif (!r1) then ((⟨(⟨(c64 0), (c64 0), (c64 0), (c64 0), (c64 0)⟩ : Pj), (⟨(c64 0), (c64 0)⟩ : Iv), (⟨(c64 0), (c64 0)⟩ : Iv), (⟨(c64 0), (c64 0)⟩ : Iv), (⟨(c64 0), (c64 0)⟩ : Iv), (⟨(c64 0), (c64 0)⟩ : Iv)⟩ : Cn), (c64 1)) else bindP (F_impl_isConic a0.kind) fun r3 => (bif (!r3) then ((⟨(⟨(c64 0), (c64 0), (c64 0), (c64 0), (c64 0)⟩ : Pj), (⟨(c64 0), (c64 0)⟩ : Iv), (⟨(c64 0), (c64 0)⟩ : Iv), (⟨(c64 0), (c64 0)⟩ : Iv), (⟨(c64 0), (c64 0)⟩ : Iv), (⟨(c64 0), (c64 0)⟩ : Iv)⟩ : Cn), (c64 1)) else bindP (F_impl_RadiansOf a0.lat1) fun r5 => bindP (F_impl_RadiansOf a0.lat2) fun r6 => bindP (F_impl_RadiansOf a0.lat0) fun r7 => bindP (F_impl_conic_cone__pCn (⟨a0, r5, r6, r7, (⟨(c64 0), (c64 0)⟩ : Iv), (⟨(c64 0), (c64 0)⟩ : Iv)⟩ : Cn)) fun r8 => bindP (F_impl_conic_constant__pCn (⟨a0, r5, r6, r7, r8, (⟨(c64 0), (c64 0)⟩ : Iv)⟩ : Cn)) fun r9 => ((⟨a0, r5, r6, r7, r8, r9⟩ : Cn), (c64 0))))

def F_impl_conic_radius__pCn (b0 : Cn) (a0 : Iv) : Iv :=
  (bif (b0.p.kind.val == 10) then bindP (F_impl_times (c64 2) b0.n) fun r1 => bindP (F_impl_SinI a0) fun r2 => bindP (F_impl_MulI r1 r2) fun r3 => bindP (F_impl_SubI b0.g r3) fun r4 => bindP (F_impl_SqrtI r4) fun r5 => bindP (F_impl_DivI r5 b0.n) fun r6 => r6 else (bif (b0.p.kind.val == 11) then bindP (F_impl_isometricSphere a0) fun r7 => bindP (F_impl_MulI b0.n r7) fun r8 => bindP (F_impl_NegI r8) fun r9 => bindP (F_impl_ExpI r9) fun r10 => bindP (F_impl_MulI b0.g r10) fun r11 => r11 else bindP (F_impl_SubI b0.g a0) fun r12 => r12))

def F_impl_conic_inverseLat__pCn (b0 : Cn) (a0 : Iv) : Iv × Bool :=
  (bif (b0.p.kind.val == 10) then bindP (F_impl_MulI a0 b0.n) fun r1 => bindP (F_impl_SqrI r1) fun r2 => bindP (F_impl_SubI b0.g r2) fun r3 => bindP (F_impl_times (c64 2) b0.n) fun r4 => bindP (F_impl_DivI r3 r4) fun r5 => bindP (F_impl_AsinI r5) fun r6 => bindP (F_impl_ring) fun r7 => bindP (F_impl_OverlapI r5 r7) fun r8 => (r6, r8) else (bif (b0.p.kind.val == 11) then bindP (F_impl_DivI b0.g a0) fun r9 => bindP (F_impl_LogI r9) fun r10 => bindP (F_impl_DivI r10 b0.n) fun r11 => bindP (F_impl_SinhI r11) fun r12 => bindP (F_impl_AtanI r12) fun r13 => (r13, true) else bindP (F_impl_SubI b0.g a0) fun r14 => (r14, true)))

def F_impl_ConicInverse (a0 : Pj) (a1 : Pn) : Iv × Iv × I64 :=
  bindP (F_impl_newConic a0) fun r1 => (bif (r1.2.val != 0) then ((⟨(c64 0), (c64 0)⟩ : Iv), (⟨(c64 0), (c64 0)⟩ : Iv), (c64 1)) else bindP (F_impl_conic_radius__pCn r1.1 r1.1.o) fun r2 => bindP (F_impl_SubI r2 a1.y) fun r3 => bindP (F_impl_SqrI a1.x) fun r4 => bindP (F_impl_SqrI r3) fun r5 => bindP (F_impl_AddI r4 r5) fun r6 => bindP (F_impl_SqrtI r6) fun r7 => bindP (F_impl_DirectionI a1.x r3) fun r8 => (bif (decide ((w64 (a0.lat1.val + a0.lat2.val)).val < 0)) then bindP (F_impl_NegI r7) fun r10 => bindP (F_impl_NegI a1.x) fun r11 => bindP (F_impl_NegI r3) fun r12 => bindP (F_impl_DirectionI r11 r12) fun r13 => bindP (F_impl_conic_inverseLat__pCn r1.1 r10) fun r14 => (bif (!r14.2) then ((⟨(c64 0), (c64 0)⟩ : Iv), (⟨(c64 0), (c64 0)⟩ : Iv), (c64 8)) else bindP (F_impl_DivI r13 r1.1.n) fun r16 => bindP (F_impl_onEarth r14.1 r16 a0.lon0) fun r17 => (r17.1, r17.2.1, r17.2.2)) else bindP (F_impl_conic_inverseLat__pCn r1.1 r7) fun r18 => (bif (!r18.2) then ((⟨(c64 0), (c64 0)⟩ : Iv), (⟨(c64 0), (c64 0)⟩ : Iv), (c64 8)) else bindP (F_impl_DivI r8 r1.1.n) fun r20 => bindP (F_impl_onEarth r18.1 r20 a0.lon0) fun r21 => (r21.1, r21.2.1, r21.2.2))))

def F_impl_isPseudoOne (a0 : Pj) : Bool :=
  bindP (F_impl_ValidProjection a0) fun r1 => (bif r1 then bindP (F_impl_isPseudo a0.kind) fun r2 => r2 else false)

def F_impl_normalI (a0 : Iv) : Iv :=
  bindP (F_impl_bounded a0.lo a0.hi true) fun r1 => r1

def F_impl_pseudoRadius (a0 : I64) : Iv :=
  (bif (a0.val == 14) then bindP (F_impl_Integer (c64 2)) fun r1 => bindP (F_impl_SqrtI r1) fun r2 => r2 else bindP (F_impl_Integer (c64 2)) fun r3 => bindP (F_impl_PiI) fun r4 => bindP (F_impl_AddI r3 r4) fun r5 => bindP (F_impl_SqrtI r5) fun r6 => r6)

def F_impl_inverseParameter (a0 : I64) (a1 : Iv) : Iv :=
  (bif (a0.val == 13) then bindP (F_impl_normalI a1) fun r1 => r1 else (bif (a0.val == 14) then bindP (F_impl_pseudoRadius a0) fun r2 => bindP (F_impl_DivI a1 r2) fun r3 => bindP (F_impl_AsinI r3) fun r4 => r4 else bindP (F_impl_pseudoRadius a0) fun r5 => bindP (F_impl_MulI a1 r5) fun r6 => bindP (F_impl_HalfI r6) fun r7 => r7))

def F_impl_parallelLength (a0 : I64) (a1 : Iv) : Iv :=
  bindP (F_impl_pseudoRadius a0) fun r1 => (bif (a0.val == 13) then bindP (F_impl_CosI a1) fun r2 => r2 else (bif (a0.val == 14) then bindP (F_impl_times (c64 2) r1) fun r3 => bindP (F_impl_CosI a1) fun r4 => bindP (F_impl_MulI r3 r4) fun r5 => bindP (F_impl_PiI) fun r6 => bindP (F_impl_DivI r5 r6) fun r7 => r7 else bindP (F_impl_Integer (c64 1)) fun r8 => bindP (F_impl_CosI a1) fun r9 => bindP (F_impl_AddI r8 r9) fun r10 => bindP (F_impl_DivI r10 r1) fun r11 => r11))

def F_impl_poleHeight (a0 : I64) : Iv :=
  (bif (a0.val == 13) then bindP (F_impl_TurnI (c64 1)) fun r1 => r1 else (bif (a0.val == 14) then bindP (F_impl_pseudoRadius a0) fun r2 => r2 else bindP (F_impl_PiI) fun r3 => bindP (F_impl_pseudoRadius a0) fun r4 => bindP (F_impl_DivI r3 r4) fun r5 => r5))

def F_impl_leftFactor (a0 : I64) : Iv :=
  (bif (a0.val == 14) then bindP (F_impl_PiI) fun r1 => r1 else bindP (F_impl_Integer (c64 1)) fun r2 => bindP (F_impl_TurnI (c64 1)) fun r3 => bindP (F_impl_AddI r2 r3) fun r4 => r4)

def F_impl_latitudeFor (a0 : I64) (a1 : Iv) : Iv :=
  (bif (a0.val == 13) then a1 else (bif (a0.val == 14) then bindP (F_impl_DoubleI a1) fun r1 => bindP (F_impl_SinI r1) fun r2 => bindP (F_impl_AddI r1 r2) fun r3 => bindP (F_impl_leftFactor a0) fun r4 => bindP (F_impl_DivI r3 r4) fun r5 => bindP (F_impl_AsinI r5) fun r6 => r6 else bindP (F_impl_SinI a1) fun r7 => bindP (F_impl_AddI a1 r7) fun r8 => bindP (F_impl_leftFactor a0) fun r9 => bindP (F_impl_DivI r8 r9) fun r10 => bindP (F_impl_AsinI r10) fun r11 => r11))

def F_impl_PseudoInverse (a0 : Pj) (a1 : Pn) : Iv × Iv × I64 :=
  bindP (F_impl_isPseudoOne a0) fun r1 => (bif (!r1) then ((⟨(c64 0), (c64 0)⟩ : Iv), (⟨(c64 0), (c64 0)⟩ : Iv), (c64 1)) else bindP (F_impl_inverseParameter a0.kind a1.y) fun r2 => bindP (F_impl_parallelLength a0.kind r2) fun r3 => bindP (F_impl_DivI a1.x r3) fun r4 => bindP (F_impl_poleHeight a0.kind) fun r5 => bindP (F_impl_AbsI a1.y) fun r6 => bindP (F_impl_LessI r5 r6) fun r7 => (bif (r7.val == 1) then ((⟨(c64 0), (c64 0)⟩ : Iv), (⟨(c64 0), (c64 0)⟩ : Iv), (c64 8)) else bindP (F_impl_PiI) fun r8 => bindP (F_impl_AbsI r4) fun r9 => bindP (F_impl_LessI r8 r9) fun r10 => (bif (r10.val == 1) then ((⟨(c64 0), (c64 0)⟩ : Iv), (⟨(c64 0), (c64 0)⟩ : Iv), (c64 8)) else bindP (F_impl_latitudeFor a0.kind r2) fun r11 => bindP (F_impl_knownI r11) fun r12 => (bif (r12.2.val != 0) then ((⟨(c64 0), (c64 0)⟩ : Iv), (⟨(c64 0), (c64 0)⟩ : Iv), r12.2) else bindP (F_impl_RadiansOf a0.lon0) fun r13 => bindP (F_impl_AddI r13 r4) fun r14 => (r12.1, r14, (c64 0))))))

def F_impl_isTransverse (a0 : Pj) : Bool :=
  bindP (F_impl_ValidProjection a0) fun r1 => (bif r1 then (a0.kind.val == 16) else false)

def F_impl_CoshI_1 (a0 : I64) : Iv :=
  bindP (F_impl_ExpAt a0) fun r1 => bindP (F_impl_ExpAt (w64 (0 - a0.val))) fun r2 => bindP (F_impl_AddI r1 r2) fun r3 => bindP (F_impl_HalfI r3) fun r4 => r4

def F_impl_monotonic__impl_CoshI_1 (a0 : Iv) : Iv :=
  bindP (F_impl_IsWhole a0) fun r1 => (bif r1 then bindP (F_impl_Whole) fun r2 => r2 else bindP (F_impl_CoshI_1 a0.lo) fun r3 => bindP (F_impl_CoshI_1 a0.hi) fun r4 => bindP (F_impl_areBounded r3 r4) fun r5 => (bif (!r5) then bindP (F_impl_Whole) fun r6 => r6 else bindP (F_impl_bounded r3.lo r4.hi true) fun r7 => r7))

def F_impl_CoshI (a0 : Iv) : Iv :=
  bindP (F_impl_AbsI a0) fun r1 => bindP (F_impl_monotonic__impl_CoshI_1 r1) fun r2 => r2

def F_impl_TransverseInverse (a0 : Pj) (a1 : Pn) : Iv × Iv × I64 :=
  bindP (F_impl_isTransverse a0) fun r1 => (bif (!r1) then ((⟨(c64 0), (c64 0)⟩ : Iv), (⟨(c64 0), (c64 0)⟩ : Iv), (c64 1)) else bindP (F_impl_RadiansOf a0.lat0) fun r2 => bindP (F_impl_AddI a1.y r2) fun r3 => bindP (F_impl_SinI r3) fun r4 => bindP (F_impl_CoshI a1.x) fun r5 => bindP (F_impl_DivI r4 r5) fun r6 => bindP (F_impl_AsinI r6) fun r7 => bindP (F_impl_areBounded r3 r6) fun r8 => (bif (!r8) then ((⟨(c64 0), (c64 0)⟩ : Iv), (⟨(c64 0), (c64 0)⟩ : Iv), (c64 9)) else bindP (F_impl_IsWhole r7) fun r9 => (bif r9 then ((⟨(c64 0), (c64 0)⟩ : Iv), (⟨(c64 0), (c64 0)⟩ : Iv), (c64 9)) else bindP (F_impl_RadiansOf a0.lon0) fun r10 => bindP (F_impl_SinhI a1.x) fun r11 => bindP (F_impl_CosI r3) fun r12 => bindP (F_impl_DirectionI r11 r12) fun r13 => bindP (F_impl_AddI r10 r13) fun r14 => (r7, r14, (c64 0)))))

def F_impl_Unproject (a0 : Pj) (a1 : Pn) : Iv × Iv × I64 :=
  bindP (F_impl_FamilyOf a0.kind) fun r1 => (bif (r1.val == 1) then bindP (F_impl_CylinderInverse a0 a1) fun r2 => (r2.1, r2.2.1, r2.2.2) else (bif (r1.val == 2) then bindP (F_impl_AzimuthalInverse a0 a1) fun r3 => (r3.1, r3.2.1, r3.2.2) else (bif (r1.val == 3) then bindP (F_impl_ConicInverse a0 a1) fun r4 => (r4.1, r4.2.1, r4.2.2) else (bif (r1.val == 4) then bindP (F_impl_PseudoInverse a0 a1) fun r5 => (r5.1, r5.2.1, r5.2.2) else (bif (r1.val == 5) then bindP (F_impl_TransverseInverse a0 a1) fun r6 => (r6.1, r6.2.1, r6.2.2) else ((⟨(c64 0), (c64 0)⟩ : Iv), (⟨(c64 0), (c64 0)⟩ : Iv), (c64 1)))))))

def F_impl_UnitsOf (a0 : Iv) : I64 × I64 × Bool :=
  bindP (F_impl_IsWhole a0) fun r1 => (bif r1 then ((c64 0), (c64 0), false) else (bif (decide (a0.lo.val > 0)) then (bif (decide (a0.hi.val < 0)) then bindP (F_impl_MulDivFloor a0.lo (c64 966367641600000000) (c64 7244019458077122843)) fun r2 => bindP (F_impl_mulDivCeil a0.hi (c64 966367641600000000) (c64 7244019458077122843)) fun r3 => (bif (!r2.2) then ((c64 0), (c64 0), false) else (bif (!r3.2) then ((c64 0), (c64 0), false) else (bif (decide (r2.1.val < (-36000000000))) then ((c64 0), (c64 0), false) else (bif (decide (r3.1.val > 36000000000)) then ((c64 0), (c64 0), false) else (r2.1, r3.1, true))))) else bindP (F_impl_MulDivFloor a0.lo (c64 966367641600000000) (c64 7244019458077122843)) fun r4 => bindP (F_impl_mulDivCeil a0.hi (c64 966367641600000000) (c64 7244019458077122842)) fun r5 => (bif (!r4.2) then ((c64 0), (c64 0), false) else (bif (!r5.2) then ((c64 0), (c64 0), false) else (bif (decide (r4.1.val < (-36000000000))) then ((c64 0), (c64 0), false) else (bif (decide (r5.1.val > 36000000000)) then ((c64 0), (c64 0), false) else (r4.1, r5.1, true)))))) else (bif (decide (a0.hi.val < 0)) then bindP (F_impl_MulDivFloor a0.lo (c64 966367641600000000) (c64 7244019458077122842)) fun r6 => bindP (F_impl_mulDivCeil a0.hi (c64 966367641600000000) (c64 7244019458077122843)) fun r7 => (bif (!r6.2) then ((c64 0), (c64 0), false) else (bif (!r7.2) then ((c64 0), (c64 0), false) else (bif (decide (r6.1.val < (-36000000000))) then ((c64 0), (c64 0), false) else (bif (decide (r7.1.val > 36000000000)) then ((c64 0), (c64 0), false) else (r6.1, r7.1, true))))) else bindP (F_impl_MulDivFloor a0.lo (c64 966367641600000000) (c64 7244019458077122842)) fun r8 => bindP (F_impl_mulDivCeil a0.hi (c64 966367641600000000) (c64 7244019458077122842)) fun r9 => (bif (!r8.2) then ((c64 0), (c64 0), false) else (bif (!r9.2) then ((c64 0), (c64 0), false) else (bif (decide (r8.1.val < (-36000000000))) then ((c64 0), (c64 0), false) else (bif (decide (r9.1.val > 36000000000)) then ((c64 0), (c64 0), false) else (r8.1, r9.1, true))))))))

def F_impl_WrapLon (a0 : I64) : I64 :=
  (bif (decide ((imod a0 3600000000).val > 1800000000)) then (w64 ((imod a0 3600000000).val - 3600000000)) else (bif (decide ((imod a0 3600000000).val ≤ (-1800000000))) then (w64 ((imod a0 3600000000).val + 3600000000)) else (imod a0 3600000000)))

def F_impl_MiddlePoint (a0 : Iv) (a1 : Iv) : Pt × I64 × I64 :=
  bindP (F_impl_UnitsOf a0) fun r1 => bindP (F_impl_UnitsOf a1) fun r2 => (bif (!r1.2.2) then ((⟨(c64 0), (c64 0)⟩ : Pt), (c64 0), (c64 9)) else (bif (!r2.2.2) then ((⟨(c64 0), (c64 0)⟩ : Pt), (c64 0), (c64 9)) else bindP (F_impl_WrapLon (ishr (w64 (r2.1.val + r2.2.1.val)) 1)) fun r3 => bindP (F_impl_ValidPoint (⟨(ishr (w64 (r1.1.val + r1.2.1.val)) 1), r3⟩ : Pt)) fun r4 => (bif (!r4) then ((⟨(c64 0), (c64 0)⟩ : Pt), (c64 0), (c64 2)) else ((⟨(ishr (w64 (r1.1.val + r1.2.1.val)) 1), r3⟩ : Pt), (mx (w64 (r1.2.1.val - r1.1.val)) (w64 (r2.2.1.val - r2.1.val))), (c64 0)))))

def F_impl_PointAt (a0 : Pj) (a1 : Pn) : Pt × I64 × I64 :=
  bindP (F_impl_Unproject a0 a1) fun r1 => (bif (r1.2.2.val != 0) then ((⟨(c64 0), (c64 0)⟩ : Pt), (c64 0), r1.2.2) else bindP (F_impl_MiddlePoint r1.1 r1.2.1) fun r2 => (r2.1, r2.2.1, r2.2.2))

def F_laws_eqPoint (a0 : Pt) (a1 : Pt) : Bool :=
  (bif (a0.lat.val != a1.lat.val) then false else (bif (a0.lon.val != a1.lon.val) then false else true))

def F_laws_FnExactPointAt (a0 : Pj) (a1 : Pn) : Bool :=
  bindP (F_laws_toProjection a0) fun r1 => bindP (F_laws_toPlanar a1) fun r2 => bindP (F_spec_PointAt r1 r2) fun r3 => bindP (F_laws_toProjection a0) fun r4 => bindP (F_laws_toPlanar a1) fun r5 => bindP (F_impl_PointAt r4 r5) fun r6 => bindP (F_laws_eqPoint r6.1 r3.1) fun r7 => (bif (!r7) then false else (bif (r6.2.1.val != r3.2.1.val) then false else (bif (r6.2.2.val != r3.2.2.val) then false else true)))

end Go.Proofs.YtjbdilphncpceaaGreat.Abs
