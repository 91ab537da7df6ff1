/- The functions, on numbers; part 5 (written by w.py). -/
import Derived.Test.YtjckiicaegpghaaGreatF4
set_option linter.unusedVariables false
set_option linter.unusedSimpArgs false
namespace Go.Proofs.YtjckiicaegpghaaGreat.Abs
open Go Go.RowKit

def F_impl_ConicInverse (a0 : Pj) (a1 : Pn) : Iv × Iv × I64 :=
  bindP (F_impl_newConic a0) fun r1 => (bif (r1.2.val != 0) then ((⟨(c64 0), (c64 0)⟩ : Iv), (⟨(c64 0), (c64 0)⟩ : Iv), (c64 1)) else bindP (F_impl_conic_radius__pCn r1.1 r1.1.o) fun r2 => bindP (F_impl_SubI r2 a1.y) fun r3 => bindP (F_impl_SqrI a1.x) fun r4 => bindP (F_impl_SqrI r3) fun r5 => bindP (F_impl_AddI r4 r5) fun r6 => bindP (F_impl_SqrtI r6) fun r7 => bindP (F_impl_DirectionI a1.x r3) fun r8 => (bif (decide ((w64 (a0.lat1.val + a0.lat2.val)).val < 0)) then bindP (F_impl_NegI r7) fun r10 => bindP (F_impl_NegI a1.x) fun r11 => bindP (F_impl_NegI r3) fun r12 => bindP (F_impl_DirectionI r11 r12) fun r13 => bindP (F_impl_conic_inverseLat__pCn r1.1 r10) fun r14 => (bif (!r14.2) then ((⟨(c64 0), (c64 0)⟩ : Iv), (⟨(c64 0), (c64 0)⟩ : Iv), (c64 8)) else bindP (F_impl_DivI r13 r1.1.n) fun r16 => bindP (F_impl_onEarth r14.1 r16 a0.lon0) fun r17 => (r17.1, r17.2.1, r17.2.2)) else bindP (F_impl_conic_inverseLat__pCn r1.1 r7) fun r18 => (bif (!r18.2) then ((⟨(c64 0), (c64 0)⟩ : Iv), (⟨(c64 0), (c64 0)⟩ : Iv), (c64 8)) else bindP (F_impl_DivI r8 r1.1.n) fun r20 => bindP (F_impl_onEarth r18.1 r20 a0.lon0) fun r21 => (r21.1, r21.2.1, r21.2.2))))

def F_impl_isPseudoOne (a0 : Pj) : Bool :=
  bindP (F_impl_ValidProjection a0) fun r1 => (bif r1 then bindP (F_impl_isPseudo a0.kind) fun r2 => r2 else false)

def F_impl_normalI (a0 : Iv) : Iv :=
  bindP (F_impl_bounded a0.lo a0.hi true) fun r1 => r1

def F_impl_pseudoRadius (a0 : I64) : Iv :=
  (bif (a0.val == 14) then bindP (F_impl_Integer (c64 2)) fun r1 => bindP (F_impl_SqrtI r1) fun r2 => r2 else bindP (F_impl_Integer (c64 2)) fun r3 => bindP (F_impl_PiI) fun r4 => bindP (F_impl_AddI r3 r4) fun r5 => bindP (F_impl_SqrtI r5) fun r6 => r6)

def F_impl_inverseParameter (a0 : I64) (a1 : Iv) : Iv :=
  (bif (a0.val == 13) then bindP (F_impl_normalI a1) fun r1 => r1 else (bif (a0.val == 14) then bindP (F_impl_pseudoRadius a0) fun r2 => bindP (F_impl_DivI a1 r2) fun r3 => bindP (F_impl_AsinI r3) fun r4 => r4 else bindP (F_impl_pseudoRadius a0) fun r5 => bindP (F_impl_MulI a1 r5) fun r6 => bindP (F_impl_HalfI r6) fun r7 => r7))

def F_impl_parallelLength (a0 : I64) (a1 : Iv) : Iv :=
  bindP (F_impl_pseudoRadius a0) fun r1 => (bif (a0.val == 13) then bindP (F_impl_CosI a1) fun r2 => r2 else (bif (a0.val == 14) then bindP (F_impl_times (c64 2) r1) fun r3 => bindP (F_impl_CosI a1) fun r4 => bindP (F_impl_MulI r3 r4) fun r5 => bindP (F_impl_PiI) fun r6 => bindP (F_impl_DivI r5 r6) fun r7 => r7 else bindP (F_impl_Integer (c64 1)) fun r8 => bindP (F_impl_CosI a1) fun r9 => bindP (F_impl_AddI r8 r9) fun r10 => bindP (F_impl_DivI r10 r1) fun r11 => r11))

def F_impl_poleHeight (a0 : I64) : Iv :=
  (bif (a0.val == 13) then bindP (F_impl_TurnI (c64 1)) fun r1 => r1 else (bif (a0.val == 14) then bindP (F_impl_pseudoRadius a0) fun r2 => r2 else bindP (F_impl_PiI) fun r3 => bindP (F_impl_pseudoRadius a0) fun r4 => bindP (F_impl_DivI r3 r4) fun r5 => r5))

def F_impl_leftFactor (a0 : I64) : Iv :=
  (bif (a0.val == 14) then bindP (F_impl_PiI) fun r1 => r1 else bindP (F_impl_Integer (c64 1)) fun r2 => bindP (F_impl_TurnI (c64 1)) fun r3 => bindP (F_impl_AddI r2 r3) fun r4 => r4)

def F_impl_latitudeFor (a0 : I64) (a1 : Iv) : Iv :=
  (bif (a0.val == 13) then a1 else (bif (a0.val == 14) then bindP (F_impl_DoubleI a1) fun r1 => bindP (F_impl_SinI r1) fun r2 => bindP (F_impl_AddI r1 r2) fun r3 => bindP (F_impl_leftFactor a0) fun r4 => bindP (F_impl_DivI r3 r4) fun r5 => bindP (F_impl_AsinI r5) fun r6 => r6 else bindP (F_impl_SinI a1) fun r7 => bindP (F_impl_AddI a1 r7) fun r8 => bindP (F_impl_leftFactor a0) fun r9 => bindP (F_impl_DivI r8 r9) fun r10 => bindP (F_impl_AsinI r10) fun r11 => r11))

def F_impl_PseudoInverse (a0 : Pj) (a1 : Pn) : Iv × Iv × I64 :=
  bindP (F_impl_isPseudoOne a0) fun r1 => (bif (!r1) then ((⟨(c64 0), (c64 0)⟩ : Iv), (⟨(c64 0), (c64 0)⟩ : Iv), (c64 1)) else bindP (F_impl_inverseParameter a0.kind a1.y) fun r2 => bindP (F_impl_parallelLength a0.kind r2) fun r3 => bindP (F_impl_DivI a1.x r3) fun r4 => bindP (F_impl_poleHeight a0.kind) fun r5 => bindP (F_impl_AbsI a1.y) fun r6 => bindP (F_impl_LessI r5 r6) fun r7 => (bif (r7.val == 1) then ((⟨(c64 0), (c64 0)⟩ : Iv), (⟨(c64 0), (c64 0)⟩ : Iv), (c64 8)) else bindP (F_impl_PiI) fun r8 => bindP (F_impl_AbsI r4) fun r9 => bindP (F_impl_LessI r8 r9) fun r10 => (bif (r10.val == 1) then ((⟨(c64 0), (c64 0)⟩ : Iv), (⟨(c64 0), (c64 0)⟩ : Iv), (c64 8)) else bindP (F_impl_latitudeFor a0.kind r2) fun r11 => bindP (F_impl_knownI r11) fun r12 => (bif (r12.2.val != 0) then ((⟨(c64 0), (c64 0)⟩ : Iv), (⟨(c64 0), (c64 0)⟩ : Iv), r12.2) else bindP (F_impl_RadiansOf a0.lon0) fun r13 => bindP (F_impl_AddI r13 r4) fun r14 => (r12.1, r14, (c64 0))))))

def F_impl_isTransverse (a0 : Pj) : Bool :=
  bindP (F_impl_ValidProjection a0) fun r1 => (bif r1 then (a0.kind.val == 16) else false)

def F_impl_CoshI_1 (a0 : I64) : Iv :=
  bindP (F_impl_ExpAt a0) fun r1 => bindP (F_impl_ExpAt (w64 (0 - a0.val))) fun r2 => bindP (F_impl_AddI r1 r2) fun r3 => bindP (F_impl_HalfI r3) fun r4 => r4

def F_impl_monotonic__impl_CoshI_1 (a0 : Iv) : Iv :=
  bindP (F_impl_IsWhole a0) fun r1 => (bif r1 then bindP (F_impl_Whole) fun r2 => r2 else bindP (F_impl_CoshI_1 a0.lo) fun r3 => bindP (F_impl_CoshI_1 a0.hi) fun r4 => bindP (F_impl_areBounded r3 r4) fun r5 => (bif (!r5) then bindP (F_impl_Whole) fun r6 => r6 else bindP (F_impl_bounded r3.lo r4.hi true) fun r7 => r7))

def F_impl_CoshI (a0 : Iv) : Iv :=
  bindP (F_impl_AbsI a0) fun r1 => bindP (F_impl_monotonic__impl_CoshI_1 r1) fun r2 => r2

def F_impl_TransverseInverse (a0 : Pj) (a1 : Pn) : Iv × Iv × I64 :=
  bindP (F_impl_isTransverse a0) fun r1 => (bif (!r1) then ((⟨(c64 0), (c64 0)⟩ : Iv), (⟨(c64 0), (c64 0)⟩ : Iv), (c64 1)) else bindP (F_impl_RadiansOf a0.lat0) fun r2 => bindP (F_impl_AddI a1.y r2) fun r3 => bindP (F_impl_SinI r3) fun r4 => bindP (F_impl_CoshI a1.x) fun r5 => bindP (F_impl_DivI r4 r5) fun r6 => bindP (F_impl_AsinI r6) fun r7 => bindP (F_impl_areBounded r3 r6) fun r8 => (bif (!r8) then ((⟨(c64 0), (c64 0)⟩ : Iv), (⟨(c64 0), (c64 0)⟩ : Iv), (c64 9)) else bindP (F_impl_IsWhole r7) fun r9 => (bif r9 then ((⟨(c64 0), (c64 0)⟩ : Iv), (⟨(c64 0), (c64 0)⟩ : Iv), (c64 9)) else bindP (F_impl_RadiansOf a0.lon0) fun r10 => bindP (F_impl_SinhI a1.x) fun r11 => bindP (F_impl_CosI r3) fun r12 => bindP (F_impl_DirectionI r11 r12) fun r13 => bindP (F_impl_AddI r10 r13) fun r14 => (r7, r14, (c64 0)))))

def F_impl_Unproject (a0 : Pj) (a1 : Pn) : Iv × Iv × I64 :=
  bindP (F_impl_FamilyOf a0.kind) fun r1 => (bif (r1.val == 1) then bindP (F_impl_CylinderInverse a0 a1) fun r2 => (r2.1, r2.2.1, r2.2.2) else (bif (r1.val == 2) then bindP (F_impl_AzimuthalInverse a0 a1) fun r3 => (r3.1, r3.2.1, r3.2.2) else (bif (r1.val == 3) then bindP (F_impl_ConicInverse a0 a1) fun r4 => (r4.1, r4.2.1, r4.2.2) else (bif (r1.val == 4) then bindP (F_impl_PseudoInverse a0 a1) fun r5 => (r5.1, r5.2.1, r5.2.2) else (bif (r1.val == 5) then bindP (F_impl_TransverseInverse a0 a1) fun r6 => (r6.1, r6.2.1, r6.2.2) else ((⟨(c64 0), (c64 0)⟩ : Iv), (⟨(c64 0), (c64 0)⟩ : Iv), (c64 1)))))))

def F_laws_eqInterval (a0 : Iv) (a1 : Iv) : Bool :=
  (bif (a0.lo.val != a1.lo.val) then false else (bif (a0.hi.val != a1.hi.val) then false else true))

def F_laws_FnExactUnproject (a0 : Pj) (a1 : Pn) : Bool :=
  bindP (F_laws_toProjection a0) fun r1 => bindP (F_laws_toPlanar a1) fun r2 => bindP (F_spec_Unproject r1 r2) fun r3 => bindP (F_laws_toProjection a0) fun r4 => bindP (F_laws_toPlanar a1) fun r5 => bindP (F_impl_Unproject r4 r5) fun r6 => bindP (F_laws_eqInterval r6.1 r3.1) fun r7 => (bif (!r7) then false else bindP (F_laws_eqInterval r6.2.1 r3.2.1) fun r8 => (bif (!r8) then false else (bif (r6.2.2.val != r3.2.2.val) then false else true)))

end Go.Proofs.YtjckiicaegpghaaGreat.Abs
