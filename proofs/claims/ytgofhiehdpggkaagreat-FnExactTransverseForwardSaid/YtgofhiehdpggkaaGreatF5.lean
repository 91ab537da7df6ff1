/- The functions, on numbers; part 5 (written by w.py). -/
import Derived.Test.YtgofhiehdpggkaaGreatF4
set_option linter.unusedVariables false
set_option linter.unusedSimpArgs false
namespace Go.Proofs.YtgofhiehdpggkaaGreat.Abs
open Go Go.RowKit

def F_impl_Projection_centre (a0 : Pj) : Pt :=
  (⟨a0.lat0, a0.lon0⟩ : Pt)

def F_impl_differenceOf (a0 : Pt) (a1 : Pt) : Iv :=
  bindP (F_impl_WrapLon (w64 (a1.lon.val - a0.lon.val))) fun r1 => bindP (F_impl_RadiansOf r1) fun r2 => r2

def F_impl_localOf (a0 : Iv) (a1 : Iv) (a2 : Iv) : Vc :=
  bindP (F_impl_CosI a1) fun r1 => bindP (F_impl_SinI a2) fun r2 => bindP (F_impl_MulI r1 r2) fun r3 => bindP (F_impl_CosI a0) fun r4 => bindP (F_impl_SinI a1) fun r5 => bindP (F_impl_MulI r4 r5) fun r6 => bindP (F_impl_SinI a0) fun r7 => bindP (F_impl_CosI a1) fun r8 => bindP (F_impl_MulI r7 r8) fun r9 => bindP (F_impl_CosI a2) fun r10 => bindP (F_impl_MulI r9 r10) fun r11 => bindP (F_impl_SubI r6 r11) fun r12 => bindP (F_impl_SinI a0) fun r13 => bindP (F_impl_SinI a1) fun r14 => bindP (F_impl_MulI r13 r14) fun r15 => bindP (F_impl_CosI a0) fun r16 => bindP (F_impl_CosI a1) fun r17 => bindP (F_impl_MulI r16 r17) fun r18 => bindP (F_impl_CosI a2) fun r19 => bindP (F_impl_MulI r18 r19) fun r20 => bindP (F_impl_AddI r15 r20) fun r21 => (⟨r3, r12, r21⟩ : Vc)

def F_impl_LocalOf (a0 : Pj) (a1 : Pt) : Vc × I64 :=
  bindP (F_impl_isAzimuthalOne a0) fun r1 => (bif (!r1) then ((⟨(⟨(c64 0), (c64 0)⟩ : Iv), (⟨(c64 0), (c64 0)⟩ : Iv), (⟨(c64 0), (c64 0)⟩ : Iv)⟩ : Vc), (c64 1)) else bindP (F_impl_ValidPoint a1) fun r2 => (bif (!r2) then ((⟨(⟨(c64 0), (c64 0)⟩ : Iv), (⟨(c64 0), (c64 0)⟩ : Iv), (⟨(c64 0), (c64 0)⟩ : Iv)⟩ : Vc), (c64 1)) else bindP (F_impl_Projection_centre a0) fun r3 => bindP (F_impl_LatOf r3) fun r4 => bindP (F_impl_LatOf a1) fun r5 => bindP (F_impl_Projection_centre a0) fun r6 => bindP (F_impl_differenceOf r6 a1) fun r7 => bindP (F_impl_localOf r4 r5 r7) fun r8 => (r8, (c64 0))))

def F_impl_Antipode (a0 : Pt) : Pt × I64 :=
  bindP (F_impl_ValidPoint a0) fun r1 => (bif (!r1) then ((⟨(c64 0), (c64 0)⟩ : Pt), (c64 1)) else bindP (F_impl_WrapLon (w64 (a0.lon.val + 1800000000))) fun r2 => ((⟨(w64 (0 - a0.lat.val)), r2⟩ : Pt), (c64 0)))

def F_impl_samePlace (a0 : Pt) (a1 : Pt) : Bool :=
  (bif ((a0.lat.val == a1.lat.val) && (a0.lon.val == a1.lon.val)) then true else bindP (F_impl_isPole a0) fun r1 => (bif r1 then (a0.lat.val == a1.lat.val) else false))

def F_impl_LessI (a0 : Iv) (a1 : Iv) : I64 :=
  bindP (F_impl_areBounded a0 a1) fun r1 => (bif (!r1) then (c64 2) else (bif (decide (a0.hi.val < a1.lo.val)) then (c64 1) else (bif (decide (a0.lo.val ≥ a1.hi.val)) then (c64 0) else (c64 2))))

def F_impl_WideAdd (a0 : Wd) (a1 : Wd) : Wd × Bool :=
  (bif (decide ((iand .i64 (ixor .i64 a0.hi.val (w64 (adc_lo (wu64 a0.hi.val) (wu64 a1.hi.val) (adc_hi a0.lo a1.lo (cu64 0))).val).val).val (ixor .i64 a1.hi.val (w64 (adc_lo (wu64 a0.hi.val) (wu64 a1.hi.val) (adc_hi a0.lo a1.lo (cu64 0))).val).val).val).val < 0)) then ((⟨(c64 0), (cu64 0)⟩ : Wd), false) else ((⟨(w64 (adc_lo (wu64 a0.hi.val) (wu64 a1.hi.val) (adc_hi a0.lo a1.lo (cu64 0))).val), (adc_lo a0.lo a1.lo (cu64 0))⟩ : Wd), true))

def F_impl_rootOfSquares (a0 : I64) (a1 : I64) (a2 : I64) : I64 × I64 :=
  bindP (F_impl_WideMul a0 a0) fun r1 => bindP (F_impl_WideMul a1 a1) fun r2 => bindP (F_impl_WideAdd r1 r2) fun r3 => bindP (F_impl_WideMul a2 a2) fun r4 => bindP (F_impl_WideAdd r3.1 r4) fun r5 => bindP (F_impl_WideSqrt r5.1) fun r6 => bindP (F_impl_WideMul (w64 r6.1.val) (w64 r6.1.val)) fun r7 => (bif (!((r7.hi.val == r5.1.hi.val) && (r7.lo.val == r5.1.lo.val))) then ((w64 r6.1.val), (w64 ((w64 r6.1.val).val + 1))) else ((w64 r6.1.val), (w64 r6.1.val)))

def F_impl_NormV (a0 : Vc) : Iv :=
  bindP (F_impl_areBounded a0.x a0.y) fun r1 => (bif (!r1) then bindP (F_impl_Whole) fun r2 => r2 else bindP (F_impl_IsWhole a0.z) fun r3 => (bif r3 then bindP (F_impl_Whole) fun r4 => r4 else bindP (F_impl_AbsI a0.x) fun r5 => bindP (F_impl_AbsI a0.y) fun r6 => bindP (F_impl_AbsI a0.z) fun r7 => bindP (F_impl_rootOfSquares r5.lo r6.lo r7.lo) fun r8 => bindP (F_impl_rootOfSquares r5.hi r6.hi r7.hi) fun r9 => bindP (F_impl_bounded r8.1 r9.2 true) fun r10 => r10))

def F_impl_fromAxis (a0 : Vc) : Iv :=
  bindP (F_impl_NormV (⟨a0.x, a0.y, (⟨(c64 0), (c64 0)⟩ : Iv)⟩ : Vc)) fun r1 => r1

def F_impl_isPositive (a0 : Iv) : Bool :=
  bindP (F_impl_ValidInterval a0) fun r1 => (bif r1 then (decide (a0.lo.val > 0)) else false)

def F_impl_forwardFactor (a0 : I64) (a1 : Vc) : Iv :=
  (bif (a0.val == 5) then bindP (F_impl_Integer (c64 1)) fun r1 => bindP (F_impl_DivI r1 a1.z) fun r2 => r2 else (bif (a0.val == 6) then bindP (F_impl_Integer (c64 2)) fun r3 => bindP (F_impl_Integer (c64 1)) fun r4 => bindP (F_impl_AddI r4 a1.z) fun r5 => bindP (F_impl_DivI r3 r5) fun r6 => r6 else (bif (a0.val == 7) then (bif (decide (a1.z.lo.val < 0)) then bindP (F_impl_Whole) fun r7 => r7 else bindP (F_impl_Integer (c64 1)) fun r8 => r8) else (bif (a0.val == 9) then bindP (F_impl_Integer (c64 2)) fun r9 => bindP (F_impl_Integer (c64 1)) fun r10 => bindP (F_impl_AddI r10 a1.z) fun r11 => bindP (F_impl_DivI r9 r11) fun r12 => bindP (F_impl_SqrtI r12) fun r13 => r13 else bindP (F_impl_fromAxis a1) fun r14 => bindP (F_impl_isPositive r14) fun r15 => (bif r15 then bindP (F_impl_DirectionI r14 a1.z) fun r16 => bindP (F_impl_DivI r16 r14) fun r17 => r17 else bindP (F_impl_Integer (c64 1)) fun r18 => bindP (F_impl_Integer (c64 1)) fun r19 => bindP (F_impl_DivI r19 a1.z) fun r20 => bindP (F_impl_HullI r18 r20) fun r21 => r21)))))

def F_impl_AzimuthalForward (a0 : Pj) (a1 : Pt) : Pn × I64 :=
  bindP (F_impl_LocalOf a0 a1) fun r1 => (bif (r1.2.val != 0) then ((⟨(⟨(c64 0), (c64 0)⟩ : Iv), (⟨(c64 0), (c64 0)⟩ : Iv)⟩ : Pn), r1.2) else bindP (F_impl_Projection_centre a0) fun r2 => bindP (F_impl_Antipode r2) fun r3 => bindP (F_impl_samePlace a1 r3.1) fun r4 => (bif r4 then ((⟨(⟨(c64 0), (c64 0)⟩ : Iv), (⟨(c64 0), (c64 0)⟩ : Iv)⟩ : Pn), (c64 8)) else (bif (a0.kind.val == 5) then bindP (F_impl_Integer (c64 0)) fun r5 => bindP (F_impl_LessI r5 r1.1.z) fun r6 => (bif (r6.val == 0) then ((⟨(⟨(c64 0), (c64 0)⟩ : Iv), (⟨(c64 0), (c64 0)⟩ : Iv)⟩ : Pn), (c64 8)) else (bif (a0.kind.val == 7) then bindP (F_impl_Integer (c64 0)) fun r7 => bindP (F_impl_LessI r1.1.z r7) fun r8 => (bif (r8.val == 1) then ((⟨(⟨(c64 0), (c64 0)⟩ : Iv), (⟨(c64 0), (c64 0)⟩ : Iv)⟩ : Pn), (c64 8)) else bindP (F_impl_forwardFactor a0.kind r1.1) fun r9 => bindP (F_impl_MulI r9 r1.1.x) fun r10 => bindP (F_impl_MulI r9 r1.1.y) fun r11 => bindP (F_impl_planar r10 r11) fun r12 => (r12.1, r12.2)) else bindP (F_impl_forwardFactor a0.kind r1.1) fun r13 => bindP (F_impl_MulI r13 r1.1.x) fun r14 => bindP (F_impl_MulI r13 r1.1.y) fun r15 => bindP (F_impl_planar r14 r15) fun r16 => (r16.1, r16.2))) else (bif (a0.kind.val == 7) then bindP (F_impl_Integer (c64 0)) fun r17 => bindP (F_impl_LessI r1.1.z r17) fun r18 => (bif (r18.val == 1) then ((⟨(⟨(c64 0), (c64 0)⟩ : Iv), (⟨(c64 0), (c64 0)⟩ : Iv)⟩ : Pn), (c64 8)) else bindP (F_impl_forwardFactor a0.kind r1.1) fun r19 => bindP (F_impl_MulI r19 r1.1.x) fun r20 => bindP (F_impl_MulI r19 r1.1.y) fun r21 => bindP (F_impl_planar r20 r21) fun r22 => (r22.1, r22.2)) else bindP (F_impl_forwardFactor a0.kind r1.1) fun r23 => bindP (F_impl_MulI r23 r1.1.x) fun r24 => bindP (F_impl_MulI r23 r1.1.y) fun r25 => bindP (F_impl_planar r24 r25) fun r26 => (r26.1, r26.2)))))

def F_laws_FnExactAzimuthalForward (a0 : Pj) (a1 : Pt) : Bool :=
  bindP (F_laws_toProjection a0) fun r1 => bindP (F_laws_toPoint a1) fun r2 => bindP (F_spec_AzimuthalForward r1 r2) fun r3 => bindP (F_laws_toProjection a0) fun r4 => bindP (F_laws_toPoint a1) fun r5 => bindP (F_impl_AzimuthalForward r4 r5) fun r6 => bindP (F_laws_eqPlanar r6.1 r3.1) fun r7 => (bif (!r7) then false else (bif (r6.2.val != r3.2.val) then false else true))

end Go.Proofs.YtgofhiehdpggkaaGreat.Abs
