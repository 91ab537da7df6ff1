/- The functions, on numbers; part 2 (written by w.py). -/
import Derived.Test.YtbpkpmmmeneagaaGreatF1
set_option linter.unusedVariables false
set_option linter.unusedSimpArgs false
namespace Go.Proofs.YtbpkpmmmeneagaaGreat.Abs
open Go Go.RowKit

def F_impl_odd_1__p_impl_AsinhI_1 (a0 : I64) : Iv :=
  (bif (decide (a0.val < 0)) then bindP (F_impl_AsinhI_1 (w64 (0 - a0.val))) fun r1 => bindP (F_impl_NegI r1) fun r2 => r2 else bindP (F_impl_AsinhI_1 a0) fun r3 => r3)

def F_impl_monotonic__impl_odd_1_p_impl_AsinhI_1 (a0 : Iv) : Iv :=
  bindP (F_impl_IsWhole a0) fun r1 => (bif r1 then bindP (F_impl_Whole) fun r2 => r2 else bindP (F_impl_odd_1__p_impl_AsinhI_1 a0.lo) fun r3 => bindP (F_impl_odd_1__p_impl_AsinhI_1 a0.hi) fun r4 => bindP (F_impl_areBounded r3 r4) fun r5 => (bif (!r5) then bindP (F_impl_Whole) fun r6 => r6 else bindP (F_impl_bounded r3.lo r4.hi true) fun r7 => r7))

def F_impl_AsinhI (a0 : Iv) : Iv :=
  bindP (F_impl_monotonic__impl_odd_1_p_impl_AsinhI_1 a0) fun r1 => r1

def F_impl_isPole (a0 : Pt) : Bool :=
  bindP (F_impl_abs a0.lat) fun r1 => (r1.val == 900000000)

def F_impl_CylinderForward (a0 : Pj) (a1 : Pt) : Pn × I64 :=
  bindP (F_impl_ValidProjection a0) fun r1 => (bif (!r1) then ((⟨(⟨(c64 0), (c64 0)⟩ : Iv), (⟨(c64 0), (c64 0)⟩ : Iv)⟩ : Pn), (c64 1)) else bindP (F_impl_ValidPoint a1) fun r2 => (bif (!r2) then ((⟨(⟨(c64 0), (c64 0)⟩ : Iv), (⟨(c64 0), (c64 0)⟩ : Iv)⟩ : Pn), (c64 1)) else bindP (F_impl_isCylindrical a0.kind) fun r3 => (bif (!r3) then ((⟨(⟨(c64 0), (c64 0)⟩ : Iv), (⟨(c64 0), (c64 0)⟩ : Iv)⟩ : Pn), (c64 1)) else bindP (F_impl_LonFrom a0 a1) fun r4 => bindP (F_impl_LatOf a1) fun r5 => bindP (F_impl_RadiansOf a0.lat1) fun r6 => bindP (F_impl_CosI r6) fun r7 => (bif (a0.kind.val == 1) then bindP (F_impl_MulI r4 r7) fun r8 => bindP (F_impl_planar r8 r5) fun r9 => (r9.1, r9.2) else (bif (a0.kind.val == 3) then bindP (F_impl_MulI r4 r7) fun r10 => bindP (F_impl_SinI r5) fun r11 => bindP (F_impl_DivI r11 r7) fun r12 => bindP (F_impl_planar r10 r12) fun r13 => (r13.1, r13.2) else (bif (a0.kind.val == 4) then bindP (F_impl_Quotient (c64 5) (c64 4)) fun r14 => bindP (F_impl_Quotient (c64 4) (c64 5)) fun r15 => bindP (F_impl_MulI r15 r5) fun r16 => bindP (F_impl_TanI r16) fun r17 => bindP (F_impl_AsinhI r17) fun r18 => bindP (F_impl_MulI r14 r18) fun r19 => bindP (F_impl_planar r4 r19) fun r20 => (r20.1, r20.2) else bindP (F_impl_isPole a1) fun r21 => (bif r21 then ((⟨(⟨(c64 0), (c64 0)⟩ : Iv), (⟨(c64 0), (c64 0)⟩ : Iv)⟩ : Pn), (c64 8)) else bindP (F_impl_TanI r5) fun r22 => bindP (F_impl_AsinhI r22) fun r23 => bindP (F_impl_planar r4 r23) fun r24 => (r24.1, r24.2))))))))

def F_impl_isAzimuthalOne (a0 : Pj) : Bool :=
  bindP (F_impl_ValidProjection a0) fun r1 => (bif r1 then bindP (F_impl_isAzimuthal a0.kind) fun r2 => r2 else false)

def F_impl_Projection_centre (a0 : Pj) : Pt :=
  (⟨a0.lat0, a0.lon0⟩ : Pt)

def F_impl_differenceOf (a0 : Pt) (a1 : Pt) : Iv :=
  bindP (F_impl_WrapLon (w64 (a1.lon.val - a0.lon.val))) fun r1 => bindP (F_impl_RadiansOf r1) fun r2 => r2

def F_impl_localOf (a0 : Iv) (a1 : Iv) (a2 : Iv) : Vc :=
  bindP (F_impl_CosI a1) fun r1 => bindP (F_impl_SinI a2) fun r2 => bindP (F_impl_MulI r1 r2) fun r3 => bindP (F_impl_CosI a0) fun r4 => bindP (F_impl_SinI a1) fun r5 => bindP (F_impl_MulI r4 r5) fun r6 => bindP (F_impl_SinI a0) fun r7 => bindP (F_impl_CosI a1) fun r8 => bindP (F_impl_MulI r7 r8) fun r9 => bindP (F_impl_CosI a2) fun r10 => bindP (F_impl_MulI r9 r10) fun r11 => bindP (F_impl_SubI r6 r11) fun r12 => bindP (F_impl_SinI a0) fun r13 => bindP (F_impl_SinI a1) fun r14 => bindP (F_impl_MulI r13 r14) fun r15 => bindP (F_impl_CosI a0) fun r16 => bindP (F_impl_CosI a1) fun r17 => bindP (F_impl_MulI r16 r17) fun r18 => bindP (F_impl_CosI a2) fun r19 => bindP (F_impl_MulI r18 r19) fun r20 => bindP (F_impl_AddI r15 r20) fun r21 => (⟨r3, r12, r21⟩ : Vc)

def F_impl_LocalOf (a0 : Pj) (a1 : Pt) : Vc × I64 :=
  bindP (F_impl_isAzimuthalOne a0) fun r1 => (bif (!r1) then ((⟨(⟨(c64 0), (c64 0)⟩ : Iv), (⟨(c64 0), (c64 0)⟩ : Iv), (⟨(c64 0), (c64 0)⟩ : Iv)⟩ : Vc), (c64 1)) else bindP (F_impl_ValidPoint a1) fun r2 => (bif (!r2) then ((⟨(⟨(c64 0), (c64 0)⟩ : Iv), (⟨(c64 0), (c64 0)⟩ : Iv), (⟨(c64 0), (c64 0)⟩ : Iv)⟩ : Vc), (c64 1)) else bindP (F_impl_Projection_centre a0) fun r3 => bindP (F_impl_LatOf r3) fun r4 => bindP (F_impl_LatOf a1) fun r5 => bindP (F_impl_Projection_centre a0) fun r6 => bindP (F_impl_differenceOf r6 a1) fun r7 => bindP (F_impl_localOf r4 r5 r7) fun r8 => (r8, (c64 0))))

def F_impl_Antipode (a0 : Pt) : Pt × I64 :=
  bindP (F_impl_ValidPoint a0) fun r1 => (bif (!r1) then ((⟨(c64 0), (c64 0)⟩ : Pt), (c64 1)) else bindP (F_impl_WrapLon (w64 (a0.lon.val + 1800000000))) fun r2 => ((⟨(w64 (0 - a0.lat.val)), r2⟩ : Pt), (c64 0)))

def F_impl_samePlace (a0 : Pt) (a1 : Pt) : Bool :=
  (bif ((a0.lat.val == a1.lat.val) && (a0.lon.val == a1.lon.val)) then true else bindP (F_impl_isPole a0) fun r1 => (bif r1 then (a0.lat.val == a1.lat.val) else false))

def F_impl_LessI (a0 : Iv) (a1 : Iv) : I64 :=
  bindP (F_impl_areBounded a0 a1) fun r1 => (bif (!r1) then (c64 2) else (bif (decide (a0.hi.val < a1.lo.val)) then (c64 1) else (bif (decide (a0.lo.val ≥ a1.hi.val)) then (c64 0) else (c64 2))))

def F_impl_WideAdd (a0 : Wd) (a1 : Wd) : Wd × Bool :=
  (bif (decide ((iand .i64 (ixor .i64 a0.hi.val (w64 (adc_lo (wu64 a0.hi.val) (wu64 a1.hi.val) (adc_hi a0.lo a1.lo (cu64 0))).val).val).val (ixor .i64 a1.hi.val (w64 (adc_lo (wu64 a0.hi.val) (wu64 a1.hi.val) (adc_hi a0.lo a1.lo (cu64 0))).val).val).val).val < 0)) then ((⟨(c64 0), (cu64 0)⟩ : Wd), false) else ((⟨(w64 (adc_lo (wu64 a0.hi.val) (wu64 a1.hi.val) (adc_hi a0.lo a1.lo (cu64 0))).val), (adc_lo a0.lo a1.lo (cu64 0))⟩ : Wd), true))

def F_impl_rootOfSquares (a0 : I64) (a1 : I64) (a2 : I64) : I64 × I64 :=
  bindP (F_impl_WideMul a0 a0) fun r1 => bindP (F_impl_WideMul a1 a1) fun r2 => bindP (F_impl_WideAdd r1 r2) fun r3 => bindP (F_impl_WideMul a2 a2) fun r4 => bindP (F_impl_WideAdd r3.1 r4) fun r5 => bindP (F_impl_WideSqrt r5.1) fun r6 => bindP (F_impl_WideMul (w64 r6.1.val) (w64 r6.1.val)) fun r7 => (bif (!((r7.hi.val == r5.1.hi.val) && (r7.lo.val == r5.1.lo.val))) then ((w64 r6.1.val), (w64 ((w64 r6.1.val).val + 1))) else ((w64 r6.1.val), (w64 r6.1.val)))

def F_impl_NormV (a0 : Vc) : Iv :=
  bindP (F_impl_areBounded a0.x a0.y) fun r1 => (bif (!r1) then bindP (F_impl_Whole) fun r2 => r2 else bindP (F_impl_IsWhole a0.z) fun r3 => (bif r3 then bindP (F_impl_Whole) fun r4 => r4 else bindP (F_impl_AbsI a0.x) fun r5 => bindP (F_impl_AbsI a0.y) fun r6 => bindP (F_impl_AbsI a0.z) fun r7 => bindP (F_impl_rootOfSquares r5.lo r6.lo r7.lo) fun r8 => bindP (F_impl_rootOfSquares r5.hi r6.hi r7.hi) fun r9 => bindP (F_impl_bounded r8.1 r9.2 true) fun r10 => r10))

def F_impl_fromAxis (a0 : Vc) : Iv :=
  bindP (F_impl_NormV (⟨a0.x, a0.y, (⟨(c64 0), (c64 0)⟩ : Iv)⟩ : Vc)) fun r1 => r1

def F_impl_isPositive (a0 : Iv) : Bool :=
  bindP (F_impl_ValidInterval a0) fun r1 => (bif r1 then (decide (a0.lo.val > 0)) else false)

def F_impl_isOpen (a0 : I64) : Bool :=
  (bif (decide ((-1152921504606846976) < a0.val)) then (decide (a0.val < 1152921504606846976)) else false)

def F_impl_halfCircle : Iv :=
  bindP (F_impl_TurnI (c64 1)) fun r1 => bindP (F_impl_TurnI (c64 1)) fun r2 => (⟨(w64 (0 - r1.hi.val)), r2.hi⟩ : Iv)

def F_impl_halved (a0 : Iv) : Iv :=
  bindP (F_impl_Integer (c64 1)) fun r1 => bindP (F_impl_Integer (c64 1)) fun r2 => bindP (F_impl_SqrI a0) fun r3 => bindP (F_impl_AddI r2 r3) fun r4 => bindP (F_impl_SqrtI r4) fun r5 => bindP (F_impl_AddI r1 r5) fun r6 => bindP (F_impl_DivI a0 r6) fun r7 => r7

def F_impl_ArcSeries (a0 : Iv) : Iv :=
  bindP (F_impl_InsideI a0 (⟨(c64 (-1073741824)), (c64 1073741824)⟩ : Iv)) fun r1 => (bif (!r1) then bindP (F_impl_Whole) fun r2 => r2 else bindP (F_impl_SqrI a0) fun r3 => bindP (F_impl_Quotient (c64 1) (c64 21)) fun r4 => bindP (F_impl_Quotient (c64 1) (c64 19)) fun r5 => bindP (F_impl_MulI r3 r4) fun r6 => bindP (F_impl_SubI r5 r6) fun r7 => bindP (F_impl_Quotient (c64 1) (c64 17)) fun r8 => bindP (F_impl_MulI r3 r7) fun r9 => bindP (F_impl_SubI r8 r9) fun r10 => bindP (F_impl_Quotient (c64 1) (c64 15)) fun r11 => bindP (F_impl_MulI r3 r10) fun r12 => bindP (F_impl_SubI r11 r12) fun r13 => bindP (F_impl_Quotient (c64 1) (c64 13)) fun r14 => bindP (F_impl_MulI r3 r13) fun r15 => bindP (F_impl_SubI r14 r15) fun r16 => bindP (F_impl_Quotient (c64 1) (c64 11)) fun r17 => bindP (F_impl_MulI r3 r16) fun r18 => bindP (F_impl_SubI r17 r18) fun r19 => bindP (F_impl_Quotient (c64 1) (c64 9)) fun r20 => bindP (F_impl_MulI r3 r19) fun r21 => bindP (F_impl_SubI r20 r21) fun r22 => bindP (F_impl_Quotient (c64 1) (c64 7)) fun r23 => bindP (F_impl_MulI r3 r22) fun r24 => bindP (F_impl_SubI r23 r24) fun r25 => bindP (F_impl_Quotient (c64 1) (c64 5)) fun r26 => bindP (F_impl_MulI r3 r25) fun r27 => bindP (F_impl_SubI r26 r27) fun r28 => bindP (F_impl_Quotient (c64 1) (c64 3)) fun r29 => bindP (F_impl_MulI r3 r28) fun r30 => bindP (F_impl_SubI r29 r30) fun r31 => bindP (F_impl_Quotient (c64 1) (c64 1)) fun r32 => bindP (F_impl_MulI r3 r31) fun r33 => bindP (F_impl_SubI r32 r33) fun r34 => bindP (F_impl_MulI a0 r34) fun r35 => bindP (F_impl_tiny) fun r36 => bindP (F_impl_AddI r35 r36) fun r37 => r37)

def F_impl_DoubleI (a0 : Iv) : Iv :=
  bindP (F_impl_AddI a0 a0) fun r1 => r1

def F_impl_fourfold (a0 : Iv) : Iv :=
  bindP (F_impl_halved a0) fun r1 => bindP (F_impl_halved r1) fun r2 => bindP (F_impl_ArcSeries r2) fun r3 => bindP (F_impl_DoubleI r3) fun r4 => bindP (F_impl_DoubleI r4) fun r5 => r5

def F_impl_AtanAt_b (self : I64 → Iv) (a0 : I64) : Iv :=
  bindP (F_impl_isOpen a0) fun r1 => (bif (!r1) then bindP (F_impl_halfCircle) fun r3 => r3 else (bif (decide (a0.val < 0)) then bindP (self (w64 (0 - a0.val))) fun r5 => bindP (F_impl_NegI r5) fun r6 => r6 else (bif (decide (a0.val > 4294967296)) then bindP (F_impl_TurnI (c64 1)) fun r8 => bindP (F_impl_Integer (c64 1)) fun r9 => bindP (F_impl_at a0) fun r10 => bindP (F_impl_DivI r9 r10) fun r11 => bindP (F_impl_fourfold r11) fun r12 => bindP (F_impl_SubI r8 r12) fun r13 => r13 else bindP (F_impl_at a0) fun r14 => bindP (F_impl_fourfold r14) fun r15 => r15)))
def F_impl_AtanAt_r : Nat → I64 → Iv
  | 0, _ => (⟨(c64 0), (c64 0)⟩ : Iv)
  | fu + 1, a0 => F_impl_AtanAt_b (F_impl_AtanAt_r fu) a0
def F_impl_AtanAt (a0 : I64) : Iv := F_impl_AtanAt_r 2 a0

def F_impl_AtanI (a0 : Iv) : Iv :=
  bindP (F_impl_IsWhole a0) fun r1 => (bif r1 then bindP (F_impl_halfCircle) fun r2 => r2 else bindP (F_impl_AtanAt a0.lo) fun r3 => bindP (F_impl_AtanAt a0.hi) fun r4 => bindP (F_impl_HullI r3 r4) fun r5 => r5)

def F_impl_DirectionAt (a0 : I64) (a1 : I64) : Iv :=
  bindP (F_impl_isOpen a0) fun r1 => (bif (!r1) then bindP (F_impl_Whole) fun r2 => r2 else bindP (F_impl_isOpen a1) fun r3 => (bif (!r3) then bindP (F_impl_Whole) fun r4 => r4 else (bif (a0.val == 0) then (bif (a1.val == 0) then bindP (F_impl_Whole) fun r5 => r5 else bindP (F_impl_abs a0) fun r6 => bindP (F_impl_abs a1) fun r7 => (bif (decide (r6.val > r7.val)) then bindP (F_impl_TurnI (c64 1)) fun r8 => (bif (decide (a0.val < 0)) then bindP (F_impl_TurnI (c64 (-1))) fun r9 => bindP (F_impl_at a1) fun r10 => bindP (F_impl_at a0) fun r11 => bindP (F_impl_DivI r10 r11) fun r12 => bindP (F_impl_AtanI r12) fun r13 => bindP (F_impl_SubI r9 r13) fun r14 => r14 else bindP (F_impl_at a1) fun r15 => bindP (F_impl_at a0) fun r16 => bindP (F_impl_DivI r15 r16) fun r17 => bindP (F_impl_AtanI r17) fun r18 => bindP (F_impl_SubI r8 r18) fun r19 => r19) else bindP (F_impl_at a0) fun r20 => bindP (F_impl_at a1) fun r21 => bindP (F_impl_DivI r20 r21) fun r22 => bindP (F_impl_AtanI r22) fun r23 => (bif (decide (a1.val > 0)) then r23 else (bif (decide (a0.val < 0)) then bindP (F_impl_TurnI (c64 (-2))) fun r24 => bindP (F_impl_AddI r23 r24) fun r25 => r25 else bindP (F_impl_TurnI (c64 2)) fun r26 => bindP (F_impl_AddI r23 r26) fun r27 => r27)))) else bindP (F_impl_abs a0) fun r28 => bindP (F_impl_abs a1) fun r29 => (bif (decide (r28.val > r29.val)) then bindP (F_impl_TurnI (c64 1)) fun r30 => (bif (decide (a0.val < 0)) then bindP (F_impl_TurnI (c64 (-1))) fun r31 => bindP (F_impl_at a1) fun r32 => bindP (F_impl_at a0) fun r33 => bindP (F_impl_DivI r32 r33) fun r34 => bindP (F_impl_AtanI r34) fun r35 => bindP (F_impl_SubI r31 r35) fun r36 => r36 else bindP (F_impl_at a1) fun r37 => bindP (F_impl_at a0) fun r38 => bindP (F_impl_DivI r37 r38) fun r39 => bindP (F_impl_AtanI r39) fun r40 => bindP (F_impl_SubI r30 r40) fun r41 => r41) else bindP (F_impl_at a0) fun r42 => bindP (F_impl_at a1) fun r43 => bindP (F_impl_DivI r42 r43) fun r44 => bindP (F_impl_AtanI r44) fun r45 => (bif (decide (a1.val > 0)) then r45 else (bif (decide (a0.val < 0)) then bindP (F_impl_TurnI (c64 (-2))) fun r46 => bindP (F_impl_AddI r45 r46) fun r47 => r47 else bindP (F_impl_TurnI (c64 2)) fun r48 => bindP (F_impl_AddI r45 r48) fun r49 => r49))))))

def F_impl_DirectionI (a0 : Iv) (a1 : Iv) : Iv :=
  bindP (F_impl_areBounded a0 a1) fun r1 => (bif (!r1) then bindP (F_impl_Whole) fun r2 => r2 else bindP (F_impl_HasI a0 (c64 0)) fun r3 => (bif r3 then bindP (F_impl_HasI a1 (c64 0)) fun r4 => (bif r4 then bindP (F_impl_Whole) fun r5 => r5 else (bif (decide (a1.lo.val < 0)) then (bif (decide (a0.lo.val < 0)) then (bif (decide (a0.hi.val ≥ 0)) then bindP (F_impl_Whole) fun r6 => r6 else bindP (F_impl_DirectionAt a0.lo a1.lo) fun r7 => bindP (F_impl_DirectionAt a0.lo a1.hi) fun r8 => bindP (F_impl_HullI r7 r8) fun r9 => bindP (F_impl_DirectionAt a0.hi a1.lo) fun r10 => bindP (F_impl_DirectionAt a0.hi a1.hi) fun r11 => bindP (F_impl_HullI r10 r11) fun r12 => bindP (F_impl_HullI r9 r12) fun r13 => r13) else bindP (F_impl_DirectionAt a0.lo a1.lo) fun r14 => bindP (F_impl_DirectionAt a0.lo a1.hi) fun r15 => bindP (F_impl_HullI r14 r15) fun r16 => bindP (F_impl_DirectionAt a0.hi a1.lo) fun r17 => bindP (F_impl_DirectionAt a0.hi a1.hi) fun r18 => bindP (F_impl_HullI r17 r18) fun r19 => bindP (F_impl_HullI r16 r19) fun r20 => r20) else bindP (F_impl_DirectionAt a0.lo a1.lo) fun r21 => bindP (F_impl_DirectionAt a0.lo a1.hi) fun r22 => bindP (F_impl_HullI r21 r22) fun r23 => bindP (F_impl_DirectionAt a0.hi a1.lo) fun r24 => bindP (F_impl_DirectionAt a0.hi a1.hi) fun r25 => bindP (F_impl_HullI r24 r25) fun r26 => bindP (F_impl_HullI r23 r26) fun r27 => r27)) else (bif (decide (a1.lo.val < 0)) then (bif (decide (a0.lo.val < 0)) then (bif (decide (a0.hi.val ≥ 0)) then bindP (F_impl_Whole) fun r28 => r28 else bindP (F_impl_DirectionAt a0.lo a1.lo) fun r29 => bindP (F_impl_DirectionAt a0.lo a1.hi) fun r30 => bindP (F_impl_HullI r29 r30) fun r31 => bindP (F_impl_DirectionAt a0.hi a1.lo) fun r32 => bindP (F_impl_DirectionAt a0.hi a1.hi) fun r33 => bindP (F_impl_HullI r32 r33) fun r34 => bindP (F_impl_HullI r31 r34) fun r35 => r35) else bindP (F_impl_DirectionAt a0.lo a1.lo) fun r36 => bindP (F_impl_DirectionAt a0.lo a1.hi) fun r37 => bindP (F_impl_HullI r36 r37) fun r38 => bindP (F_impl_DirectionAt a0.hi a1.lo) fun r39 => bindP (F_impl_DirectionAt a0.hi a1.hi) fun r40 => bindP (F_impl_HullI r39 r40) fun r41 => bindP (F_impl_HullI r38 r41) fun r42 => r42) else bindP (F_impl_DirectionAt a0.lo a1.lo) fun r43 => bindP (F_impl_DirectionAt a0.lo a1.hi) fun r44 => bindP (F_impl_HullI r43 r44) fun r45 => bindP (F_impl_DirectionAt a0.hi a1.lo) fun r46 => bindP (F_impl_DirectionAt a0.hi a1.hi) fun r47 => bindP (F_impl_HullI r46 r47) fun r48 => bindP (F_impl_HullI r45 r48) fun r49 => r49)))

def F_impl_forwardFactor (a0 : I64) (a1 : Vc) : Iv :=
  (bif (a0.val == 5) then bindP (F_impl_Integer (c64 1)) fun r1 => bindP (F_impl_DivI r1 a1.z) fun r2 => r2 else (bif (a0.val == 6) then bindP (F_impl_Integer (c64 2)) fun r3 => bindP (F_impl_Integer (c64 1)) fun r4 => bindP (F_impl_AddI r4 a1.z) fun r5 => bindP (F_impl_DivI r3 r5) fun r6 => r6 else (bif (a0.val == 7) then (bif (decide (a1.z.lo.val < 0)) then bindP (F_impl_Whole) fun r7 => r7 else bindP (F_impl_Integer (c64 1)) fun r8 => r8) else (bif (a0.val == 9) then bindP (F_impl_Integer (c64 2)) fun r9 => bindP (F_impl_Integer (c64 1)) fun r10 => bindP (F_impl_AddI r10 a1.z) fun r11 => bindP (F_impl_DivI r9 r11) fun r12 => bindP (F_impl_SqrtI r12) fun r13 => r13 else bindP (F_impl_fromAxis a1) fun r14 => bindP (F_impl_isPositive r14) fun r15 => (bif r15 then bindP (F_impl_DirectionI r14 a1.z) fun r16 => bindP (F_impl_DivI r16 r14) fun r17 => r17 else bindP (F_impl_Integer (c64 1)) fun r18 => bindP (F_impl_Integer (c64 1)) fun r19 => bindP (F_impl_DivI r19 a1.z) fun r20 => bindP (F_impl_HullI r18 r20) fun r21 => r21)))))

def F_impl_AzimuthalForward (a0 : Pj) (a1 : Pt) : Pn × I64 :=
  bindP (F_impl_LocalOf a0 a1) fun r1 => (bif (r1.2.val != 0) then ((⟨(⟨(c64 0), (c64 0)⟩ : Iv), (⟨(c64 0), (c64 0)⟩ : Iv)⟩ : Pn), r1.2) else bindP (F_impl_Projection_centre a0) fun r2 => bindP (F_impl_Antipode r2) fun r3 => bindP (F_impl_samePlace a1 r3.1) fun r4 => (bif r4 then ((⟨(⟨(c64 0), (c64 0)⟩ : Iv), (⟨(c64 0), (c64 0)⟩ : Iv)⟩ : Pn), (c64 8)) else (bif (a0.kind.val == 5) then bindP (F_impl_Integer (c64 0)) fun r5 => bindP (F_impl_LessI r5 r1.1.z) fun r6 => (bif (r6.val == 0) then ((⟨(⟨(c64 0), (c64 0)⟩ : Iv), (⟨(c64 0), (c64 0)⟩ : Iv)⟩ : Pn), (c64 8)) else (bif (a0.kind.val == 7) then bindP (F_impl_Integer (c64 0)) fun r7 => bindP (F_impl_LessI r1.1.z r7) fun r8 => (bif (r8.val == 1) then ((⟨(⟨(c64 0), (c64 0)⟩ : Iv), (⟨(c64 0), (c64 0)⟩ : Iv)⟩ : Pn), (c64 8)) else bindP (F_impl_forwardFactor a0.kind r1.1) fun r9 => bindP (F_impl_MulI r9 r1.1.x) fun r10 => bindP (F_impl_MulI r9 r1.1.y) fun r11 => bindP (F_impl_planar r10 r11) fun r12 => (r12.1, r12.2)) else bindP (F_impl_forwardFactor a0.kind r1.1) fun r13 => bindP (F_impl_MulI r13 r1.1.x) fun r14 => bindP (F_impl_MulI r13 r1.1.y) fun r15 => bindP (F_impl_planar r14 r15) fun r16 => (r16.1, r16.2))) else (bif (a0.kind.val == 7) then bindP (F_impl_Integer (c64 0)) fun r17 => bindP (F_impl_LessI r1.1.z r17) fun r18 => (bif (r18.val == 1) then ((⟨(⟨(c64 0), (c64 0)⟩ : Iv), (⟨(c64 0), (c64 0)⟩ : Iv)⟩ : Pn), (c64 8)) else bindP (F_impl_forwardFactor a0.kind r1.1) fun r19 => bindP (F_impl_MulI r19 r1.1.x) fun r20 => bindP (F_impl_MulI r19 r1.1.y) fun r21 => bindP (F_impl_planar r20 r21) fun r22 => (r22.1, r22.2)) else bindP (F_impl_forwardFactor a0.kind r1.1) fun r23 => bindP (F_impl_MulI r23 r1.1.x) fun r24 => bindP (F_impl_MulI r23 r1.1.y) fun r25 => bindP (F_impl_planar r24 r25) fun r26 => (r26.1, r26.2)))))

def F_impl_HalfI (a0 : Iv) : Iv :=
  bindP (F_impl_IsWhole a0) fun r1 => (bif r1 then bindP (F_impl_Whole) fun r2 => r2 else (⟨(ishr a0.lo 1), (ishr (w64 (a0.hi.val + 1)) 1)⟩ : Iv))

def F_impl_isometricSphere (a0 : Iv) : Iv :=
  bindP (F_impl_TanI a0) fun r1 => bindP (F_impl_AsinhI r1) fun r2 => r2

def F_impl_conic_cone__pCn (b0 : Cn) : Iv :=
  (bif (b0.p.kind.val == 10) then bindP (F_impl_SinI b0.a) fun r1 => bindP (F_impl_SinI b0.b) fun r2 => bindP (F_impl_AddI r1 r2) fun r3 => bindP (F_impl_HalfI r3) fun r4 => r4 else (bif (b0.p.lat1.val == b0.p.lat2.val) then bindP (F_impl_SinI b0.a) fun r5 => r5 else (bif (b0.p.kind.val == 11) then bindP (F_impl_CosI b0.a) fun r6 => bindP (F_impl_LogI r6) fun r7 => bindP (F_impl_CosI b0.b) fun r8 => bindP (F_impl_LogI r8) fun r9 => bindP (F_impl_SubI r7 r9) fun r10 => bindP (F_impl_isometricSphere b0.b) fun r11 => bindP (F_impl_isometricSphere b0.a) fun r12 => bindP (F_impl_SubI r11 r12) fun r13 => bindP (F_impl_DivI r10 r13) fun r14 => r14 else bindP (F_impl_CosI b0.a) fun r15 => bindP (F_impl_CosI b0.b) fun r16 => bindP (F_impl_SubI r15 r16) fun r17 => bindP (F_impl_SubI b0.b b0.a) fun r18 => bindP (F_impl_DivI r17 r18) fun r19 => r19)))

def F_impl_times (a0 : I64) (a1 : Iv) : Iv :=
  bindP (F_impl_Integer a0) fun r1 => bindP (F_impl_MulI r1 a1) fun r2 => r2

def F_impl_scaled_L0 : Nat → I64 → Iv → Iv
  | 0, _, _ => (⟨(c64 0), (c64 0)⟩ : Iv)
  | fu + 1, x_k, y_0 => (bif (decide (x_k.val > 0)) then bindP (F_impl_DoubleI y_0) fun r2 => F_impl_scaled_L0 fu (w64 (x_k.val - 1)) r2 else bindP (F_impl_IsWhole y_0) fun r3 => (bif r3 then bindP (F_impl_Whole) fun r5 => r5 else (⟨(ishr y_0.lo (w64 (0 - x_k.val)).val), (w64 (0 - (ishr (w64 (0 - y_0.hi.val)) (w64 (0 - x_k.val)).val).val))⟩ : Iv)))

def F_impl_scaled (a0 : Iv) (a1 : I64) : Iv :=
  F_impl_scaled_L0 (a1.val.toNat + 1) a1 a0

def F_impl_ExpAt (a0 : I64) : Iv :=
  bindP (F_impl_ValidFix a0) fun r1 => (bif (!r1) then bindP (F_impl_Whole) fun r3 => r3 else (bif (decide (a0.val > 85899345920)) then bindP (F_impl_Whole) fun r5 => r5 else (bif (decide (a0.val < (-98784247808))) then (⟨(c64 0), (c64 1)⟩ : Iv) else (bif (decide ((w64 ((w64 ((w64 (Int.tdiv (w64 ((w64 (2 * a0.val)).val + 2977044472)).val 5954088944)).val * 2)).val * 2977044472)).val > (w64 ((w64 (2 * a0.val)).val + 2977044472)).val)) then bindP (F_impl_at a0) fun r8 => bindP (F_impl_LogTwoI (w64 ((w64 (Int.tdiv (w64 ((w64 (2 * a0.val)).val + 2977044472)).val 5954088944)).val - 1))) fun r9 => bindP (F_impl_SubI r8 r9) fun r10 => bindP (F_impl_Integer (c64 1)) fun r11 => bindP (F_impl_Integer (c64 1)) fun r12 => bindP (F_impl_MulI r10 r11) fun r13 => bindP (F_impl_Integer (c64 9)) fun r14 => bindP (F_impl_DivI r13 r14) fun r15 => bindP (F_impl_AddI r12 r15) fun r16 => bindP (F_impl_Integer (c64 1)) fun r17 => bindP (F_impl_MulI r10 r16) fun r18 => bindP (F_impl_Integer (c64 8)) fun r19 => bindP (F_impl_DivI r18 r19) fun r20 => bindP (F_impl_AddI r17 r20) fun r21 => bindP (F_impl_Integer (c64 1)) fun r22 => bindP (F_impl_MulI r10 r21) fun r23 => bindP (F_impl_Integer (c64 7)) fun r24 => bindP (F_impl_DivI r23 r24) fun r25 => bindP (F_impl_AddI r22 r25) fun r26 => bindP (F_impl_Integer (c64 1)) fun r27 => bindP (F_impl_MulI r10 r26) fun r28 => bindP (F_impl_Integer (c64 6)) fun r29 => bindP (F_impl_DivI r28 r29) fun r30 => bindP (F_impl_AddI r27 r30) fun r31 => bindP (F_impl_Integer (c64 1)) fun r32 => bindP (F_impl_MulI r10 r31) fun r33 => bindP (F_impl_Integer (c64 5)) fun r34 => bindP (F_impl_DivI r33 r34) fun r35 => bindP (F_impl_AddI r32 r35) fun r36 => bindP (F_impl_Integer (c64 1)) fun r37 => bindP (F_impl_MulI r10 r36) fun r38 => bindP (F_impl_Integer (c64 4)) fun r39 => bindP (F_impl_DivI r38 r39) fun r40 => bindP (F_impl_AddI r37 r40) fun r41 => bindP (F_impl_Integer (c64 1)) fun r42 => bindP (F_impl_MulI r10 r41) fun r43 => bindP (F_impl_Integer (c64 3)) fun r44 => bindP (F_impl_DivI r43 r44) fun r45 => bindP (F_impl_AddI r42 r45) fun r46 => bindP (F_impl_Integer (c64 1)) fun r47 => bindP (F_impl_MulI r10 r46) fun r48 => bindP (F_impl_Integer (c64 2)) fun r49 => bindP (F_impl_DivI r48 r49) fun r50 => bindP (F_impl_AddI r47 r50) fun r51 => bindP (F_impl_Integer (c64 1)) fun r52 => bindP (F_impl_MulI r10 r51) fun r53 => bindP (F_impl_Integer (c64 1)) fun r54 => bindP (F_impl_DivI r53 r54) fun r55 => bindP (F_impl_AddI r52 r55) fun r56 => bindP (F_impl_widened r56 (c64 1)) fun r57 => bindP (F_impl_scaled r57 (w64 ((w64 (Int.tdiv (w64 ((w64 (2 * a0.val)).val + 2977044472)).val 5954088944)).val - 1))) fun r58 => r58 else bindP (F_impl_at a0) fun r59 => bindP (F_impl_LogTwoI (w64 (Int.tdiv (w64 ((w64 (2 * a0.val)).val + 2977044472)).val 5954088944))) fun r60 => bindP (F_impl_SubI r59 r60) fun r61 => bindP (F_impl_Integer (c64 1)) fun r62 => bindP (F_impl_Integer (c64 1)) fun r63 => bindP (F_impl_MulI r61 r62) fun r64 => bindP (F_impl_Integer (c64 9)) fun r65 => bindP (F_impl_DivI r64 r65) fun r66 => bindP (F_impl_AddI r63 r66) fun r67 => bindP (F_impl_Integer (c64 1)) fun r68 => bindP (F_impl_MulI r61 r67) fun r69 => bindP (F_impl_Integer (c64 8)) fun r70 => bindP (F_impl_DivI r69 r70) fun r71 => bindP (F_impl_AddI r68 r71) fun r72 => bindP (F_impl_Integer (c64 1)) fun r73 => bindP (F_impl_MulI r61 r72) fun r74 => bindP (F_impl_Integer (c64 7)) fun r75 => bindP (F_impl_DivI r74 r75) fun r76 => bindP (F_impl_AddI r73 r76) fun r77 => bindP (F_impl_Integer (c64 1)) fun r78 => bindP (F_impl_MulI r61 r77) fun r79 => bindP (F_impl_Integer (c64 6)) fun r80 => bindP (F_impl_DivI r79 r80) fun r81 => bindP (F_impl_AddI r78 r81) fun r82 => bindP (F_impl_Integer (c64 1)) fun r83 => bindP (F_impl_MulI r61 r82) fun r84 => bindP (F_impl_Integer (c64 5)) fun r85 => bindP (F_impl_DivI r84 r85) fun r86 => bindP (F_impl_AddI r83 r86) fun r87 => bindP (F_impl_Integer (c64 1)) fun r88 => bindP (F_impl_MulI r61 r87) fun r89 => bindP (F_impl_Integer (c64 4)) fun r90 => bindP (F_impl_DivI r89 r90) fun r91 => bindP (F_impl_AddI r88 r91) fun r92 => bindP (F_impl_Integer (c64 1)) fun r93 => bindP (F_impl_MulI r61 r92) fun r94 => bindP (F_impl_Integer (c64 3)) fun r95 => bindP (F_impl_DivI r94 r95) fun r96 => bindP (F_impl_AddI r93 r96) fun r97 => bindP (F_impl_Integer (c64 1)) fun r98 => bindP (F_impl_MulI r61 r97) fun r99 => bindP (F_impl_Integer (c64 2)) fun r100 => bindP (F_impl_DivI r99 r100) fun r101 => bindP (F_impl_AddI r98 r101) fun r102 => bindP (F_impl_Integer (c64 1)) fun r103 => bindP (F_impl_MulI r61 r102) fun r104 => bindP (F_impl_Integer (c64 1)) fun r105 => bindP (F_impl_DivI r104 r105) fun r106 => bindP (F_impl_AddI r103 r106) fun r107 => bindP (F_impl_widened r107 (c64 1)) fun r108 => bindP (F_impl_scaled r108 (w64 (Int.tdiv (w64 ((w64 (2 * a0.val)).val + 2977044472)).val 5954088944))) fun r109 => r109))))

def F_impl_monotonic__impl_ExpAt (a0 : Iv) : Iv :=
  bindP (F_impl_IsWhole a0) fun r1 => (bif r1 then bindP (F_impl_Whole) fun r2 => r2 else bindP (F_impl_ExpAt a0.lo) fun r3 => bindP (F_impl_ExpAt a0.hi) fun r4 => bindP (F_impl_areBounded r3 r4) fun r5 => (bif (!r5) then bindP (F_impl_Whole) fun r6 => r6 else bindP (F_impl_bounded r3.lo r4.hi true) fun r7 => r7))

def F_impl_ExpI (a0 : Iv) : Iv :=
  bindP (F_impl_monotonic__impl_ExpAt a0) fun r1 => r1

def F_impl_conic_constant__pCn (b0 : Cn) : Iv :=
  (bif (b0.p.kind.val == 10) then bindP (F_impl_CosI b0.a) fun r1 => bindP (F_impl_SqrI r1) fun r2 => bindP (F_impl_times (c64 2) b0.n) fun r3 => bindP (F_impl_SinI b0.a) fun r4 => bindP (F_impl_MulI r3 r4) fun r5 => bindP (F_impl_AddI r2 r5) fun r6 => r6 else (bif (b0.p.kind.val == 11) then bindP (F_impl_CosI b0.a) fun r7 => bindP (F_impl_isometricSphere b0.a) fun r8 => bindP (F_impl_MulI b0.n r8) fun r9 => bindP (F_impl_ExpI r9) fun r10 => bindP (F_impl_MulI r7 r10) fun r11 => bindP (F_impl_DivI r11 b0.n) fun r12 => r12 else bindP (F_impl_CosI b0.a) fun r13 => bindP (F_impl_DivI r13 b0.n) fun r14 => bindP (F_impl_AddI r14 b0.a) fun r15 => r15))

def F_impl_newConic (a0 : Pj) : Cn × I64 :=
  bindP (F_impl_ValidProjection a0) fun r1 => (bif (!r1) then ((⟨(⟨(c64 0), (c64 0), (c64 0), (c64 0), (c64 0)⟩ : Pj), (⟨(c64 0), (c64 0)⟩ : Iv), (⟨(c64 0), (c64 0)⟩ : Iv), (⟨(c64 0), (c64 0)⟩ : Iv), (⟨(c64 0), (c64 0)⟩ : Iv), (⟨(c64 0), (c64 0)⟩ : Iv)⟩ : Cn), (c64 1)) else bindP (F_impl_isConic a0.kind) fun r3 => (bif (!r3) then ((⟨(⟨(c64 0), (c64 0), (c64 0), (c64 0), (c64 0)⟩ : Pj), (⟨(c64 0), (c64 0)⟩ : Iv), (⟨(c64 0), (c64 0)⟩ : Iv), (⟨(c64 0), (c64 0)⟩ : Iv), (⟨(c64 0), (c64 0)⟩ : Iv), (⟨(c64 0), (c64 0)⟩ : Iv)⟩ : Cn), (c64 1)) else bindP (F_impl_RadiansOf a0.lat1) fun r5 => bindP (F_impl_RadiansOf a0.lat2) fun r6 => bindP (F_impl_RadiansOf a0.lat0) fun r7 => bindP (F_impl_conic_cone__pCn (⟨a0, r5, r6, r7, (⟨(c64 0), (c64 0)⟩ : Iv), (⟨(c64 0), (c64 0)⟩ : Iv)⟩ : Cn)) fun r8 => bindP (F_impl_conic_constant__pCn (⟨a0, r5, r6, r7, r8, (⟨(c64 0), (c64 0)⟩ : Iv)⟩ : Cn)) fun r9 => ((⟨a0, r5, r6, r7, r8, r9⟩ : Cn), (c64 0))))

def F_impl_conic_radius__pCn (b0 : Cn) (a0 : Iv) : Iv :=
  (bif (b0.p.kind.val == 10) then bindP (F_impl_times (c64 2) b0.n) fun r1 => bindP (F_impl_SinI a0) fun r2 => bindP (F_impl_MulI r1 r2) fun r3 => bindP (F_impl_SubI b0.g r3) fun r4 => bindP (F_impl_SqrtI r4) fun r5 => bindP (F_impl_DivI r5 b0.n) fun r6 => r6 else (bif (b0.p.kind.val == 11) then bindP (F_impl_isometricSphere a0) fun r7 => bindP (F_impl_MulI b0.n r7) fun r8 => bindP (F_impl_NegI r8) fun r9 => bindP (F_impl_ExpI r9) fun r10 => bindP (F_impl_MulI b0.g r10) fun r11 => r11 else bindP (F_impl_SubI b0.g a0) fun r12 => r12))

def F_impl_ConicForward (a0 : Pj) (a1 : Pt) : Pn × I64 :=
  bindP (F_impl_newConic a0) fun r1 => (bif (r1.2.val != 0) then ((⟨(⟨(c64 0), (c64 0)⟩ : Iv), (⟨(c64 0), (c64 0)⟩ : Iv)⟩ : Pn), (c64 1)) else bindP (F_impl_ValidPoint a1) fun r2 => (bif (!r2) then ((⟨(⟨(c64 0), (c64 0)⟩ : Iv), (⟨(c64 0), (c64 0)⟩ : Iv)⟩ : Pn), (c64 1)) else bindP (F_impl_isPole a1) fun r4 => (bif r4 then (bif (a0.kind.val == 11) then ((⟨(⟨(c64 0), (c64 0)⟩ : Iv), (⟨(c64 0), (c64 0)⟩ : Iv)⟩ : Pn), (c64 8)) else bindP (F_impl_LatOf a1) fun r7 => bindP (F_impl_conic_radius__pCn r1.1 r7) fun r8 => bindP (F_impl_LonFrom a0 a1) fun r9 => bindP (F_impl_MulI r1.1.n r9) fun r10 => bindP (F_impl_SinI r10) fun r11 => bindP (F_impl_MulI r8 r11) fun r12 => bindP (F_impl_conic_radius__pCn r1.1 r1.1.o) fun r13 => bindP (F_impl_CosI r10) fun r14 => bindP (F_impl_MulI r8 r14) fun r15 => bindP (F_impl_SubI r13 r15) fun r16 => bindP (F_impl_planar r12 r16) fun r17 => (r17.1, r17.2)) else bindP (F_impl_LatOf a1) fun r18 => bindP (F_impl_conic_radius__pCn r1.1 r18) fun r19 => bindP (F_impl_LonFrom a0 a1) fun r20 => bindP (F_impl_MulI r1.1.n r20) fun r21 => bindP (F_impl_SinI r21) fun r22 => bindP (F_impl_MulI r19 r22) fun r23 => bindP (F_impl_conic_radius__pCn r1.1 r1.1.o) fun r24 => bindP (F_impl_CosI r21) fun r25 => bindP (F_impl_MulI r19 r25) fun r26 => bindP (F_impl_SubI r24 r26) fun r27 => bindP (F_impl_planar r23 r27) fun r28 => (r28.1, r28.2))))

def F_impl_isPseudoOne (a0 : Pj) : Bool :=
  bindP (F_impl_ValidProjection a0) fun r1 => (bif r1 then bindP (F_impl_isPseudo a0.kind) fun r2 => r2 else false)

def F_impl_PiI : Iv :=
  bindP (F_impl_TurnI (c64 2)) fun r1 => r1

def F_impl_leftFactor (a0 : I64) : Iv :=
  (bif (a0.val == 14) then bindP (F_impl_PiI) fun r1 => r1 else bindP (F_impl_Integer (c64 1)) fun r2 => bindP (F_impl_TurnI (c64 1)) fun r3 => bindP (F_impl_AddI r2 r3) fun r4 => r4)

def F_impl_quarter : I64 :=
  bindP (F_impl_TurnI (c64 1)) fun r1 => r1.hi

def F_impl_leftSide (a0 : I64) (a1 : I64) : Iv :=
  bindP (F_impl_at a1) fun r1 => (bif (a0.val == 14) then bindP (F_impl_at (w64 (2 * a1.val))) fun r2 => bindP (F_impl_SinI r2) fun r3 => bindP (F_impl_AddI r2 r3) fun r4 => r4 else bindP (F_impl_SinI r1) fun r5 => bindP (F_impl_AddI r1 r5) fun r6 => r6)

def F_impl_parameterAt_L1 : Nat → I64 → I64 → I64 → I64 → I64 → Iv
  | 0, _, _, _, _, _ => (⟨(c64 0), (c64 0)⟩ : Iv)
  | fu + 1, a0, a1, x_low, x_lowq, x_high => (bif (decide ((w64 (x_high.val - x_lowq.val)).val > 1)) then bindP (F_impl_leftSide a0 (ishr (w64 (x_lowq.val + x_high.val)) 1)) fun r13 => (bif (decide (r13.lo.val > a1.val)) then F_impl_parameterAt_L1 fu a0 a1 x_low x_lowq (ishr (w64 (x_lowq.val + x_high.val)) 1) else F_impl_parameterAt_L1 fu a0 a1 x_low (ishr (w64 (x_lowq.val + x_high.val)) 1) x_high) else (⟨x_low, x_high⟩ : Iv))

def F_impl_parameterAt_L0 : Nat → I64 → I64 → I64 → I64 → Iv
  | 0, _, _, _, _ => (⟨(c64 0), (c64 0)⟩ : Iv)
  | fu + 1, a0, a1, x_low, x_high => (bif (decide ((w64 (x_high.val - x_low.val)).val > 1)) then bindP (F_impl_leftSide a0 (ishr (w64 (x_low.val + x_high.val)) 1)) fun r9 => (bif (decide (r9.hi.val < a1.val)) then F_impl_parameterAt_L0 fu a0 a1 (ishr (w64 (x_low.val + x_high.val)) 1) x_high else F_impl_parameterAt_L0 fu a0 a1 x_low (ishr (w64 (x_low.val + x_high.val)) 1)) else bindP (F_impl_quarter) fun r11 => F_impl_parameterAt_L1 ((r11.val - x_low.val).toNat + 1) a0 a1 x_low x_low r11)

def F_impl_parameterAt_r : Nat → I64 → I64 → Iv
  | 0, _, _ => (⟨(c64 0), (c64 0)⟩ : Iv)
  | fu + 1, a0, a1 => bindP (F_impl_ValidFix a1) fun r1 => (bif (!r1) then bindP (F_impl_halfCircle) fun r3 => r3 else (bif (decide (a1.val < 0)) then bindP (F_impl_parameterAt_r fu a0 (w64 (0 - a1.val))) fun r5 => bindP (F_impl_NegI r5) fun r6 => r6 else bindP (F_impl_quarter) fun r7 => F_impl_parameterAt_L0 ((r7.val - (c64 0).val).toNat + 1) a0 a1 (c64 0) r7))
def F_impl_parameterAt (a0 : I64) (a1 : I64) : Iv := F_impl_parameterAt_r 2 a0 a1

def F_impl_ThetaOf (a0 : I64) (a1 : Iv) : Iv :=
  bindP (F_impl_isPseudo a0) fun r1 => (bif (!r1) then bindP (F_impl_Whole) fun r2 => r2 else (bif (a0.val == 13) then a1 else bindP (F_impl_leftFactor a0) fun r3 => bindP (F_impl_SinI a1) fun r4 => bindP (F_impl_MulI r3 r4) fun r5 => bindP (F_impl_parameterAt a0 r5.lo) fun r6 => bindP (F_impl_parameterAt a0 r5.hi) fun r7 => bindP (F_impl_HullI r6 r7) fun r8 => r8))

def F_impl_pseudoRadius (a0 : I64) : Iv :=
  (bif (a0.val == 14) then bindP (F_impl_Integer (c64 2)) fun r1 => bindP (F_impl_SqrtI r1) fun r2 => r2 else bindP (F_impl_Integer (c64 2)) fun r3 => bindP (F_impl_PiI) fun r4 => bindP (F_impl_AddI r3 r4) fun r5 => bindP (F_impl_SqrtI r5) fun r6 => r6)

def F_impl_parallelLength (a0 : I64) (a1 : Iv) : Iv :=
  bindP (F_impl_pseudoRadius a0) fun r1 => (bif (a0.val == 13) then bindP (F_impl_CosI a1) fun r2 => r2 else (bif (a0.val == 14) then bindP (F_impl_times (c64 2) r1) fun r3 => bindP (F_impl_CosI a1) fun r4 => bindP (F_impl_MulI r3 r4) fun r5 => bindP (F_impl_PiI) fun r6 => bindP (F_impl_DivI r5 r6) fun r7 => r7 else bindP (F_impl_Integer (c64 1)) fun r8 => bindP (F_impl_CosI a1) fun r9 => bindP (F_impl_AddI r8 r9) fun r10 => bindP (F_impl_DivI r10 r1) fun r11 => r11))

def F_impl_parallelHeight (a0 : I64) (a1 : Iv) : Iv :=
  bindP (F_impl_pseudoRadius a0) fun r1 => (bif (a0.val == 13) then a1 else (bif (a0.val == 14) then bindP (F_impl_SinI a1) fun r2 => bindP (F_impl_MulI r1 r2) fun r3 => r3 else bindP (F_impl_times (c64 2) a1) fun r4 => bindP (F_impl_DivI r4 r1) fun r5 => r5))

def F_impl_ParallelOf (a0 : I64) (a1 : Iv) : Iv × Iv :=
  bindP (F_impl_isPseudo a0) fun r1 => (bif (!r1) then bindP (F_impl_Whole) fun r2 => bindP (F_impl_Whole) fun r3 => (r2, r3) else bindP (F_impl_ThetaOf a0 a1) fun r4 => bindP (F_impl_parallelLength a0 r4) fun r5 => bindP (F_impl_parallelHeight a0 r4) fun r6 => (r5, r6))

def F_impl_PseudoForward (a0 : Pj) (a1 : Pt) : Pn × I64 :=
  bindP (F_impl_isPseudoOne a0) fun r1 => (bif (!r1) then ((⟨(⟨(c64 0), (c64 0)⟩ : Iv), (⟨(c64 0), (c64 0)⟩ : Iv)⟩ : Pn), (c64 1)) else bindP (F_impl_ValidPoint a1) fun r2 => (bif (!r2) then ((⟨(⟨(c64 0), (c64 0)⟩ : Iv), (⟨(c64 0), (c64 0)⟩ : Iv)⟩ : Pn), (c64 1)) else bindP (F_impl_LatOf a1) fun r3 => bindP (F_impl_ParallelOf a0.kind r3) fun r4 => bindP (F_impl_LonFrom a0 a1) fun r5 => bindP (F_impl_MulI r5 r4.1) fun r6 => bindP (F_impl_planar r6 r4.2) fun r7 => (r7.1, r7.2)))

def F_impl_isTransverse (a0 : Pj) : Bool :=
  bindP (F_impl_ValidProjection a0) fun r1 => (bif r1 then (a0.kind.val == 16) else false)

def F_impl_transverse (a0 : Pj) (a1 : Pt) : Iv × Iv × Iv × I64 :=
  bindP (F_impl_isTransverse a0) fun r1 => (bif (!r1) then ((⟨(c64 0), (c64 0)⟩ : Iv), (⟨(c64 0), (c64 0)⟩ : Iv), (⟨(c64 0), (c64 0)⟩ : Iv), (c64 1)) else bindP (F_impl_ValidPoint a1) fun r2 => (bif (!r2) then ((⟨(c64 0), (c64 0)⟩ : Iv), (⟨(c64 0), (c64 0)⟩ : Iv), (⟨(c64 0), (c64 0)⟩ : Iv), (c64 1)) else (bif (a1.lat.val == 0) then bindP (F_impl_WrapLon (w64 (a1.lon.val - a0.lon0.val))) fun r3 => bindP (F_impl_abs r3) fun r4 => (bif (r4.val == 900000000) then ((⟨(c64 0), (c64 0)⟩ : Iv), (⟨(c64 0), (c64 0)⟩ : Iv), (⟨(c64 0), (c64 0)⟩ : Iv), (c64 8)) else bindP (F_impl_LatOf a1) fun r5 => bindP (F_impl_LonFrom a0 a1) fun r6 => bindP (F_impl_CosI r5) fun r7 => bindP (F_impl_SinI r6) fun r8 => bindP (F_impl_MulI r7 r8) fun r9 => (r5, r6, r9, (c64 0))) else bindP (F_impl_LatOf a1) fun r10 => bindP (F_impl_LonFrom a0 a1) fun r11 => bindP (F_impl_CosI r10) fun r12 => bindP (F_impl_SinI r11) fun r13 => bindP (F_impl_MulI r12 r13) fun r14 => (r10, r11, r14, (c64 0)))))

def F_impl_AtanhI_1 (a0 : I64) : Iv :=
  (bif (decide (a0.val ≥ 4294967296)) then bindP (F_impl_Whole) fun r1 => r1 else bindP (F_impl_at (w64 (4294967296 + a0.val))) fun r2 => bindP (F_impl_at (w64 (4294967296 - a0.val))) fun r3 => bindP (F_impl_DivI r2 r3) fun r4 => bindP (F_impl_LogI r4) fun r5 => bindP (F_impl_HalfI r5) fun r6 => r6)

end Go.Proofs.YtbpkpmmmeneagaaGreat.Abs
