/- The functions, on numbers; part 4 (written by w.py). -/
import Derived.Test.YtjbdilphncpceaaGreatF3
set_option linter.unusedVariables false
set_option linter.unusedSimpArgs false
namespace Go.Proofs.YtjbdilphncpceaaGreat.Abs
open Go Go.RowKit

def F_impl_WideSqrt_L0 : Nat → Wd → U64 → I64 → U64 × Bool
  | 0, _, _, _ => ((cu64 0), false)
  | fu + 1, a0, x_root, x_i => (bif (decide (x_i.val ≥ 0)) then bindP (F_bits_Mul64 (ior .u64 x_root.val (ishl .u64 1 x_i.val).val) (ior .u64 x_root.val (ishl .u64 1 x_i.val).val)) fun r3 => (bif (decide (r3.1.val < (wu64 a0.hi.val).val)) then F_impl_WideSqrt_L0 fu a0 (ior .u64 x_root.val (ishl .u64 1 x_i.val).val) (w64 (x_i.val - 1)) else (bif (r3.1.val == (wu64 a0.hi.val).val) then (bif (decide (r3.2.val ≤ a0.lo.val)) then F_impl_WideSqrt_L0 fu a0 (ior .u64 x_root.val (ishl .u64 1 x_i.val).val) (w64 (x_i.val - 1)) else F_impl_WideSqrt_L0 fu a0 x_root (w64 (x_i.val - 1))) else F_impl_WideSqrt_L0 fu a0 x_root (w64 (x_i.val - 1)))) else (x_root, true))

def F_impl_WideSqrt (a0 : Wd) : U64 × Bool :=
  (bif (decide (a0.hi.val < 0)) then ((cu64 0), false) else F_impl_WideSqrt_L0 65 a0 (cu64 0) (c64 63))

def F_impl_SqrtFloor (a0 : I64) (a1 : I64) : I64 × Bool :=
  (bif (decide (a0.val < 0)) then ((c64 0), false) else (bif (decide (a1.val < 0)) then ((c64 0), false) else bindP (F_impl_WideMul a0 a1) fun r1 => bindP (F_impl_WideSqrt r1) fun r2 => ((w64 r2.1.val), r2.2)))

def F_impl_SqrtDown (a0 : I64) : I64 × Bool :=
  bindP (F_impl_ValidFix a0) fun r1 => (bif (!r1) then ((c64 0), false) else bindP (F_impl_SqrtFloor a0 (c64 4294967296)) fun r2 => bindP (F_impl_fixed r2.1 r2.2) fun r3 => (r3.1, r3.2))

def F_impl_SqrtUp (a0 : I64) : I64 × Bool :=
  bindP (F_impl_SqrtDown a0) fun r1 => (bif r1.2 then bindP (F_impl_WideMul r1.1 r1.1) fun r2 => bindP (F_impl_WideMul a0 (c64 4294967296)) fun r3 => (bif (!((r2.hi.val == r3.hi.val) && (r2.lo.val == r3.lo.val))) then bindP (F_impl_fixed (w64 (r1.1.val + 1)) r1.2) fun r4 => (r4.1, r4.2) else bindP (F_impl_fixed r1.1 r1.2) fun r5 => (r5.1, r5.2)) else bindP (F_impl_fixed r1.1 r1.2) fun r6 => (r6.1, r6.2))

def F_impl_SqrtI (a0 : Iv) : Iv :=
  bindP (F_impl_IsWhole a0) fun r1 => (bif r1 then bindP (F_impl_Whole) fun r2 => r2 else (bif (decide (a0.lo.val < 0)) then bindP (F_impl_Whole) fun r3 => r3 else bindP (F_impl_SqrtDown a0.lo) fun r4 => bindP (F_impl_SqrtUp a0.hi) fun r5 => (bif r4.2 then bindP (F_impl_bounded r4.1 r5.1 r5.2) fun r6 => r6 else bindP (F_impl_bounded r4.1 r5.1 false) fun r7 => r7)))

def F_impl_halved (a0 : Iv) : Iv :=
  bindP (F_impl_Integer (c64 1)) fun r1 => bindP (F_impl_Integer (c64 1)) fun r2 => bindP (F_impl_SqrI a0) fun r3 => bindP (F_impl_AddI r2 r3) fun r4 => bindP (F_impl_SqrtI r4) fun r5 => bindP (F_impl_AddI r1 r5) fun r6 => bindP (F_impl_DivI a0 r6) fun r7 => r7

def F_impl_FixFloor (a0 : I64) (a1 : I64) : I64 × Bool :=
  bindP (F_impl_MulDivFloor a0 (c64 4294967296) a1) fun r1 => bindP (F_impl_fixed r1.1 r1.2) fun r2 => (r2.1, r2.2)

def F_impl_mulDivCeil (a0 : I64) (a1 : I64) (a2 : I64) : I64 × Bool :=
  bindP (F_impl_WideMul a0 a1) fun r1 => bindP (F_impl_WideDiv r1 a2) fun r2 => (bif (!r2.2.2) then ((c64 0), false) else bindP (F_impl_WideInt r2.1) fun r3 => (bif (!r3.2) then ((c64 0), false) else (bif (decide (r2.2.1.val > 0)) then (bif (r3.1.val == 9223372036854775807) then ((c64 0), false) else (bif (decide (r2.2.1.val > 0)) then ((w64 (r3.1.val + 1)), true) else (r3.1, true))) else (bif (decide (r2.2.1.val > 0)) then ((w64 (r3.1.val + 1)), true) else (r3.1, true)))))

def F_impl_FixCeil (a0 : I64) (a1 : I64) : I64 × Bool :=
  bindP (F_impl_mulDivCeil a0 (c64 4294967296) a1) fun r1 => bindP (F_impl_fixed r1.1 r1.2) fun r2 => (r2.1, r2.2)

def F_impl_Quotient (a0 : I64) (a1 : I64) : Iv :=
  (bif (decide (a1.val < 0)) then (bif (decide ((w64 (0 - a1.val)).val < 0)) then bindP (F_impl_Whole) fun r1 => r1 else (bif ((w64 (0 - a0.val)).val == (-9223372036854775808)) then bindP (F_impl_Whole) fun r2 => r2 else bindP (F_impl_FixFloor (w64 (0 - a0.val)) (w64 (0 - a1.val))) fun r3 => bindP (F_impl_FixCeil (w64 (0 - a0.val)) (w64 (0 - a1.val))) fun r4 => (bif r3.2 then bindP (F_impl_bounded r3.1 r4.1 r4.2) fun r5 => r5 else bindP (F_impl_bounded r3.1 r4.1 false) fun r6 => r6))) else bindP (F_impl_FixFloor a0 a1) fun r7 => bindP (F_impl_FixCeil a0 a1) fun r8 => (bif r7.2 then bindP (F_impl_bounded r7.1 r8.1 r8.2) fun r9 => r9 else bindP (F_impl_bounded r7.1 r8.1 false) fun r10 => r10))

def F_impl_ArcSeries (a0 : Iv) : Iv :=
  bindP (F_impl_InsideI a0 (⟨(c64 (-1073741824)), (c64 1073741824)⟩ : Iv)) fun r1 => (bif (!r1) then bindP (F_impl_Whole) fun r2 => r2 else bindP (F_impl_SqrI a0) fun r3 => bindP (F_impl_Quotient (c64 1) (c64 21)) fun r4 => bindP (F_impl_Quotient (c64 1) (c64 19)) fun r5 => bindP (F_impl_MulI r3 r4) fun r6 => bindP (F_impl_SubI r5 r6) fun r7 => bindP (F_impl_Quotient (c64 1) (c64 17)) fun r8 => bindP (F_impl_MulI r3 r7) fun r9 => bindP (F_impl_SubI r8 r9) fun r10 => bindP (F_impl_Quotient (c64 1) (c64 15)) fun r11 => bindP (F_impl_MulI r3 r10) fun r12 => bindP (F_impl_SubI r11 r12) fun r13 => bindP (F_impl_Quotient (c64 1) (c64 13)) fun r14 => bindP (F_impl_MulI r3 r13) fun r15 => bindP (F_impl_SubI r14 r15) fun r16 => bindP (F_impl_Quotient (c64 1) (c64 11)) fun r17 => bindP (F_impl_MulI r3 r16) fun r18 => bindP (F_impl_SubI r17 r18) fun r19 => bindP (F_impl_Quotient (c64 1) (c64 9)) fun r20 => bindP (F_impl_MulI r3 r19) fun r21 => bindP (F_impl_SubI r20 r21) fun r22 => bindP (F_impl_Quotient (c64 1) (c64 7)) fun r23 => bindP (F_impl_MulI r3 r22) fun r24 => bindP (F_impl_SubI r23 r24) fun r25 => bindP (F_impl_Quotient (c64 1) (c64 5)) fun r26 => bindP (F_impl_MulI r3 r25) fun r27 => bindP (F_impl_SubI r26 r27) fun r28 => bindP (F_impl_Quotient (c64 1) (c64 3)) fun r29 => bindP (F_impl_MulI r3 r28) fun r30 => bindP (F_impl_SubI r29 r30) fun r31 => bindP (F_impl_Quotient (c64 1) (c64 1)) fun r32 => bindP (F_impl_MulI r3 r31) fun r33 => bindP (F_impl_SubI r32 r33) fun r34 => bindP (F_impl_MulI a0 r34) fun r35 => bindP (F_impl_tiny) fun r36 => bindP (F_impl_AddI r35 r36) fun r37 => r37)

def F_impl_fourfold (a0 : Iv) : Iv :=
  bindP (F_impl_halved a0) fun r1 => bindP (F_impl_halved r1) fun r2 => bindP (F_impl_ArcSeries r2) fun r3 => bindP (F_impl_DoubleI r3) fun r4 => bindP (F_impl_DoubleI r4) fun r5 => r5

def F_impl_AtanAt_b (self : I64 → Iv) (a0 : I64) : Iv :=
  bindP (F_impl_isOpen a0) fun r1 => (bif (!r1) then bindP (F_impl_halfCircle) fun r3 => r3 else (bif (decide (a0.val < 0)) then bindP (self (w64 (0 - a0.val))) fun r5 => bindP (F_impl_NegI r5) fun r6 => r6 else (bif (decide (a0.val > 4294967296)) then bindP (F_impl_TurnI (c64 1)) fun r8 => bindP (F_impl_Integer (c64 1)) fun r9 => bindP (F_impl_at a0) fun r10 => bindP (F_impl_DivI r9 r10) fun r11 => bindP (F_impl_fourfold r11) fun r12 => bindP (F_impl_SubI r8 r12) fun r13 => r13 else bindP (F_impl_at a0) fun r14 => bindP (F_impl_fourfold r14) fun r15 => r15)))
def F_impl_AtanAt_r : Nat → I64 → Iv
  | 0, _ => (⟨(c64 0), (c64 0)⟩ : Iv)
  | fu + 1, a0 => F_impl_AtanAt_b (F_impl_AtanAt_r fu) a0
def F_impl_AtanAt (a0 : I64) : Iv := F_impl_AtanAt_r 2 a0

def F_impl_AtanI (a0 : Iv) : Iv :=
  bindP (F_impl_IsWhole a0) fun r1 => (bif r1 then bindP (F_impl_halfCircle) fun r2 => r2 else bindP (F_impl_AtanAt a0.lo) fun r3 => bindP (F_impl_AtanAt a0.hi) fun r4 => bindP (F_impl_HullI r3 r4) fun r5 => r5)

def F_impl_CircleAt (a0 : I64) : Iv :=
  bindP (F_impl_within a0 (c64 (-4294967296)) (c64 4294967296)) fun r1 => (bif (!r1) then bindP (F_impl_Whole) fun r2 => r2 else bindP (F_impl_SqrtFloor (w64 (4294967296 - a0.val)) (w64 (4294967296 + a0.val))) fun r3 => bindP (F_impl_WideMul r3.1 r3.1) fun r4 => bindP (F_impl_WideMul (w64 (4294967296 - a0.val)) (w64 (4294967296 + a0.val))) fun r5 => (bif ((r4.hi.val == r5.hi.val) && (r4.lo.val == r5.lo.val)) then bindP (F_impl_at r3.1) fun r6 => r6 else (⟨r3.1, (w64 (r3.1.val + 1))⟩ : Iv)))

def F_impl_AsinAt (a0 : I64) : Iv :=
  bindP (F_impl_within a0 (c64 (-4294967296)) (c64 4294967296)) fun r1 => (bif (!r1) then bindP (F_impl_Whole) fun r2 => r2 else bindP (F_impl_at a0) fun r3 => bindP (F_impl_Integer (c64 1)) fun r4 => bindP (F_impl_CircleAt a0) fun r5 => bindP (F_impl_AddI r4 r5) fun r6 => bindP (F_impl_DivI r3 r6) fun r7 => bindP (F_impl_AtanI r7) fun r8 => bindP (F_impl_DoubleI r8) fun r9 => bindP (F_impl_halfCircle) fun r10 => bindP (F_impl_MeetI r9 r10) fun r11 => r11.1)

def F_impl_AsinI (a0 : Iv) : Iv :=
  bindP (F_impl_ring) fun r1 => bindP (F_impl_MeetI a0 r1) fun r2 => (bif (!r2.2) then bindP (F_impl_Whole) fun r3 => r3 else bindP (F_impl_AsinAt r2.1.lo) fun r4 => bindP (F_impl_AsinAt r2.1.hi) fun r5 => bindP (F_impl_HullI r4 r5) fun r6 => r6)

def F_impl_CylinderInverse (a0 : Pj) (a1 : Pn) : Iv × Iv × I64 :=
  bindP (F_impl_ValidProjection a0) fun r1 => (bif (!r1) then ((⟨(c64 0), (c64 0)⟩ : Iv), (⟨(c64 0), (c64 0)⟩ : Iv), (c64 1)) else bindP (F_impl_isCylindrical a0.kind) fun r2 => (bif (!r2) then ((⟨(c64 0), (c64 0)⟩ : Iv), (⟨(c64 0), (c64 0)⟩ : Iv), (c64 1)) else bindP (F_impl_RadiansOf a0.lat1) fun r3 => bindP (F_impl_CosI r3) fun r4 => (bif (a0.kind.val == 1) then bindP (F_impl_DivI a1.x r4) fun r5 => bindP (F_impl_onEarth a1.y r5 a0.lon0) fun r6 => (r6.1, r6.2.1, r6.2.2) else (bif (a0.kind.val == 2) then bindP (F_impl_SinhI a1.y) fun r7 => bindP (F_impl_AtanI r7) fun r8 => bindP (F_impl_onEarth r8 a1.x a0.lon0) fun r9 => (r9.1, r9.2.1, r9.2.2) else (bif (a0.kind.val == 3) then bindP (F_impl_MulI a1.y r4) fun r10 => bindP (F_impl_ring) fun r11 => bindP (F_impl_OverlapI r10 r11) fun r12 => (bif (!r12) then ((⟨(c64 0), (c64 0)⟩ : Iv), (⟨(c64 0), (c64 0)⟩ : Iv), (c64 8)) else bindP (F_impl_AsinI r10) fun r13 => bindP (F_impl_DivI a1.x r4) fun r14 => bindP (F_impl_onEarth r13 r14 a0.lon0) fun r15 => (r15.1, r15.2.1, r15.2.2)) else bindP (F_impl_Quotient (c64 5) (c64 4)) fun r16 => bindP (F_impl_Quotient (c64 4) (c64 5)) fun r17 => bindP (F_impl_MulI r17 a1.y) fun r18 => bindP (F_impl_SinhI r18) fun r19 => bindP (F_impl_AtanI r19) fun r20 => bindP (F_impl_MulI r16 r20) fun r21 => bindP (F_impl_onEarth r21 a1.x a0.lon0) fun r22 => (r22.1, r22.2.1, r22.2.2))))))

def F_impl_isAzimuthalOne (a0 : Pj) : Bool :=
  bindP (F_impl_ValidProjection a0) fun r1 => (bif r1 then bindP (F_impl_isAzimuthal a0.kind) fun r2 => r2 else false)

def F_impl_WideAdd (a0 : Wd) (a1 : Wd) : Wd × Bool :=
  (bif (decide ((iand .i64 (ixor .i64 a0.hi.val (w64 (adc_lo (wu64 a0.hi.val) (wu64 a1.hi.val) (adc_hi a0.lo a1.lo (cu64 0))).val).val).val (ixor .i64 a1.hi.val (w64 (adc_lo (wu64 a0.hi.val) (wu64 a1.hi.val) (adc_hi a0.lo a1.lo (cu64 0))).val).val).val).val < 0)) then ((⟨(c64 0), (cu64 0)⟩ : Wd), false) else ((⟨(w64 (adc_lo (wu64 a0.hi.val) (wu64 a1.hi.val) (adc_hi a0.lo a1.lo (cu64 0))).val), (adc_lo a0.lo a1.lo (cu64 0))⟩ : Wd), true))

def F_impl_rootOfSquares (a0 : I64) (a1 : I64) (a2 : I64) : I64 × I64 :=
  bindP (F_impl_WideMul a0 a0) fun r1 => bindP (F_impl_WideMul a1 a1) fun r2 => bindP (F_impl_WideAdd r1 r2) fun r3 => bindP (F_impl_WideMul a2 a2) fun r4 => bindP (F_impl_WideAdd r3.1 r4) fun r5 => bindP (F_impl_WideSqrt r5.1) fun r6 => bindP (F_impl_WideMul (w64 r6.1.val) (w64 r6.1.val)) fun r7 => (bif (!((r7.hi.val == r5.1.hi.val) && (r7.lo.val == r5.1.lo.val))) then ((w64 r6.1.val), (w64 ((w64 r6.1.val).val + 1))) else ((w64 r6.1.val), (w64 r6.1.val)))

def F_impl_NormV (a0 : Vc) : Iv :=
  bindP (F_impl_areBounded a0.x a0.y) fun r1 => (bif (!r1) then bindP (F_impl_Whole) fun r2 => r2 else bindP (F_impl_IsWhole a0.z) fun r3 => (bif r3 then bindP (F_impl_Whole) fun r4 => r4 else bindP (F_impl_AbsI a0.x) fun r5 => bindP (F_impl_AbsI a0.y) fun r6 => bindP (F_impl_AbsI a0.z) fun r7 => bindP (F_impl_rootOfSquares r5.lo r6.lo r7.lo) fun r8 => bindP (F_impl_rootOfSquares r5.hi r6.hi r7.hi) fun r9 => bindP (F_impl_bounded r8.1 r9.2 true) fun r10 => r10))

def F_impl_fromAxis (a0 : Vc) : Iv :=
  bindP (F_impl_NormV (⟨a0.x, a0.y, (⟨(c64 0), (c64 0)⟩ : Iv)⟩ : Vc)) fun r1 => r1

def F_impl_PiI : Iv :=
  bindP (F_impl_TurnI (c64 2)) fun r1 => r1

def F_impl_greatestRadius (a0 : I64) : Iv × Bool :=
  (bif (a0.val == 7) then bindP (F_impl_Integer (c64 1)) fun r1 => (r1, true) else (bif (a0.val == 8) then bindP (F_impl_PiI) fun r2 => (r2, true) else (bif (a0.val == 9) then bindP (F_impl_Integer (c64 2)) fun r3 => (r3, true) else ((⟨(c64 0), (c64 0)⟩ : Iv), false))))

def F_impl_LessI (a0 : Iv) (a1 : Iv) : I64 :=
  bindP (F_impl_areBounded a0 a1) fun r1 => (bif (!r1) then (c64 2) else (bif (decide (a0.hi.val < a1.lo.val)) then (c64 1) else (bif (decide (a0.lo.val ≥ a1.hi.val)) then (c64 0) else (c64 2))))

def F_impl_oneLess (a0 : Iv) : Iv :=
  bindP (F_impl_Integer (c64 1)) fun r1 => bindP (F_impl_SubI r1 a0) fun r2 => r2

def F_impl_MaxI (a0 : Iv) (a1 : Iv) : Iv :=
  bindP (F_impl_areBounded a0 a1) fun r1 => (bif (!r1) then bindP (F_impl_Whole) fun r2 => r2 else (⟨(mx a0.lo a1.lo), (mx a0.hi a1.hi)⟩ : Iv))

def F_impl_isPositive (a0 : Iv) : Bool :=
  bindP (F_impl_ValidInterval a0) fun r1 => (bif r1 then (decide (a0.lo.val > 0)) else false)

def F_impl_SinI (a0 : Iv) : Iv :=
  bindP (F_impl_circleHull a0 (c64 0)) fun r1 => r1

def F_impl_inverseFactors (a0 : I64) (a1 : Iv) : Iv × Iv :=
  bindP (F_impl_SqrI a1) fun r1 => bindP (F_impl_HalfI r1) fun r2 => bindP (F_impl_HalfI r2) fun r3 => (bif (a0.val == 5) then bindP (F_impl_Integer (c64 1)) fun r4 => bindP (F_impl_Integer (c64 1)) fun r5 => bindP (F_impl_AddI r5 r1) fun r6 => bindP (F_impl_SqrtI r6) fun r7 => bindP (F_impl_DivI r4 r7) fun r8 => (r8, r8) else (bif (a0.val == 6) then bindP (F_impl_Integer (c64 1)) fun r9 => bindP (F_impl_Integer (c64 1)) fun r10 => bindP (F_impl_AddI r10 r3) fun r11 => bindP (F_impl_DivI r9 r11) fun r12 => bindP (F_impl_oneLess r3) fun r13 => bindP (F_impl_MulI r13 r12) fun r14 => (r12, r14) else (bif (a0.val == 7) then bindP (F_impl_Integer (c64 1)) fun r15 => bindP (F_impl_Integer (c64 0)) fun r16 => bindP (F_impl_oneLess r1) fun r17 => bindP (F_impl_MaxI r16 r17) fun r18 => bindP (F_impl_SqrtI r18) fun r19 => (r15, r19) else (bif (a0.val == 9) then bindP (F_impl_Integer (c64 0)) fun r20 => bindP (F_impl_oneLess r3) fun r21 => bindP (F_impl_MaxI r20 r21) fun r22 => bindP (F_impl_SqrtI r22) fun r23 => bindP (F_impl_HalfI r1) fun r24 => bindP (F_impl_oneLess r24) fun r25 => (r23, r25) else bindP (F_impl_isPositive a1) fun r26 => (bif r26 then bindP (F_impl_SinI a1) fun r27 => bindP (F_impl_DivI r27 a1) fun r28 => bindP (F_impl_CosI a1) fun r29 => (r28, r29) else bindP (F_impl_CosI a1) fun r30 => bindP (F_impl_Integer (c64 1)) fun r31 => bindP (F_impl_HullI r30 r31) fun r32 => bindP (F_impl_CosI a1) fun r33 => (r32, r33))))))

def F_impl_Projection_centre (a0 : Pj) : Pt :=
  (⟨a0.lat0, a0.lon0⟩ : Pt)

def F_impl_LatOf (a0 : Pt) : Iv :=
  bindP (F_impl_ValidPoint a0) fun r1 => (bif (!r1) then bindP (F_impl_Whole) fun r2 => r2 else bindP (F_impl_RadiansOf a0.lat) fun r3 => r3)

def F_impl_DirectionAt (a0 : I64) (a1 : I64) : Iv :=
  bindP (F_impl_isOpen a0) fun r1 => (bif (!r1) then bindP (F_impl_Whole) fun r2 => r2 else bindP (F_impl_isOpen a1) fun r3 => (bif (!r3) then bindP (F_impl_Whole) fun r4 => r4 else (bif (a0.val == 0) then (bif (a1.val == 0) then bindP (F_impl_Whole) fun r5 => r5 else bindP (F_impl_abs a0) fun r6 => bindP (F_impl_abs a1) fun r7 => (bif (decide (r6.val > r7.val)) then bindP (F_impl_TurnI (c64 1)) fun r8 => (bif (decide (a0.val < 0)) then bindP (F_impl_TurnI (c64 (-1))) fun r9 => bindP (F_impl_at a1) fun r10 => bindP (F_impl_at a0) fun r11 => bindP (F_impl_DivI r10 r11) fun r12 => bindP (F_impl_AtanI r12) fun r13 => bindP (F_impl_SubI r9 r13) fun r14 => r14 else bindP (F_impl_at a1) fun r15 => bindP (F_impl_at a0) fun r16 => bindP (F_impl_DivI r15 r16) fun r17 => bindP (F_impl_AtanI r17) fun r18 => bindP (F_impl_SubI r8 r18) fun r19 => r19) else bindP (F_impl_at a0) fun r20 => bindP (F_impl_at a1) fun r21 => bindP (F_impl_DivI r20 r21) fun r22 => bindP (F_impl_AtanI r22) fun r23 => (bif (decide (a1.val > 0)) then r23 else (bif (decide (a0.val < 0)) then bindP (F_impl_TurnI (c64 (-2))) fun r24 => bindP (F_impl_AddI r23 r24) fun r25 => r25 else bindP (F_impl_TurnI (c64 2)) fun r26 => bindP (F_impl_AddI r23 r26) fun r27 => r27)))) else bindP (F_impl_abs a0) fun r28 => bindP (F_impl_abs a1) fun r29 => (bif (decide (r28.val > r29.val)) then bindP (F_impl_TurnI (c64 1)) fun r30 => (bif (decide (a0.val < 0)) then bindP (F_impl_TurnI (c64 (-1))) fun r31 => bindP (F_impl_at a1) fun r32 => bindP (F_impl_at a0) fun r33 => bindP (F_impl_DivI r32 r33) fun r34 => bindP (F_impl_AtanI r34) fun r35 => bindP (F_impl_SubI r31 r35) fun r36 => r36 else bindP (F_impl_at a1) fun r37 => bindP (F_impl_at a0) fun r38 => bindP (F_impl_DivI r37 r38) fun r39 => bindP (F_impl_AtanI r39) fun r40 => bindP (F_impl_SubI r30 r40) fun r41 => r41) else bindP (F_impl_at a0) fun r42 => bindP (F_impl_at a1) fun r43 => bindP (F_impl_DivI r42 r43) fun r44 => bindP (F_impl_AtanI r44) fun r45 => (bif (decide (a1.val > 0)) then r45 else (bif (decide (a0.val < 0)) then bindP (F_impl_TurnI (c64 (-2))) fun r46 => bindP (F_impl_AddI r45 r46) fun r47 => r47 else bindP (F_impl_TurnI (c64 2)) fun r48 => bindP (F_impl_AddI r45 r48) fun r49 => r49))))))

def F_impl_DirectionI (a0 : Iv) (a1 : Iv) : Iv :=
  bindP (F_impl_areBounded a0 a1) fun r1 => (bif (!r1) then bindP (F_impl_Whole) fun r2 => r2 else bindP (F_impl_HasI a0 (c64 0)) fun r3 => (bif r3 then bindP (F_impl_HasI a1 (c64 0)) fun r4 => (bif r4 then bindP (F_impl_Whole) fun r5 => r5 else (bif (decide (a1.lo.val < 0)) then (bif (decide (a0.lo.val < 0)) then (bif (decide (a0.hi.val ≥ 0)) then bindP (F_impl_Whole) fun r6 => r6 else bindP (F_impl_DirectionAt a0.lo a1.lo) fun r7 => bindP (F_impl_DirectionAt a0.lo a1.hi) fun r8 => bindP (F_impl_HullI r7 r8) fun r9 => bindP (F_impl_DirectionAt a0.hi a1.lo) fun r10 => bindP (F_impl_DirectionAt a0.hi a1.hi) fun r11 => bindP (F_impl_HullI r10 r11) fun r12 => bindP (F_impl_HullI r9 r12) fun r13 => r13) else bindP (F_impl_DirectionAt a0.lo a1.lo) fun r14 => bindP (F_impl_DirectionAt a0.lo a1.hi) fun r15 => bindP (F_impl_HullI r14 r15) fun r16 => bindP (F_impl_DirectionAt a0.hi a1.lo) fun r17 => bindP (F_impl_DirectionAt a0.hi a1.hi) fun r18 => bindP (F_impl_HullI r17 r18) fun r19 => bindP (F_impl_HullI r16 r19) fun r20 => r20) else bindP (F_impl_DirectionAt a0.lo a1.lo) fun r21 => bindP (F_impl_DirectionAt a0.lo a1.hi) fun r22 => bindP (F_impl_HullI r21 r22) fun r23 => bindP (F_impl_DirectionAt a0.hi a1.lo) fun r24 => bindP (F_impl_DirectionAt a0.hi a1.hi) fun r25 => bindP (F_impl_HullI r24 r25) fun r26 => bindP (F_impl_HullI r23 r26) fun r27 => r27)) else (bif (decide (a1.lo.val < 0)) then (bif (decide (a0.lo.val < 0)) then (bif (decide (a0.hi.val ≥ 0)) then bindP (F_impl_Whole) fun r28 => r28 else bindP (F_impl_DirectionAt a0.lo a1.lo) fun r29 => bindP (F_impl_DirectionAt a0.lo a1.hi) fun r30 => bindP (F_impl_HullI r29 r30) fun r31 => bindP (F_impl_DirectionAt a0.hi a1.lo) fun r32 => bindP (F_impl_DirectionAt a0.hi a1.hi) fun r33 => bindP (F_impl_HullI r32 r33) fun r34 => bindP (F_impl_HullI r31 r34) fun r35 => r35) else bindP (F_impl_DirectionAt a0.lo a1.lo) fun r36 => bindP (F_impl_DirectionAt a0.lo a1.hi) fun r37 => bindP (F_impl_HullI r36 r37) fun r38 => bindP (F_impl_DirectionAt a0.hi a1.lo) fun r39 => bindP (F_impl_DirectionAt a0.hi a1.hi) fun r40 => bindP (F_impl_HullI r39 r40) fun r41 => bindP (F_impl_HullI r38 r41) fun r42 => r42) else bindP (F_impl_DirectionAt a0.lo a1.lo) fun r43 => bindP (F_impl_DirectionAt a0.lo a1.hi) fun r44 => bindP (F_impl_HullI r43 r44) fun r45 => bindP (F_impl_DirectionAt a0.hi a1.lo) fun r46 => bindP (F_impl_DirectionAt a0.hi a1.hi) fun r47 => bindP (F_impl_HullI r46 r47) fun r48 => bindP (F_impl_HullI r45 r48) fun r49 => r49)))

def F_impl_knownI (a0 : Iv) : Iv × I64 :=
  bindP (F_impl_IsWhole a0) fun r1 => (bif r1 then ((⟨(c64 0), (c64 0)⟩ : Iv), (c64 9)) else (a0, (c64 0)))

def F_impl_PositionOf (a0 : Vc) : Iv × Iv × I64 :=
  bindP (F_impl_fromAxis a0) fun r1 => bindP (F_impl_DirectionI a0.z r1) fun r2 => bindP (F_impl_knownI r2) fun r3 => (bif (r3.2.val != 0) then ((⟨(c64 0), (c64 0)⟩ : Iv), (⟨(c64 0), (c64 0)⟩ : Iv), r3.2) else bindP (F_impl_DirectionI a0.y a0.x) fun r4 => (r3.1, r4, (c64 0)))

def F_impl_GlobalOf (a0 : Pj) (a1 : Vc) : Iv × Iv × I64 :=
  bindP (F_impl_isAzimuthalOne a0) fun r1 => (bif (!r1) then ((⟨(c64 0), (c64 0)⟩ : Iv), (⟨(c64 0), (c64 0)⟩ : Iv), (c64 1)) else bindP (F_impl_Projection_centre a0) fun r2 => bindP (F_impl_LatOf r2) fun r3 => bindP (F_impl_CosI r3) fun r4 => bindP (F_impl_MulI a1.z r4) fun r5 => bindP (F_impl_SinI r3) fun r6 => bindP (F_impl_MulI a1.y r6) fun r7 => bindP (F_impl_SubI r5 r7) fun r8 => bindP (F_impl_SinI r3) fun r9 => bindP (F_impl_MulI a1.z r9) fun r10 => bindP (F_impl_CosI r3) fun r11 => bindP (F_impl_MulI a1.y r11) fun r12 => bindP (F_impl_AddI r10 r12) fun r13 => bindP (F_impl_PositionOf (⟨r8, a1.x, r13⟩ : Vc)) fun r14 => (bif (r14.2.2.val != 0) then ((⟨(c64 0), (c64 0)⟩ : Iv), (⟨(c64 0), (c64 0)⟩ : Iv), r14.2.2) else bindP (F_impl_RadiansOf a0.lon0) fun r15 => bindP (F_impl_AddI r15 r14.2.1) fun r16 => (r14.1, r16, (c64 0))))

def F_impl_AzimuthalInverse (a0 : Pj) (a1 : Pn) : Iv × Iv × I64 :=
  bindP (F_impl_isAzimuthalOne a0) fun r1 => (bif (!r1) then ((⟨(c64 0), (c64 0)⟩ : Iv), (⟨(c64 0), (c64 0)⟩ : Iv), (c64 1)) else bindP (F_impl_fromAxis (⟨a1.x, a1.y, (⟨(c64 0), (c64 0)⟩ : Iv)⟩ : Vc)) fun r2 => bindP (F_impl_greatestRadius a0.kind) fun r3 => (bif r3.2 then bindP (F_impl_LessI r3.1 r2) fun r4 => (bif (r4.val == 1) then ((⟨(c64 0), (c64 0)⟩ : Iv), (⟨(c64 0), (c64 0)⟩ : Iv), (c64 8)) else bindP (F_impl_inverseFactors a0.kind r2) fun r5 => bindP (F_impl_MulI r5.1 a1.x) fun r6 => bindP (F_impl_MulI r5.1 a1.y) fun r7 => bindP (F_impl_GlobalOf a0 (⟨r6, r7, r5.2⟩ : Vc)) fun r8 => (r8.1, r8.2.1, r8.2.2)) else bindP (F_impl_inverseFactors a0.kind r2) fun r9 => bindP (F_impl_MulI r9.1 a1.x) fun r10 => bindP (F_impl_MulI r9.1 a1.y) fun r11 => bindP (F_impl_GlobalOf a0 (⟨r10, r11, r9.2⟩ : Vc)) fun r12 => (r12.1, r12.2.1, r12.2.2)))

def F_impl_twosOf_L1 : Nat → I64 → I64 → I64
  | 0, _, _ => (c64 0)
  | fu + 1, a0, x_e => (bif (decide (x_e.val ≤ 0)) then (bif (decide ((ishl .i64 a0.val (w64 (0 - x_e.val)).val).val < 3221225472)) then F_impl_twosOf_L1 fu a0 (w64 (x_e.val - 1)) else x_e) else x_e)

def F_impl_twosOf_L0 : Nat → I64 → I64 → I64
  | 0, _, _ => (c64 0)
  | fu + 1, a0, x_e => (bif (decide ((ishr a0 x_e.val).val ≥ 6442450944)) then F_impl_twosOf_L0 fu a0 (w64 (x_e.val + 1)) else F_impl_twosOf_L1 ((64 + x_e.val).toNat + 1) a0 x_e)

def F_impl_twosOf (a0 : I64) : I64 :=
  F_impl_twosOf_L0 ((64 - (c64 0).val).toNat + 1) a0 (c64 0)

def F_impl_LogAt (a0 : I64) : Iv :=
  bindP (F_impl_ValidFix a0) fun r1 => (bif (!r1) then bindP (F_impl_Whole) fun r3 => r3 else (bif (decide (a0.val ≤ 0)) then bindP (F_impl_Whole) fun r5 => r5 else bindP (F_impl_twosOf a0) fun r6 => bindP (F_impl_at a0) fun r7 => (bif (decide (r6.val > 0)) then bindP (F_impl_Integer (c64 1)) fun r9 => bindP (F_impl_SubI (⟨(ishr a0 r6.val), (w64 (0 - (ishr (w64 (0 - a0.val)) r6.val).val))⟩ : Iv) r9) fun r10 => bindP (F_impl_Integer (c64 1)) fun r11 => bindP (F_impl_AddI (⟨(ishr a0 r6.val), (w64 (0 - (ishr (w64 (0 - a0.val)) r6.val).val))⟩ : Iv) r11) fun r12 => bindP (F_impl_DivI r10 r12) fun r13 => bindP (F_impl_SqrI r13) fun r14 => bindP (F_impl_Quotient (c64 1) (c64 11)) fun r15 => bindP (F_impl_Quotient (c64 1) (c64 9)) fun r16 => bindP (F_impl_MulI r14 r15) fun r17 => bindP (F_impl_AddI r16 r17) fun r18 => bindP (F_impl_Quotient (c64 1) (c64 7)) fun r19 => bindP (F_impl_MulI r14 r18) fun r20 => bindP (F_impl_AddI r19 r20) fun r21 => bindP (F_impl_Quotient (c64 1) (c64 5)) fun r22 => bindP (F_impl_MulI r14 r21) fun r23 => bindP (F_impl_AddI r22 r23) fun r24 => bindP (F_impl_Quotient (c64 1) (c64 3)) fun r25 => bindP (F_impl_MulI r14 r24) fun r26 => bindP (F_impl_AddI r25 r26) fun r27 => bindP (F_impl_Quotient (c64 1) (c64 1)) fun r28 => bindP (F_impl_MulI r14 r27) fun r29 => bindP (F_impl_AddI r28 r29) fun r30 => bindP (F_impl_LogTwoI r6) fun r31 => bindP (F_impl_Integer (c64 2)) fun r32 => bindP (F_impl_MulI r32 r13) fun r33 => bindP (F_impl_MulI r33 r30) fun r34 => bindP (F_impl_widened r34 (c64 1)) fun r35 => bindP (F_impl_AddI r31 r35) fun r36 => r36 else bindP (F_impl_at (ishl .i64 a0.val (w64 (0 - r6.val)).val)) fun r37 => bindP (F_impl_Integer (c64 1)) fun r38 => bindP (F_impl_SubI r37 r38) fun r39 => bindP (F_impl_Integer (c64 1)) fun r40 => bindP (F_impl_AddI r37 r40) fun r41 => bindP (F_impl_DivI r39 r41) fun r42 => bindP (F_impl_SqrI r42) fun r43 => bindP (F_impl_Quotient (c64 1) (c64 11)) fun r44 => bindP (F_impl_Quotient (c64 1) (c64 9)) fun r45 => bindP (F_impl_MulI r43 r44) fun r46 => bindP (F_impl_AddI r45 r46) fun r47 => bindP (F_impl_Quotient (c64 1) (c64 7)) fun r48 => bindP (F_impl_MulI r43 r47) fun r49 => bindP (F_impl_AddI r48 r49) fun r50 => bindP (F_impl_Quotient (c64 1) (c64 5)) fun r51 => bindP (F_impl_MulI r43 r50) fun r52 => bindP (F_impl_AddI r51 r52) fun r53 => bindP (F_impl_Quotient (c64 1) (c64 3)) fun r54 => bindP (F_impl_MulI r43 r53) fun r55 => bindP (F_impl_AddI r54 r55) fun r56 => bindP (F_impl_Quotient (c64 1) (c64 1)) fun r57 => bindP (F_impl_MulI r43 r56) fun r58 => bindP (F_impl_AddI r57 r58) fun r59 => bindP (F_impl_LogTwoI r6) fun r60 => bindP (F_impl_Integer (c64 2)) fun r61 => bindP (F_impl_MulI r61 r42) fun r62 => bindP (F_impl_MulI r62 r59) fun r63 => bindP (F_impl_widened r63 (c64 1)) fun r64 => bindP (F_impl_AddI r60 r64) fun r65 => r65)))

def F_impl_monotonic__impl_LogAt (a0 : Iv) : Iv :=
  bindP (F_impl_IsWhole a0) fun r1 => (bif r1 then bindP (F_impl_Whole) fun r2 => r2 else bindP (F_impl_LogAt a0.lo) fun r3 => bindP (F_impl_LogAt a0.hi) fun r4 => bindP (F_impl_areBounded r3 r4) fun r5 => (bif (!r5) then bindP (F_impl_Whole) fun r6 => r6 else bindP (F_impl_bounded r3.lo r4.hi true) fun r7 => r7))

def F_impl_LogI (a0 : Iv) : Iv :=
  bindP (F_impl_monotonic__impl_LogAt a0) fun r1 => r1

def F_impl_SinAt (a0 : I64) : Iv :=
  bindP (F_impl_circleValue a0 (c64 0)) fun r1 => r1

def F_impl_CosAt (a0 : I64) : Iv :=
  bindP (F_impl_circleValue a0 (c64 1)) fun r1 => r1

def F_impl_TanI_L0 : Nat → List I64 → Iv → I64 → Iv → Iv
  | 0, _, _, _, _ => (⟨(c64 0), (c64 0)⟩ : Iv)
  | fu + 1, r4, a0, x_12, y_1 => (bif (decide (x_12.val < (((r4.length : Nat) : Int)))) then (bif ((iand .i64 (listAt r4 x_12).val 1).val == 1) then bindP (F_impl_Whole) fun r7 => r7 else F_impl_TanI_L0 fu r4 a0 (w64 (x_12.val + 1)) y_1) else bindP (F_impl_SinAt a0.lo) fun r8 => bindP (F_impl_CosAt a0.lo) fun r9 => bindP (F_impl_DivI r8 r9) fun r10 => bindP (F_impl_SinAt a0.hi) fun r11 => bindP (F_impl_CosAt a0.hi) fun r12 => bindP (F_impl_DivI r11 r12) fun r13 => bindP (F_impl_HullI r10 r13) fun r14 => r14)

def F_impl_TanI (a0 : Iv) : Iv :=
  bindP (F_impl_areAngles a0) fun r1 => (bif (!r1) then bindP (F_impl_Whole) fun r3 => r3 else bindP (F_impl_turnsIn a0) fun r4 => F_impl_TanI_L0 (((r4.length : Nat) : Int).toNat + 1) r4 a0 (c64 0) (⟨(c64 0), (c64 0)⟩ : Iv))


def F_impl_AsinhI_1 (a0 : I64) : Iv :=
  (bif (decide (a0.val ≤ 35184372088832)) then bindP (F_impl_at a0) fun r1 => bindP (F_impl_at a0) fun r2 => bindP (F_impl_SqrI r2) fun r3 => bindP (F_impl_Integer (c64 1)) fun r4 => bindP (F_impl_AddI r3 r4) fun r5 => bindP (F_impl_SqrtI r5) fun r6 => bindP (F_impl_AddI r1 r6) fun r7 => bindP (F_impl_LogI r7) fun r8 => r8 else bindP (F_impl_LogTwoI (c64 1)) fun r9 => bindP (F_impl_LogAt a0) fun r10 => bindP (F_impl_AddI r9 r10) fun r11 => bindP (F_impl_AddI r11 (⟨(c64 0), (c64 16)⟩ : Iv)) fun r12 => r12)

def F_impl_odd_1__p_impl_AsinhI_1 (a0 : I64) : Iv :=
  (bif (decide (a0.val < 0)) then bindP (F_impl_AsinhI_1 (w64 (0 - a0.val))) fun r1 => bindP (F_impl_NegI r1) fun r2 => r2 else bindP (F_impl_AsinhI_1 a0) fun r3 => r3)

def F_impl_monotonic__impl_odd_1_p_impl_AsinhI_1 (a0 : Iv) : Iv :=
  bindP (F_impl_IsWhole a0) fun r1 => (bif r1 then bindP (F_impl_Whole) fun r2 => r2 else bindP (F_impl_odd_1__p_impl_AsinhI_1 a0.lo) fun r3 => bindP (F_impl_odd_1__p_impl_AsinhI_1 a0.hi) fun r4 => bindP (F_impl_areBounded r3 r4) fun r5 => (bif (!r5) then bindP (F_impl_Whole) fun r6 => r6 else bindP (F_impl_bounded r3.lo r4.hi true) fun r7 => r7))

def F_impl_AsinhI (a0 : Iv) : Iv :=
  bindP (F_impl_monotonic__impl_odd_1_p_impl_AsinhI_1 a0) fun r1 => r1

def F_impl_isometricSphere (a0 : Iv) : Iv :=
  bindP (F_impl_TanI a0) fun r1 => bindP (F_impl_AsinhI r1) fun r2 => r2

def F_impl_conic_cone__pCn (b0 : Cn) : Iv :=
  (bif (b0.p.kind.val == 10) then bindP (F_impl_SinI b0.a) fun r1 => bindP (F_impl_SinI b0.b) fun r2 => bindP (F_impl_AddI r1 r2) fun r3 => bindP (F_impl_HalfI r3) fun r4 => r4 else (bif (b0.p.lat1.val == b0.p.lat2.val) then bindP (F_impl_SinI b0.a) fun r5 => r5 else (bif (b0.p.kind.val == 11) then bindP (F_impl_CosI b0.a) fun r6 => bindP (F_impl_LogI r6) fun r7 => bindP (F_impl_CosI b0.b) fun r8 => bindP (F_impl_LogI r8) fun r9 => bindP (F_impl_SubI r7 r9) fun r10 => bindP (F_impl_isometricSphere b0.b) fun r11 => bindP (F_impl_isometricSphere b0.a) fun r12 => bindP (F_impl_SubI r11 r12) fun r13 => bindP (F_impl_DivI r10 r13) fun r14 => r14 else bindP (F_impl_CosI b0.a) fun r15 => bindP (F_impl_CosI b0.b) fun r16 => bindP (F_impl_SubI r15 r16) fun r17 => bindP (F_impl_SubI b0.b b0.a) fun r18 => bindP (F_impl_DivI r17 r18) fun r19 => r19)))

def F_impl_times (a0 : I64) (a1 : Iv) : Iv :=
  bindP (F_impl_Integer a0) fun r1 => bindP (F_impl_MulI r1 a1) fun r2 => r2

def F_impl_monotonic__impl_ExpAt (a0 : Iv) : Iv :=
  bindP (F_impl_IsWhole a0) fun r1 => (bif r1 then bindP (F_impl_Whole) fun r2 => r2 else bindP (F_impl_ExpAt a0.lo) fun r3 => bindP (F_impl_ExpAt a0.hi) fun r4 => bindP (F_impl_areBounded r3 r4) fun r5 => (bif (!r5) then bindP (F_impl_Whole) fun r6 => r6 else bindP (F_impl_bounded r3.lo r4.hi true) fun r7 => r7))

def F_impl_ExpI (a0 : Iv) : Iv :=
  bindP (F_impl_monotonic__impl_ExpAt a0) fun r1 => r1

end Go.Proofs.YtjbdilphncpceaaGreat.Abs
