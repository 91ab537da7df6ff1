/- The functions, on numbers; part 4 (written by w.py). -/
import Derived.Test.YtgofhiehdpggkaaGreatF3
set_option linter.unusedVariables false
set_option linter.unusedSimpArgs false
namespace Go.Proofs.YtgofhiehdpggkaaGreat.Abs
open Go Go.RowKit

def F_impl_isTransverse (a0 : Pj) : Bool :=
  bindP (F_impl_ValidProjection a0) fun r1 => (bif r1 then (a0.kind.val == 16) else false)

def F_impl_CoshI_1 (a0 : I64) : Iv :=
  bindP (F_impl_ExpAt a0) fun r1 => bindP (F_impl_ExpAt (w64 (0 - a0.val))) fun r2 => bindP (F_impl_AddI r1 r2) fun r3 => bindP (F_impl_HalfI r3) fun r4 => r4

def F_impl_monotonic__impl_CoshI_1 (a0 : Iv) : Iv :=
  bindP (F_impl_IsWhole a0) fun r1 => (bif r1 then bindP (F_impl_Whole) fun r2 => r2 else bindP (F_impl_CoshI_1 a0.lo) fun r3 => bindP (F_impl_CoshI_1 a0.hi) fun r4 => bindP (F_impl_areBounded r3 r4) fun r5 => (bif (!r5) then bindP (F_impl_Whole) fun r6 => r6 else bindP (F_impl_bounded r3.lo r4.hi true) fun r7 => r7))

def F_impl_CoshI (a0 : Iv) : Iv :=
  bindP (F_impl_AbsI a0) fun r1 => bindP (F_impl_monotonic__impl_CoshI_1 r1) fun r2 => r2

def F_impl_CircleAt (a0 : I64) : Iv :=
  bindP (F_impl_within a0 (c64 (-4294967296)) (c64 4294967296)) fun r1 => (bif (!r1) then bindP (F_impl_Whole) fun r2 => r2 else bindP (F_impl_SqrtFloor (w64 (4294967296 - a0.val)) (w64 (4294967296 + a0.val))) fun r3 => bindP (F_impl_WideMul r3.1 r3.1) fun r4 => bindP (F_impl_WideMul (w64 (4294967296 - a0.val)) (w64 (4294967296 + a0.val))) fun r5 => (bif ((r4.hi.val == r5.hi.val) && (r4.lo.val == r5.lo.val)) then bindP (F_impl_at r3.1) fun r6 => r6 else (⟨r3.1, (w64 (r3.1.val + 1))⟩ : Iv)))

def F_impl_halfCircle : Iv :=
  bindP (F_impl_TurnI (c64 1)) fun r1 => bindP (F_impl_TurnI (c64 1)) fun r2 => (⟨(w64 (0 - r1.hi.val)), r2.hi⟩ : Iv)

def F_impl_isOpen (a0 : I64) : Bool :=
  (bif (decide ((-1152921504606846976) < a0.val)) then (decide (a0.val < 1152921504606846976)) else false)

def F_impl_halved (a0 : Iv) : Iv :=
  bindP (F_impl_Integer (c64 1)) fun r1 => bindP (F_impl_Integer (c64 1)) fun r2 => bindP (F_impl_SqrI a0) fun r3 => bindP (F_impl_AddI r2 r3) fun r4 => bindP (F_impl_SqrtI r4) fun r5 => bindP (F_impl_AddI r1 r5) fun r6 => bindP (F_impl_DivI a0 r6) fun r7 => r7

def F_impl_ArcSeries (a0 : Iv) : Iv :=
  bindP (F_impl_InsideI a0 (⟨(c64 (-1073741824)), (c64 1073741824)⟩ : Iv)) fun r1 => (bif (!r1) then bindP (F_impl_Whole) fun r2 => r2 else bindP (F_impl_SqrI a0) fun r3 => bindP (F_impl_Quotient (c64 1) (c64 21)) fun r4 => bindP (F_impl_Quotient (c64 1) (c64 19)) fun r5 => bindP (F_impl_MulI r3 r4) fun r6 => bindP (F_impl_SubI r5 r6) fun r7 => bindP (F_impl_Quotient (c64 1) (c64 17)) fun r8 => bindP (F_impl_MulI r3 r7) fun r9 => bindP (F_impl_SubI r8 r9) fun r10 => bindP (F_impl_Quotient (c64 1) (c64 15)) fun r11 => bindP (F_impl_MulI r3 r10) fun r12 => bindP (F_impl_SubI r11 r12) fun r13 => bindP (F_impl_Quotient (c64 1) (c64 13)) fun r14 => bindP (F_impl_MulI r3 r13) fun r15 => bindP (F_impl_SubI r14 r15) fun r16 => bindP (F_impl_Quotient (c64 1) (c64 11)) fun r17 => bindP (F_impl_MulI r3 r16) fun r18 => bindP (F_impl_SubI r17 r18) fun r19 => bindP (F_impl_Quotient (c64 1) (c64 9)) fun r20 => bindP (F_impl_MulI r3 r19) fun r21 => bindP (F_impl_SubI r20 r21) fun r22 => bindP (F_impl_Quotient (c64 1) (c64 7)) fun r23 => bindP (F_impl_MulI r3 r22) fun r24 => bindP (F_impl_SubI r23 r24) fun r25 => bindP (F_impl_Quotient (c64 1) (c64 5)) fun r26 => bindP (F_impl_MulI r3 r25) fun r27 => bindP (F_impl_SubI r26 r27) fun r28 => bindP (F_impl_Quotient (c64 1) (c64 3)) fun r29 => bindP (F_impl_MulI r3 r28) fun r30 => bindP (F_impl_SubI r29 r30) fun r31 => bindP (F_impl_Quotient (c64 1) (c64 1)) fun r32 => bindP (F_impl_MulI r3 r31) fun r33 => bindP (F_impl_SubI r32 r33) fun r34 => bindP (F_impl_MulI a0 r34) fun r35 => bindP (F_impl_tiny) fun r36 => bindP (F_impl_AddI r35 r36) fun r37 => r37)

def F_impl_fourfold (a0 : Iv) : Iv :=
  bindP (F_impl_halved a0) fun r1 => bindP (F_impl_halved r1) fun r2 => bindP (F_impl_ArcSeries r2) fun r3 => bindP (F_impl_DoubleI r3) fun r4 => bindP (F_impl_DoubleI r4) fun r5 => r5

def F_impl_AtanAt_b (self : I64 → Iv) (a0 : I64) : Iv :=
  bindP (F_impl_isOpen a0) fun r1 => (bif (!r1) then bindP (F_impl_halfCircle) fun r3 => r3 else (bif (decide (a0.val < 0)) then bindP (self (w64 (0 - a0.val))) fun r5 => bindP (F_impl_NegI r5) fun r6 => r6 else (bif (decide (a0.val > 4294967296)) then bindP (F_impl_TurnI (c64 1)) fun r8 => bindP (F_impl_Integer (c64 1)) fun r9 => bindP (F_impl_at a0) fun r10 => bindP (F_impl_DivI r9 r10) fun r11 => bindP (F_impl_fourfold r11) fun r12 => bindP (F_impl_SubI r8 r12) fun r13 => r13 else bindP (F_impl_at a0) fun r14 => bindP (F_impl_fourfold r14) fun r15 => r15)))
def F_impl_AtanAt_r : Nat → I64 → Iv
  | 0, _ => (⟨(c64 0), (c64 0)⟩ : Iv)
  | fu + 1, a0 => F_impl_AtanAt_b (F_impl_AtanAt_r fu) a0
def F_impl_AtanAt (a0 : I64) : Iv := F_impl_AtanAt_r 2 a0

def F_impl_AtanI (a0 : Iv) : Iv :=
  bindP (F_impl_IsWhole a0) fun r1 => (bif r1 then bindP (F_impl_halfCircle) fun r2 => r2 else bindP (F_impl_AtanAt a0.lo) fun r3 => bindP (F_impl_AtanAt a0.hi) fun r4 => bindP (F_impl_HullI r3 r4) fun r5 => r5)

def F_impl_AsinAt (a0 : I64) : Iv :=
  bindP (F_impl_within a0 (c64 (-4294967296)) (c64 4294967296)) fun r1 => (bif (!r1) then bindP (F_impl_Whole) fun r2 => r2 else bindP (F_impl_at a0) fun r3 => bindP (F_impl_Integer (c64 1)) fun r4 => bindP (F_impl_CircleAt a0) fun r5 => bindP (F_impl_AddI r4 r5) fun r6 => bindP (F_impl_DivI r3 r6) fun r7 => bindP (F_impl_AtanI r7) fun r8 => bindP (F_impl_DoubleI r8) fun r9 => bindP (F_impl_halfCircle) fun r10 => bindP (F_impl_MeetI r9 r10) fun r11 => r11.1)

def F_impl_AsinI (a0 : Iv) : Iv :=
  bindP (F_impl_ring) fun r1 => bindP (F_impl_MeetI a0 r1) fun r2 => (bif (!r2.2) then bindP (F_impl_Whole) fun r3 => r3 else bindP (F_impl_AsinAt r2.1.lo) fun r4 => bindP (F_impl_AsinAt r2.1.hi) fun r5 => bindP (F_impl_HullI r4 r5) fun r6 => r6)

def F_impl_SinhI_1 (a0 : I64) : Iv :=
  bindP (F_impl_ExpAt a0) fun r1 => bindP (F_impl_ExpAt (w64 (0 - a0.val))) fun r2 => bindP (F_impl_SubI r1 r2) fun r3 => bindP (F_impl_HalfI r3) fun r4 => r4

def F_impl_monotonic__impl_SinhI_1 (a0 : Iv) : Iv :=
  bindP (F_impl_IsWhole a0) fun r1 => (bif r1 then bindP (F_impl_Whole) fun r2 => r2 else bindP (F_impl_SinhI_1 a0.lo) fun r3 => bindP (F_impl_SinhI_1 a0.hi) fun r4 => bindP (F_impl_areBounded r3 r4) fun r5 => (bif (!r5) then bindP (F_impl_Whole) fun r6 => r6 else bindP (F_impl_bounded r3.lo r4.hi true) fun r7 => r7))

def F_impl_SinhI (a0 : Iv) : Iv :=
  bindP (F_impl_monotonic__impl_SinhI_1 a0) fun r1 => r1

def F_impl_DirectionAt (a0 : I64) (a1 : I64) : Iv :=
  bindP (F_impl_isOpen a0) fun r1 => (bif (!r1) then bindP (F_impl_Whole) fun r2 => r2 else bindP (F_impl_isOpen a1) fun r3 => (bif (!r3) then bindP (F_impl_Whole) fun r4 => r4 else (bif (a0.val == 0) then (bif (a1.val == 0) then bindP (F_impl_Whole) fun r5 => r5 else bindP (F_impl_abs a0) fun r6 => bindP (F_impl_abs a1) fun r7 => (bif (decide (r6.val > r7.val)) then bindP (F_impl_TurnI (c64 1)) fun r8 => (bif (decide (a0.val < 0)) then bindP (F_impl_TurnI (c64 (-1))) fun r9 => bindP (F_impl_at a1) fun r10 => bindP (F_impl_at a0) fun r11 => bindP (F_impl_DivI r10 r11) fun r12 => bindP (F_impl_AtanI r12) fun r13 => bindP (F_impl_SubI r9 r13) fun r14 => r14 else bindP (F_impl_at a1) fun r15 => bindP (F_impl_at a0) fun r16 => bindP (F_impl_DivI r15 r16) fun r17 => bindP (F_impl_AtanI r17) fun r18 => bindP (F_impl_SubI r8 r18) fun r19 => r19) else bindP (F_impl_at a0) fun r20 => bindP (F_impl_at a1) fun r21 => bindP (F_impl_DivI r20 r21) fun r22 => bindP (F_impl_AtanI r22) fun r23 => (bif (decide (a1.val > 0)) then r23 else (bif (decide (a0.val < 0)) then bindP (F_impl_TurnI (c64 (-2))) fun r24 => bindP (F_impl_AddI r23 r24) fun r25 => r25 else bindP (F_impl_TurnI (c64 2)) fun r26 => bindP (F_impl_AddI r23 r26) fun r27 => r27)))) else bindP (F_impl_abs a0) fun r28 => bindP (F_impl_abs a1) fun r29 => (bif (decide (r28.val > r29.val)) then bindP (F_impl_TurnI (c64 1)) fun r30 => (bif (decide (a0.val < 0)) then bindP (F_impl_TurnI (c64 (-1))) fun r31 => bindP (F_impl_at a1) fun r32 => bindP (F_impl_at a0) fun r33 => bindP (F_impl_DivI r32 r33) fun r34 => bindP (F_impl_AtanI r34) fun r35 => bindP (F_impl_SubI r31 r35) fun r36 => r36 else bindP (F_impl_at a1) fun r37 => bindP (F_impl_at a0) fun r38 => bindP (F_impl_DivI r37 r38) fun r39 => bindP (F_impl_AtanI r39) fun r40 => bindP (F_impl_SubI r30 r40) fun r41 => r41) else bindP (F_impl_at a0) fun r42 => bindP (F_impl_at a1) fun r43 => bindP (F_impl_DivI r42 r43) fun r44 => bindP (F_impl_AtanI r44) fun r45 => (bif (decide (a1.val > 0)) then r45 else (bif (decide (a0.val < 0)) then bindP (F_impl_TurnI (c64 (-2))) fun r46 => bindP (F_impl_AddI r45 r46) fun r47 => r47 else bindP (F_impl_TurnI (c64 2)) fun r48 => bindP (F_impl_AddI r45 r48) fun r49 => r49))))))

def F_impl_DirectionI (a0 : Iv) (a1 : Iv) : Iv :=
  bindP (F_impl_areBounded a0 a1) fun r1 => (bif (!r1) then bindP (F_impl_Whole) fun r2 => r2 else bindP (F_impl_HasI a0 (c64 0)) fun r3 => (bif r3 then bindP (F_impl_HasI a1 (c64 0)) fun r4 => (bif r4 then bindP (F_impl_Whole) fun r5 => r5 else (bif (decide (a1.lo.val < 0)) then (bif (decide (a0.lo.val < 0)) then (bif (decide (a0.hi.val ≥ 0)) then bindP (F_impl_Whole) fun r6 => r6 else bindP (F_impl_DirectionAt a0.lo a1.lo) fun r7 => bindP (F_impl_DirectionAt a0.lo a1.hi) fun r8 => bindP (F_impl_HullI r7 r8) fun r9 => bindP (F_impl_DirectionAt a0.hi a1.lo) fun r10 => bindP (F_impl_DirectionAt a0.hi a1.hi) fun r11 => bindP (F_impl_HullI r10 r11) fun r12 => bindP (F_impl_HullI r9 r12) fun r13 => r13) else bindP (F_impl_DirectionAt a0.lo a1.lo) fun r14 => bindP (F_impl_DirectionAt a0.lo a1.hi) fun r15 => bindP (F_impl_HullI r14 r15) fun r16 => bindP (F_impl_DirectionAt a0.hi a1.lo) fun r17 => bindP (F_impl_DirectionAt a0.hi a1.hi) fun r18 => bindP (F_impl_HullI r17 r18) fun r19 => bindP (F_impl_HullI r16 r19) fun r20 => r20) else bindP (F_impl_DirectionAt a0.lo a1.lo) fun r21 => bindP (F_impl_DirectionAt a0.lo a1.hi) fun r22 => bindP (F_impl_HullI r21 r22) fun r23 => bindP (F_impl_DirectionAt a0.hi a1.lo) fun r24 => bindP (F_impl_DirectionAt a0.hi a1.hi) fun r25 => bindP (F_impl_HullI r24 r25) fun r26 => bindP (F_impl_HullI r23 r26) fun r27 => r27)) else (bif (decide (a1.lo.val < 0)) then (bif (decide (a0.lo.val < 0)) then (bif (decide (a0.hi.val ≥ 0)) then bindP (F_impl_Whole) fun r28 => r28 else bindP (F_impl_DirectionAt a0.lo a1.lo) fun r29 => bindP (F_impl_DirectionAt a0.lo a1.hi) fun r30 => bindP (F_impl_HullI r29 r30) fun r31 => bindP (F_impl_DirectionAt a0.hi a1.lo) fun r32 => bindP (F_impl_DirectionAt a0.hi a1.hi) fun r33 => bindP (F_impl_HullI r32 r33) fun r34 => bindP (F_impl_HullI r31 r34) fun r35 => r35) else bindP (F_impl_DirectionAt a0.lo a1.lo) fun r36 => bindP (F_impl_DirectionAt a0.lo a1.hi) fun r37 => bindP (F_impl_HullI r36 r37) fun r38 => bindP (F_impl_DirectionAt a0.hi a1.lo) fun r39 => bindP (F_impl_DirectionAt a0.hi a1.hi) fun r40 => bindP (F_impl_HullI r39 r40) fun r41 => bindP (F_impl_HullI r38 r41) fun r42 => r42) else bindP (F_impl_DirectionAt a0.lo a1.lo) fun r43 => bindP (F_impl_DirectionAt a0.lo a1.hi) fun r44 => bindP (F_impl_HullI r43 r44) fun r45 => bindP (F_impl_DirectionAt a0.hi a1.lo) fun r46 => bindP (F_impl_DirectionAt a0.hi a1.hi) fun r47 => bindP (F_impl_HullI r46 r47) fun r48 => bindP (F_impl_HullI r45 r48) fun r49 => r49)))

def F_impl_TransverseInverse (a0 : Pj) (a1 : Pn) : Iv × Iv × I64 :=
  bindP (F_impl_isTransverse a0) fun r1 => (bif (!r1) then ((⟨(c64 0), (c64 0)⟩ : Iv), (⟨(c64 0), (c64 0)⟩ : Iv), (c64 1)) else bindP (F_impl_RadiansOf a0.lat0) fun r2 => bindP (F_impl_AddI a1.y r2) fun r3 => bindP (F_impl_SinI r3) fun r4 => bindP (F_impl_CoshI a1.x) fun r5 => bindP (F_impl_DivI r4 r5) fun r6 => bindP (F_impl_AsinI r6) fun r7 => bindP (F_impl_areBounded r3 r6) fun r8 => (bif (!r8) then ((⟨(c64 0), (c64 0)⟩ : Iv), (⟨(c64 0), (c64 0)⟩ : Iv), (c64 9)) else bindP (F_impl_IsWhole r7) fun r9 => (bif r9 then ((⟨(c64 0), (c64 0)⟩ : Iv), (⟨(c64 0), (c64 0)⟩ : Iv), (c64 9)) else bindP (F_impl_RadiansOf a0.lon0) fun r10 => bindP (F_impl_SinhI a1.x) fun r11 => bindP (F_impl_CosI r3) fun r12 => bindP (F_impl_DirectionI r11 r12) fun r13 => bindP (F_impl_AddI r10 r13) fun r14 => (r7, r14, (c64 0)))))

def F_laws_FnExactTransverseInverse (a0 : Pj) (a1 : Pn) : Bool :=
  bindP (F_laws_toProjection a0) fun r1 => bindP (F_laws_toPlanar a1) fun r2 => bindP (F_spec_TransverseInverse r1 r2) fun r3 => bindP (F_laws_toProjection a0) fun r4 => bindP (F_laws_toPlanar a1) fun r5 => bindP (F_impl_TransverseInverse r4 r5) fun r6 => bindP (F_laws_eqInterval r6.1 r3.1) fun r7 => (bif (!r7) then false else bindP (F_laws_eqInterval r6.2.1 r3.2.1) fun r8 => (bif (!r8) then false else (bif (r6.2.2.val != r3.2.2.val) then false else true)))

def F_laws_toPoint (a0 : Pt) : Pt :=
  a0

def F_spec_l11Pole (a0 : Pt) : Bool :=
  (bif (a0.lat.val == 900000000) then true else (a0.lat.val == (-900000000)))

def F_spec_LatOf (a0 : Pt) : Iv :=
  bindP (F_spec_l11Ok a0) fun r1 => (bif (!r1) then bindP (F_spec_Whole) fun r2 => r2 else bindP (F_spec_RadiansOf a0.lat) fun r3 => r3)

def F_spec_ConicScales (a0 : Pj) (a1 : Pt) : Iv × Iv × I64 :=
  bindP (F_spec_l19Ok a0) fun r1 => (bif (!r1) then ((⟨(c64 0), (c64 0)⟩ : Iv), (⟨(c64 0), (c64 0)⟩ : Iv), (c64 1)) else bindP (F_spec_l11Ok a1) fun r2 => (bif (!r2) then ((⟨(c64 0), (c64 0)⟩ : Iv), (⟨(c64 0), (c64 0)⟩ : Iv), (c64 1)) else bindP (F_spec_l11Pole a1) fun r3 => (bif r3 then ((⟨(c64 0), (c64 0)⟩ : Iv), (⟨(c64 0), (c64 0)⟩ : Iv), (c64 8)) else bindP (F_spec_LatOf a1) fun r4 => bindP (F_spec_l19Scale a0 r4) fun r5 => (bif (a0.kind.val == 10) then bindP (F_spec_Integer (c64 1)) fun r6 => bindP (F_spec_DivI r6 r5) fun r7 => bindP (F_spec_l17Scales r7 r5) fun r8 => (r8.1, r8.2.1, r8.2.2) else (bif (a0.kind.val == 11) then bindP (F_spec_l17Scales r5 r5) fun r9 => (r9.1, r9.2.1, r9.2.2) else bindP (F_spec_Integer (c64 1)) fun r10 => bindP (F_spec_l17Scales r10 r5) fun r11 => (r11.1, r11.2.1, r11.2.2))))))

def F_impl_isPole (a0 : Pt) : Bool :=
  bindP (F_impl_abs a0.lat) fun r1 => (r1.val == 900000000)

def F_impl_LatOf (a0 : Pt) : Iv :=
  bindP (F_impl_ValidPoint a0) fun r1 => (bif (!r1) then bindP (F_impl_Whole) fun r2 => r2 else bindP (F_impl_RadiansOf a0.lat) fun r3 => r3)

def F_impl_ConicScales (a0 : Pj) (a1 : Pt) : Iv × Iv × I64 :=
  bindP (F_impl_newConic a0) fun r1 => (bif (r1.2.val != 0) then ((⟨(c64 0), (c64 0)⟩ : Iv), (⟨(c64 0), (c64 0)⟩ : Iv), (c64 1)) else bindP (F_impl_ValidPoint a1) fun r2 => (bif (!r2) then ((⟨(c64 0), (c64 0)⟩ : Iv), (⟨(c64 0), (c64 0)⟩ : Iv), (c64 1)) else bindP (F_impl_isPole a1) fun r4 => (bif r4 then ((⟨(c64 0), (c64 0)⟩ : Iv), (⟨(c64 0), (c64 0)⟩ : Iv), (c64 8)) else bindP (F_impl_LatOf a1) fun r6 => bindP (F_impl_conic_scale__pCn r1.1 r6) fun r7 => (bif (a0.kind.val == 10) then bindP (F_impl_Integer (c64 1)) fun r9 => bindP (F_impl_DivI r9 r7) fun r10 => bindP (F_impl_pair r10 r7) fun r11 => (r11.1, r11.2.1, r11.2.2) else (bif (a0.kind.val == 11) then bindP (F_impl_pair r7 r7) fun r13 => (r13.1, r13.2.1, r13.2.2) else bindP (F_impl_Integer (c64 1)) fun r14 => bindP (F_impl_pair r14 r7) fun r15 => (r15.1, r15.2.1, r15.2.2))))))

def F_laws_FnExactConicScales (a0 : Pj) (a1 : Pt) : Bool :=
  bindP (F_laws_toProjection a0) fun r1 => bindP (F_laws_toPoint a1) fun r2 => bindP (F_spec_ConicScales r1 r2) fun r3 => bindP (F_laws_toProjection a0) fun r4 => bindP (F_laws_toPoint a1) fun r5 => bindP (F_impl_ConicScales r4 r5) fun r6 => bindP (F_laws_eqInterval r6.1 r3.1) fun r7 => (bif (!r7) then false else bindP (F_laws_eqInterval r6.2.1 r3.2.1) fun r8 => (bif (!r8) then false else (bif (r6.2.2.val != r3.2.2.val) then false else true)))

def F_spec_l11Wrap (a0 : I64) : I64 :=
  (bif (decide ((imod a0 3600000000).val > 1800000000)) then (bif (decide ((w64 ((imod a0 3600000000).val - 3600000000)).val ≤ (-1800000000))) then (w64 ((w64 ((imod a0 3600000000).val - 3600000000)).val + 3600000000)) else (w64 ((imod a0 3600000000).val - 3600000000))) else (bif (decide ((imod a0 3600000000).val ≤ (-1800000000))) then (w64 ((imod a0 3600000000).val + 3600000000)) else (imod a0 3600000000)))

def F_spec_l21Edge__pPj (b0 : Pj) (a0 : Pt) : Bool :=
  bindP (F_spec_l11Wrap (w64 (a0.lon.val - b0.lon0.val))) fun r1 => (bif (a0.lat.val == 0) then (bif (r1.val == 900000000) then true else (r1.val == (-900000000))) else false)

def F_spec_l21Turn__pPj (b0 : Pj) (a0 : Pt) : Iv :=
  bindP (F_spec_l11Wrap (w64 (a0.lon.val - b0.lon0.val))) fun r1 => bindP (F_spec_RadiansOf r1) fun r2 => r2

def F_spec_l21Side__pPj (b0 : Pj) (a0 : Pt) : Iv :=
  bindP (F_spec_RadiansOf a0.lat) fun r1 => bindP (F_spec_CosI r1) fun r2 => bindP (F_spec_l21Turn__pPj b0 a0) fun r3 => bindP (F_spec_SinI r3) fun r4 => bindP (F_spec_MulI r2 r4) fun r5 => r5

def F_spec_l08Atanh_b (self : I64 → Iv) (a0 : I64) : Iv :=
  (bif (decide (a0.val < 0)) then bindP (self (w64 (0 - a0.val))) fun r2 => bindP (F_spec_NegI r2) fun r3 => r3 else (bif (decide (a0.val ≥ 4294967296)) then bindP (F_spec_l04Whole) fun r5 => r5 else bindP (F_spec_l08At (w64 (4294967296 + a0.val))) fun r6 => bindP (F_spec_l08At (w64 (4294967296 - a0.val))) fun r7 => bindP (F_spec_DivI r6 r7) fun r8 => bindP (F_spec_LogI r8) fun r9 => bindP (F_spec_HalfI r9) fun r10 => r10))
def F_spec_l08Atanh_r : Nat → I64 → Iv
  | 0, _ => (⟨(c64 0), (c64 0)⟩ : Iv)
  | fu + 1, a0 => F_spec_l08Atanh_b (F_spec_l08Atanh_r fu) a0
def F_spec_l08Atanh (a0 : I64) : Iv := F_spec_l08Atanh_r 2 a0

def F_spec_AtanhI (a0 : Iv) : Iv :=
  bindP (F_spec_l04Ok a0) fun r1 => (bif (!r1) then bindP (F_spec_l04Whole) fun r3 => r3 else bindP (F_spec_l08Atanh a0.lo) fun r4 => bindP (F_spec_l08Atanh a0.hi) fun r5 => bindP (F_spec_l08Ends r4 r5) fun r6 => r6)

def F_spec_l21Forward__pPj (b0 : Pj) (a0 : Pt) : Pn × I64 :=
  bindP (F_spec_l21Edge__pPj b0 a0) fun r1 => (bif r1 then ((⟨(⟨(c64 0), (c64 0)⟩ : Iv), (⟨(c64 0), (c64 0)⟩ : Iv)⟩ : Pn), (c64 8)) else bindP (F_spec_RadiansOf a0.lat) fun r2 => bindP (F_spec_l21Side__pPj b0 a0) fun r3 => bindP (F_spec_AtanhI r3) fun r4 => bindP (F_spec_SinI r2) fun r5 => bindP (F_spec_CosI r2) fun r6 => bindP (F_spec_l21Turn__pPj b0 a0) fun r7 => bindP (F_spec_CosI r7) fun r8 => bindP (F_spec_MulI r6 r8) fun r9 => bindP (F_spec_DirectionI r5 r9) fun r10 => bindP (F_spec_RadiansOf b0.lat0) fun r11 => bindP (F_spec_SubI r10 r11) fun r12 => bindP (F_spec_IsWhole r4) fun r13 => (bif r13 then ((⟨(⟨(c64 0), (c64 0)⟩ : Iv), (⟨(c64 0), (c64 0)⟩ : Iv)⟩ : Pn), (c64 9)) else bindP (F_spec_IsWhole r12) fun r14 => (bif r14 then ((⟨(⟨(c64 0), (c64 0)⟩ : Iv), (⟨(c64 0), (c64 0)⟩ : Iv)⟩ : Pn), (c64 9)) else ((⟨r4, r12⟩ : Pn), (c64 0)))))

def F_spec_TransverseForward (a0 : Pj) (a1 : Pt) : Pn × I64 :=
  bindP (F_spec_l21Ok__pPj a0) fun r1 => (bif (!r1) then ((⟨(⟨(c64 0), (c64 0)⟩ : Iv), (⟨(c64 0), (c64 0)⟩ : Iv)⟩ : Pn), (c64 1)) else bindP (F_spec_l11Ok a1) fun r2 => (bif (!r2) then ((⟨(⟨(c64 0), (c64 0)⟩ : Iv), (⟨(c64 0), (c64 0)⟩ : Iv)⟩ : Pn), (c64 1)) else bindP (F_spec_l21Forward__pPj a0 a1) fun r3 => (r3.1, r3.2)))

def F_impl_WrapLon (a0 : I64) : I64 :=
  (bif (decide ((imod a0 3600000000).val > 1800000000)) then (w64 ((imod a0 3600000000).val - 3600000000)) else (bif (decide ((imod a0 3600000000).val ≤ (-1800000000))) then (w64 ((imod a0 3600000000).val + 3600000000)) else (imod a0 3600000000)))

def F_impl_LonFrom (a0 : Pj) (a1 : Pt) : Iv :=
  bindP (F_impl_ValidProjection a0) fun r1 => (bif (!r1) then bindP (F_impl_Whole) fun r2 => r2 else bindP (F_impl_ValidPoint a1) fun r3 => (bif (!r3) then bindP (F_impl_Whole) fun r4 => r4 else bindP (F_impl_WrapLon (w64 (a1.lon.val - a0.lon0.val))) fun r5 => bindP (F_impl_RadiansOf r5) fun r6 => r6))

def F_impl_transverse (a0 : Pj) (a1 : Pt) : Iv × Iv × Iv × I64 :=
  bindP (F_impl_isTransverse a0) fun r1 => (bif (!r1) then ((⟨(c64 0), (c64 0)⟩ : Iv), (⟨(c64 0), (c64 0)⟩ : Iv), (⟨(c64 0), (c64 0)⟩ : Iv), (c64 1)) else bindP (F_impl_ValidPoint a1) fun r2 => (bif (!r2) then ((⟨(c64 0), (c64 0)⟩ : Iv), (⟨(c64 0), (c64 0)⟩ : Iv), (⟨(c64 0), (c64 0)⟩ : Iv), (c64 1)) else (bif (a1.lat.val == 0) then bindP (F_impl_WrapLon (w64 (a1.lon.val - a0.lon0.val))) fun r3 => bindP (F_impl_abs r3) fun r4 => (bif (r4.val == 900000000) then ((⟨(c64 0), (c64 0)⟩ : Iv), (⟨(c64 0), (c64 0)⟩ : Iv), (⟨(c64 0), (c64 0)⟩ : Iv), (c64 8)) else bindP (F_impl_LatOf a1) fun r5 => bindP (F_impl_LonFrom a0 a1) fun r6 => bindP (F_impl_CosI r5) fun r7 => bindP (F_impl_SinI r6) fun r8 => bindP (F_impl_MulI r7 r8) fun r9 => (r5, r6, r9, (c64 0))) else bindP (F_impl_LatOf a1) fun r10 => bindP (F_impl_LonFrom a0 a1) fun r11 => bindP (F_impl_CosI r10) fun r12 => bindP (F_impl_SinI r11) fun r13 => bindP (F_impl_MulI r12 r13) fun r14 => (r10, r11, r14, (c64 0)))))

def F_impl_AtanhI_1 (a0 : I64) : Iv :=
  (bif (decide (a0.val ≥ 4294967296)) then bindP (F_impl_Whole) fun r1 => r1 else bindP (F_impl_at (w64 (4294967296 + a0.val))) fun r2 => bindP (F_impl_at (w64 (4294967296 - a0.val))) fun r3 => bindP (F_impl_DivI r2 r3) fun r4 => bindP (F_impl_LogI r4) fun r5 => bindP (F_impl_HalfI r5) fun r6 => r6)

def F_impl_odd_1__p_impl_AtanhI_1 (a0 : I64) : Iv :=
  (bif (decide (a0.val < 0)) then bindP (F_impl_AtanhI_1 (w64 (0 - a0.val))) fun r1 => bindP (F_impl_NegI r1) fun r2 => r2 else bindP (F_impl_AtanhI_1 a0) fun r3 => r3)

def F_impl_monotonic__impl_odd_1_p_impl_AtanhI_1 (a0 : Iv) : Iv :=
  bindP (F_impl_IsWhole a0) fun r1 => (bif r1 then bindP (F_impl_Whole) fun r2 => r2 else bindP (F_impl_odd_1__p_impl_AtanhI_1 a0.lo) fun r3 => bindP (F_impl_odd_1__p_impl_AtanhI_1 a0.hi) fun r4 => bindP (F_impl_areBounded r3 r4) fun r5 => (bif (!r5) then bindP (F_impl_Whole) fun r6 => r6 else bindP (F_impl_bounded r3.lo r4.hi true) fun r7 => r7))

def F_impl_AtanhI (a0 : Iv) : Iv :=
  bindP (F_impl_monotonic__impl_odd_1_p_impl_AtanhI_1 a0) fun r1 => r1

def F_impl_planar (a0 : Iv) (a1 : Iv) : Pn × I64 :=
  bindP (F_impl_areBounded a0 a1) fun r1 => (bif (!r1) then ((⟨(⟨(c64 0), (c64 0)⟩ : Iv), (⟨(c64 0), (c64 0)⟩ : Iv)⟩ : Pn), (c64 9)) else ((⟨a0, a1⟩ : Pn), (c64 0)))

def F_impl_TransverseForward (a0 : Pj) (a1 : Pt) : Pn × I64 :=
  bindP (F_impl_transverse a0 a1) fun r1 => (bif (r1.2.2.2.val != 0) then ((⟨(⟨(c64 0), (c64 0)⟩ : Iv), (⟨(c64 0), (c64 0)⟩ : Iv)⟩ : Pn), r1.2.2.2) else bindP (F_impl_AtanhI r1.2.2.1) fun r2 => bindP (F_impl_SinI r1.1) fun r3 => bindP (F_impl_CosI r1.1) fun r4 => bindP (F_impl_CosI r1.2.1) fun r5 => bindP (F_impl_MulI r4 r5) fun r6 => bindP (F_impl_DirectionI r3 r6) fun r7 => bindP (F_impl_RadiansOf a0.lat0) fun r8 => bindP (F_impl_SubI r7 r8) fun r9 => bindP (F_impl_planar r2 r9) fun r10 => (r10.1, r10.2))

def F_laws_eqPlanar (a0 : Pn) (a1 : Pn) : Bool :=
  bindP (F_laws_eqInterval a0.x a1.x) fun r1 => (bif (!r1) then false else bindP (F_laws_eqInterval a0.y a1.y) fun r2 => (bif (!r2) then false else true))

def F_laws_FnExactTransverseForward (a0 : Pj) (a1 : Pt) : Bool :=
  bindP (F_laws_toProjection a0) fun r1 => bindP (F_laws_toPoint a1) fun r2 => bindP (F_spec_TransverseForward r1 r2) fun r3 => bindP (F_laws_toProjection a0) fun r4 => bindP (F_laws_toPoint a1) fun r5 => bindP (F_impl_TransverseForward r4 r5) fun r6 => bindP (F_laws_eqPlanar r6.1 r3.1) fun r7 => (bif (!r7) then false else (bif (r6.2.val != r3.2.val) then false else true))

def F_spec_l18Kind (a0 : I64) : Bool :=
  bindP (F_spec_l00In a0 (c64 5) (c64 9)) fun r1 => r1

def F_spec_l18Ok__pPj (b0 : Pj) : Bool :=
  bindP (F_spec_l18Kind b0.kind) fun r1 => (bif r1 then bindP (F_spec_ValidProjection b0) fun r2 => r2 else false)

def F_spec_SamePlace (a0 : Pt) (a1 : Pt) : Bool × I64 :=
  bindP (F_spec_l11Ok a0) fun r1 => (bif (!r1) then (false, (c64 1)) else bindP (F_spec_l11Ok a1) fun r2 => (bif (!r2) then (false, (c64 1)) else (bif ((a0.lat.val == a1.lat.val) && (a0.lon.val == a1.lon.val)) then (true, (c64 0)) else (bif (a0.lat.val == a1.lat.val) then bindP (F_spec_l11Pole a0) fun r3 => (r3, (c64 0)) else (false, (c64 0))))))

def F_spec_l18Local__pPj (b0 : Pj) (a0 : Pt) : Vc :=
  bindP (F_spec_RadiansOf b0.lat0) fun r1 => bindP (F_spec_RadiansOf a0.lat) fun r2 => bindP (F_spec_l11Wrap (w64 (a0.lon.val - b0.lon0.val))) fun r3 => bindP (F_spec_RadiansOf r3) fun r4 => bindP (F_spec_CosI r2) fun r5 => bindP (F_spec_SinI r4) fun r6 => bindP (F_spec_MulI r5 r6) fun r7 => bindP (F_spec_CosI r1) fun r8 => bindP (F_spec_SinI r2) fun r9 => bindP (F_spec_MulI r8 r9) fun r10 => bindP (F_spec_SinI r1) fun r11 => bindP (F_spec_CosI r2) fun r12 => bindP (F_spec_MulI r11 r12) fun r13 => bindP (F_spec_CosI r4) fun r14 => bindP (F_spec_MulI r13 r14) fun r15 => bindP (F_spec_SubI r10 r15) fun r16 => bindP (F_spec_SinI r1) fun r17 => bindP (F_spec_SinI r2) fun r18 => bindP (F_spec_MulI r17 r18) fun r19 => bindP (F_spec_CosI r1) fun r20 => bindP (F_spec_CosI r2) fun r21 => bindP (F_spec_MulI r20 r21) fun r22 => bindP (F_spec_CosI r4) fun r23 => bindP (F_spec_MulI r22 r23) fun r24 => bindP (F_spec_AddI r19 r24) fun r25 => (⟨r7, r16, r25⟩ : Vc)

def F_spec_LessI (a0 : Iv) (a1 : Iv) : I64 :=
  bindP (F_spec_l04Ok a0) fun r1 => (bif (!r1) then (c64 2) else bindP (F_spec_l04Ok a1) fun r2 => (bif (!r2) then (c64 2) else (bif (decide (a0.hi.val < a1.lo.val)) then (c64 1) else (bif (decide (a0.lo.val ≥ a1.hi.val)) then (c64 0) else (c64 2)))))

def F_spec_l10Ends (a0 : Iv) : I64 × I64 :=
  bindP (F_spec_AbsI a0) fun r1 => (r1.lo, r1.hi)

def F_spec_l10Sum (a0 : I64) (a1 : I64) (a2 : I64) : Wd :=
  bindP (F_spec_l02Mul a0 a0) fun r1 => bindP (F_spec_l02Mul a1 a1) fun r2 => bindP (F_spec_l02Plus r1 r2) fun r3 => bindP (F_spec_l02Mul a2 a2) fun r4 => bindP (F_spec_l02Plus r3 r4) fun r5 => r5

def F_spec_NormV (a0 : Vc) : Iv :=
  bindP (F_spec_IsWhole a0.x) fun r1 => (bif r1 then bindP (F_spec_Whole) fun r2 => r2 else bindP (F_spec_IsWhole a0.y) fun r3 => (bif r3 then bindP (F_spec_Whole) fun r4 => r4 else bindP (F_spec_IsWhole a0.z) fun r5 => (bif r5 then bindP (F_spec_Whole) fun r6 => r6 else bindP (F_spec_l10Ends a0.x) fun r7 => bindP (F_spec_l10Ends a0.y) fun r8 => bindP (F_spec_l10Ends a0.z) fun r9 => bindP (F_spec_l10Sum r7.1 r8.1 r9.1) fun r10 => bindP (F_spec_l02Root r10) fun r11 => bindP (F_spec_l10Sum r7.2 r8.2 r9.2) fun r12 => bindP (F_spec_l02Root r12) fun r13 => bindP (F_spec_l02Mul (w64 r13.val) (w64 r13.val)) fun r14 => (bif (!((r14.hi.val == r12.hi.val) && (r14.lo.val == r12.lo.val))) then (bif (decide ((w64 ((w64 r13.val).val + 1)).val ≥ 1152921504606846976)) then bindP (F_spec_Whole) fun r15 => r15 else (⟨(w64 r11.val), (w64 ((w64 r13.val).val + 1))⟩ : Iv)) else (bif (decide ((w64 r13.val).val ≥ 1152921504606846976)) then bindP (F_spec_Whole) fun r16 => r16 else (⟨(w64 r11.val), (w64 r13.val)⟩ : Iv))))))

def F_spec_l15Flat (a0 : Vc) : Iv :=
  bindP (F_spec_NormV (⟨a0.x, a0.y, (⟨(c64 0), (c64 0)⟩ : Iv)⟩ : Vc)) fun r1 => r1

def F_spec_l18Factor (a0 : I64) (a1 : Vc) : Iv × I64 :=
  bindP (F_spec_Integer (c64 1)) fun r1 => bindP (F_spec_Integer (c64 0)) fun r2 => (bif (a0.val == 5) then bindP (F_spec_LessI r2 a1.z) fun r3 => (bif (r3.val == 0) then ((⟨(c64 0), (c64 0)⟩ : Iv), (c64 8)) else bindP (F_spec_DivI r1 a1.z) fun r4 => (r4, (c64 0))) else (bif (a0.val == 6) then bindP (F_spec_Integer (c64 2)) fun r5 => bindP (F_spec_AddI r1 a1.z) fun r6 => bindP (F_spec_DivI r5 r6) fun r7 => (r7, (c64 0)) else (bif (a0.val == 7) then bindP (F_spec_LessI a1.z r2) fun r8 => (bif (r8.val == 1) then ((⟨(c64 0), (c64 0)⟩ : Iv), (c64 8)) else (bif (decide (a1.z.lo.val < 0)) then bindP (F_spec_Whole) fun r9 => (r9, (c64 0)) else (r1, (c64 0)))) else (bif (a0.val == 8) then bindP (F_spec_l15Flat a1) fun r10 => (bif (decide (r10.lo.val > 0)) then bindP (F_spec_DirectionI r10 a1.z) fun r11 => bindP (F_spec_DivI r11 r10) fun r12 => (r12, (c64 0)) else bindP (F_spec_DivI r1 a1.z) fun r13 => bindP (F_spec_HullI r1 r13) fun r14 => (r14, (c64 0))) else bindP (F_spec_Integer (c64 2)) fun r15 => bindP (F_spec_AddI r1 a1.z) fun r16 => bindP (F_spec_DivI r15 r16) fun r17 => bindP (F_spec_SqrtI r17) fun r18 => (r18, (c64 0))))))

def F_spec_AzimuthalForward (a0 : Pj) (a1 : Pt) : Pn × I64 :=
  bindP (F_spec_l18Ok__pPj a0) fun r1 => (bif (!r1) then ((⟨(⟨(c64 0), (c64 0)⟩ : Iv), (⟨(c64 0), (c64 0)⟩ : Iv)⟩ : Pn), (c64 1)) else bindP (F_spec_l11Ok a1) fun r2 => (bif (!r2) then ((⟨(⟨(c64 0), (c64 0)⟩ : Iv), (⟨(c64 0), (c64 0)⟩ : Iv)⟩ : Pn), (c64 1)) else bindP (F_spec_l11Wrap (w64 (a0.lon0.val + 1800000000))) fun r3 => bindP (F_spec_SamePlace a1 (⟨(w64 (0 - a0.lat0.val)), r3⟩ : Pt)) fun r4 => (bif r4.1 then ((⟨(⟨(c64 0), (c64 0)⟩ : Iv), (⟨(c64 0), (c64 0)⟩ : Iv)⟩ : Pn), (c64 8)) else bindP (F_spec_l18Local__pPj a0 a1) fun r5 => bindP (F_spec_l18Factor a0.kind r5) fun r6 => (bif (r6.2.val != 0) then ((⟨(⟨(c64 0), (c64 0)⟩ : Iv), (⟨(c64 0), (c64 0)⟩ : Iv)⟩ : Pn), r6.2) else bindP (F_spec_MulI r6.1 r5.x) fun r7 => bindP (F_spec_MulI r6.1 r5.y) fun r8 => bindP (F_spec_IsWhole r7) fun r9 => (bif r9 then ((⟨(⟨(c64 0), (c64 0)⟩ : Iv), (⟨(c64 0), (c64 0)⟩ : Iv)⟩ : Pn), (c64 9)) else bindP (F_spec_IsWhole r8) fun r10 => (bif r10 then ((⟨(⟨(c64 0), (c64 0)⟩ : Iv), (⟨(c64 0), (c64 0)⟩ : Iv)⟩ : Pn), (c64 9)) else ((⟨r7, r8⟩ : Pn), (c64 0))))))))

def F_impl_isAzimuthalOne (a0 : Pj) : Bool :=
  bindP (F_impl_ValidProjection a0) fun r1 => (bif r1 then bindP (F_impl_isAzimuthal a0.kind) fun r2 => r2 else false)

end Go.Proofs.YtgofhiehdpggkaaGreat.Abs
