/- The functions, on numbers; part 6 (written by w.py). -/
import Derived.Test.YtclbkeejhnmeoaaGreatF5
set_option linter.unusedVariables false
set_option linter.unusedSimpArgs false
namespace Go.Proofs.YtclbkeejhnmeoaaGreat.Abs
open Go Go.RowKit

def F_spec_l08Sinh (a0 : I64) : Iv :=
  bindP (F_spec_ExpAt a0) fun r1 => bindP (F_spec_ExpAt (w64 (0 - a0.val))) fun r2 => bindP (F_spec_SubI r1 r2) fun r3 => bindP (F_spec_HalfI r3) fun r4 => r4

def F_spec_SinhI (a0 : Iv) : Iv :=
  bindP (F_spec_l04Ok a0) fun r1 => (bif (!r1) then bindP (F_spec_l04Whole) fun r2 => r2 else bindP (F_spec_l08Sinh a0.lo) fun r3 => bindP (F_spec_l08Sinh a0.hi) fun r4 => bindP (F_spec_l08Ends r3 r4) fun r5 => r5)

def F_spec_ConicInverse (a0 : Pj) (a1 : Pn) : Iv × Iv × I64 :=
  bindP (F_spec_l19Ok a0) fun r1 => (bif (!r1) then ((⟨(c64 0), (c64 0)⟩ : Iv), (⟨(c64 0), (c64 0)⟩ : Iv), (c64 1)) else bindP (F_spec_l19Cone a0) fun r2 => bindP (F_spec_l19Constant a0 r2) fun r3 => bindP (F_spec_RadiansOf a0.lat0) fun r4 => bindP (F_spec_l19Radius a0.kind r2 r3 r4) fun r5 => bindP (F_spec_SubI r5 a1.y) fun r6 => bindP (F_spec_SqrI a1.x) fun r7 => bindP (F_spec_SqrI r6) fun r8 => bindP (F_spec_AddI r7 r8) fun r9 => bindP (F_spec_SqrtI r9) fun r10 => bindP (F_spec_DirectionI a1.x r6) fun r11 => (bif (decide ((w64 (a0.lat1.val + a0.lat2.val)).val < 0)) then bindP (F_spec_NegI r10) fun r12 => bindP (F_spec_NegI a1.x) fun r13 => bindP (F_spec_NegI r6) fun r14 => bindP (F_spec_DirectionI r13 r14) fun r15 => bindP (F_spec_DivI r15 r2) fun r16 => (bif (a0.kind.val == 10) then bindP (F_spec_MulI r12 r2) fun r17 => bindP (F_spec_SqrI r17) fun r18 => bindP (F_spec_SubI r3 r18) fun r19 => bindP (F_spec_Integer (c64 2)) fun r20 => bindP (F_spec_MulI r20 r2) fun r21 => bindP (F_spec_DivI r19 r21) fun r22 => bindP (F_spec_l04Ok r22) fun r23 => (bif r23 then bindP (F_spec_l06Ring) fun r24 => bindP (F_spec_OverlapI r22 r24) fun r25 => (bif (!r25) then ((⟨(c64 0), (c64 0)⟩ : Iv), (⟨(c64 0), (c64 0)⟩ : Iv), (c64 8)) else bindP (F_spec_AsinI r22) fun r26 => bindP (F_spec_l17Back a0 r26 r16) fun r27 => (r27.1, r27.2.1, r27.2.2)) else bindP (F_spec_AsinI r22) fun r28 => bindP (F_spec_l17Back a0 r28 r16) fun r29 => (r29.1, r29.2.1, r29.2.2)) else (bif (a0.kind.val == 11) then bindP (F_spec_DivI r3 r12) fun r30 => bindP (F_spec_LogI r30) fun r31 => bindP (F_spec_DivI r31 r2) fun r32 => bindP (F_spec_SinhI r32) fun r33 => bindP (F_spec_AtanI r33) fun r34 => bindP (F_spec_l17Back a0 r34 r16) fun r35 => (r35.1, r35.2.1, r35.2.2) else bindP (F_spec_SubI r3 r12) fun r36 => bindP (F_spec_l17Back a0 r36 r16) fun r37 => (r37.1, r37.2.1, r37.2.2))) else bindP (F_spec_DivI r11 r2) fun r38 => (bif (a0.kind.val == 10) then bindP (F_spec_MulI r10 r2) fun r39 => bindP (F_spec_SqrI r39) fun r40 => bindP (F_spec_SubI r3 r40) fun r41 => bindP (F_spec_Integer (c64 2)) fun r42 => bindP (F_spec_MulI r42 r2) fun r43 => bindP (F_spec_DivI r41 r43) fun r44 => bindP (F_spec_l04Ok r44) fun r45 => (bif r45 then bindP (F_spec_l06Ring) fun r46 => bindP (F_spec_OverlapI r44 r46) fun r47 => (bif (!r47) then ((⟨(c64 0), (c64 0)⟩ : Iv), (⟨(c64 0), (c64 0)⟩ : Iv), (c64 8)) else bindP (F_spec_AsinI r44) fun r48 => bindP (F_spec_l17Back a0 r48 r38) fun r49 => (r49.1, r49.2.1, r49.2.2)) else bindP (F_spec_AsinI r44) fun r50 => bindP (F_spec_l17Back a0 r50 r38) fun r51 => (r51.1, r51.2.1, r51.2.2)) else (bif (a0.kind.val == 11) then bindP (F_spec_DivI r3 r10) fun r52 => bindP (F_spec_LogI r52) fun r53 => bindP (F_spec_DivI r53 r2) fun r54 => bindP (F_spec_SinhI r54) fun r55 => bindP (F_spec_AtanI r55) fun r56 => bindP (F_spec_l17Back a0 r56 r38) fun r57 => (r57.1, r57.2.1, r57.2.2) else bindP (F_spec_SubI r3 r10) fun r58 => bindP (F_spec_l17Back a0 r58 r38) fun r59 => (r59.1, r59.2.1, r59.2.2)))))

def F_impl_CircleAt (a0 : I64) : Iv :=
  bindP (F_impl_within a0 (c64 (-4294967296)) (c64 4294967296)) fun r1 => (bif (!r1) then bindP (F_impl_Whole) fun r2 => r2 else bindP (F_impl_SqrtFloor (w64 (4294967296 - a0.val)) (w64 (4294967296 + a0.val))) fun r3 => bindP (F_impl_WideMul r3.1 r3.1) fun r4 => bindP (F_impl_WideMul (w64 (4294967296 - a0.val)) (w64 (4294967296 + a0.val))) fun r5 => (bif ((r4.hi.val == r5.hi.val) && (r4.lo.val == r5.lo.val)) then bindP (F_impl_at r3.1) fun r6 => r6 else (⟨r3.1, (w64 (r3.1.val + 1))⟩ : Iv)))

def F_impl_AsinAt (a0 : I64) : Iv :=
  bindP (F_impl_within a0 (c64 (-4294967296)) (c64 4294967296)) fun r1 => (bif (!r1) then bindP (F_impl_Whole) fun r2 => r2 else bindP (F_impl_at a0) fun r3 => bindP (F_impl_Integer (c64 1)) fun r4 => bindP (F_impl_CircleAt a0) fun r5 => bindP (F_impl_AddI r4 r5) fun r6 => bindP (F_impl_DivI r3 r6) fun r7 => bindP (F_impl_AtanI r7) fun r8 => bindP (F_impl_DoubleI r8) fun r9 => bindP (F_impl_halfCircle) fun r10 => bindP (F_impl_MeetI r9 r10) fun r11 => r11.1)

def F_impl_AsinI (a0 : Iv) : Iv :=
  bindP (F_impl_ring) fun r1 => bindP (F_impl_MeetI a0 r1) fun r2 => (bif (!r2.2) then bindP (F_impl_Whole) fun r3 => r3 else bindP (F_impl_AsinAt r2.1.lo) fun r4 => bindP (F_impl_AsinAt r2.1.hi) fun r5 => bindP (F_impl_HullI r4 r5) fun r6 => r6)

def F_impl_SinhI_1 (a0 : I64) : Iv :=
  bindP (F_impl_ExpAt a0) fun r1 => bindP (F_impl_ExpAt (w64 (0 - a0.val))) fun r2 => bindP (F_impl_SubI r1 r2) fun r3 => bindP (F_impl_HalfI r3) fun r4 => r4

def F_impl_monotonic__impl_SinhI_1 (a0 : Iv) : Iv :=
  bindP (F_impl_IsWhole a0) fun r1 => (bif r1 then bindP (F_impl_Whole) fun r2 => r2 else bindP (F_impl_SinhI_1 a0.lo) fun r3 => bindP (F_impl_SinhI_1 a0.hi) fun r4 => bindP (F_impl_areBounded r3 r4) fun r5 => (bif (!r5) then bindP (F_impl_Whole) fun r6 => r6 else bindP (F_impl_bounded r3.lo r4.hi true) fun r7 => r7))

def F_impl_SinhI (a0 : Iv) : Iv :=
  bindP (F_impl_monotonic__impl_SinhI_1 a0) fun r1 => r1

def F_impl_conic_inverseLat__pCn (b0 : Cn) (a0 : Iv) : Iv × Bool :=
  (bif (b0.p.kind.val == 10) then bindP (F_impl_MulI a0 b0.n) fun r1 => bindP (F_impl_SqrI r1) fun r2 => bindP (F_impl_SubI b0.g r2) fun r3 => bindP (F_impl_times (c64 2) b0.n) fun r4 => bindP (F_impl_DivI r3 r4) fun r5 => bindP (F_impl_AsinI r5) fun r6 => bindP (F_impl_ring) fun r7 => bindP (F_impl_OverlapI r5 r7) fun r8 => (r6, r8) else (bif (b0.p.kind.val == 11) then bindP (F_impl_DivI b0.g a0) fun r9 => bindP (F_impl_LogI r9) fun r10 => bindP (F_impl_DivI r10 b0.n) fun r11 => bindP (F_impl_SinhI r11) fun r12 => bindP (F_impl_AtanI r12) fun r13 => (r13, true) else bindP (F_impl_SubI b0.g a0) fun r14 => (r14, true)))

def F_impl_overlapsAny (a0 : Iv) (a1 : I64) : Bool :=
  bindP (F_impl_OverlapI a0 (⟨(w64 (0 - a1.val)), a1⟩ : Iv)) fun r1 => r1

def F_impl_pair (a0 : Iv) (a1 : Iv) : Iv × Iv × I64 :=
  bindP (F_impl_areBounded a0 a1) fun r1 => (bif (!r1) then ((⟨(c64 0), (c64 0)⟩ : Iv), (⟨(c64 0), (c64 0)⟩ : Iv), (c64 9)) else (a0, a1, (c64 0)))

def F_impl_onEarth (a0 : Iv) (a1 : Iv) (a2 : I64) : Iv × Iv × I64 :=
  bindP (F_impl_quarter) fun r1 => bindP (F_impl_overlapsAny a0 r1) fun r2 => (bif (!r2) then ((⟨(c64 0), (c64 0)⟩ : Iv), (⟨(c64 0), (c64 0)⟩ : Iv), (c64 8)) else bindP (F_impl_TurnI (c64 2)) fun r3 => bindP (F_impl_overlapsAny a1 r3.hi) fun r4 => (bif (!r4) then ((⟨(c64 0), (c64 0)⟩ : Iv), (⟨(c64 0), (c64 0)⟩ : Iv), (c64 8)) else bindP (F_impl_RadiansOf a2) fun r5 => bindP (F_impl_AddI a1 r5) fun r6 => bindP (F_impl_pair a0 r6) fun r7 => (r7.1, r7.2.1, r7.2.2)))

def F_impl_ConicInverse (a0 : Pj) (a1 : Pn) : Iv × Iv × I64 :=
  bindP (F_impl_newConic a0) fun r1 => (bif (r1.2.val != 0) then ((⟨(c64 0), (c64 0)⟩ : Iv), (⟨(c64 0), (c64 0)⟩ : Iv), (c64 1)) else bindP (F_impl_conic_radius__pCn r1.1 r1.1.o) fun r2 => bindP (F_impl_SubI r2 a1.y) fun r3 => bindP (F_impl_SqrI a1.x) fun r4 => bindP (F_impl_SqrI r3) fun r5 => bindP (F_impl_AddI r4 r5) fun r6 => bindP (F_impl_SqrtI r6) fun r7 => bindP (F_impl_DirectionI a1.x r3) fun r8 => (bif (decide ((w64 (a0.lat1.val + a0.lat2.val)).val < 0)) then bindP (F_impl_NegI r7) fun r10 => bindP (F_impl_NegI a1.x) fun r11 => bindP (F_impl_NegI r3) fun r12 => bindP (F_impl_DirectionI r11 r12) fun r13 => bindP (F_impl_conic_inverseLat__pCn r1.1 r10) fun r14 => (bif (!r14.2) then ((⟨(c64 0), (c64 0)⟩ : Iv), (⟨(c64 0), (c64 0)⟩ : Iv), (c64 8)) else bindP (F_impl_DivI r13 r1.1.n) fun r16 => bindP (F_impl_onEarth r14.1 r16 a0.lon0) fun r17 => (r17.1, r17.2.1, r17.2.2)) else bindP (F_impl_conic_inverseLat__pCn r1.1 r7) fun r18 => (bif (!r18.2) then ((⟨(c64 0), (c64 0)⟩ : Iv), (⟨(c64 0), (c64 0)⟩ : Iv), (c64 8)) else bindP (F_impl_DivI r8 r1.1.n) fun r20 => bindP (F_impl_onEarth r18.1 r20 a0.lon0) fun r21 => (r21.1, r21.2.1, r21.2.2))))

def F_laws_FnExactConicInverse (a0 : Pj) (a1 : Pn) : Bool :=
  bindP (F_laws_toProjection a0) fun r1 => bindP (F_laws_toPlanar a1) fun r2 => bindP (F_spec_ConicInverse r1 r2) fun r3 => bindP (F_laws_toProjection a0) fun r4 => bindP (F_laws_toPlanar a1) fun r5 => bindP (F_impl_ConicInverse r4 r5) fun r6 => bindP (F_laws_eqInterval r6.1 r3.1) fun r7 => (bif (!r7) then false else bindP (F_laws_eqInterval r6.2.1 r3.2.1) fun r8 => (bif (!r8) then false else (bif (r6.2.2.val != r3.2.2.val) then false else true)))

def F_spec_l22Family (a0 : I64) : I64 :=
  bindP (F_spec_l00In a0 (c64 1) (c64 4)) fun r1 => (bif r1 then (c64 1) else bindP (F_spec_l00In a0 (c64 5) (c64 9)) fun r2 => (bif r2 then (c64 2) else bindP (F_spec_l00In a0 (c64 10) (c64 12)) fun r3 => (bif r3 then (c64 3) else bindP (F_spec_l00In a0 (c64 13) (c64 15)) fun r4 => (bif r4 then (c64 4) else (bif (a0.val == 16) then (c64 5) else (c64 0))))))

def F_spec_l17Cylinder (a0 : Pj) : Bool :=
  bindP (F_spec_l17Ok a0) fun r1 => (bif r1 then bindP (F_spec_l00In a0.kind (c64 1) (c64 4)) fun r2 => r2 else false)

def F_spec_l17Scales (a0 : Iv) (a1 : Iv) : Iv × Iv × I64 :=
  bindP (F_spec_l04Ok a0) fun r1 => (bif (!r1) then ((⟨(c64 0), (c64 0)⟩ : Iv), (⟨(c64 0), (c64 0)⟩ : Iv), (c64 9)) else bindP (F_spec_l04Ok a1) fun r2 => (bif (!r2) then ((⟨(c64 0), (c64 0)⟩ : Iv), (⟨(c64 0), (c64 0)⟩ : Iv), (c64 9)) else (a0, a1, (c64 0))))

def F_spec_CylinderScales (a0 : Pj) (a1 : Pt) : Iv × Iv × I64 :=
  bindP (F_spec_l17Cylinder a0) fun r1 => (bif (!r1) then ((⟨(c64 0), (c64 0)⟩ : Iv), (⟨(c64 0), (c64 0)⟩ : Iv), (c64 1)) else bindP (F_spec_l11Ok a1) fun r2 => (bif (!r2) then ((⟨(c64 0), (c64 0)⟩ : Iv), (⟨(c64 0), (c64 0)⟩ : Iv), (c64 1)) else bindP (F_spec_l11Pole a1) fun r3 => (bif r3 then ((⟨(c64 0), (c64 0)⟩ : Iv), (⟨(c64 0), (c64 0)⟩ : Iv), (c64 8)) else bindP (F_spec_RadiansOf a0.lat1) fun r4 => bindP (F_spec_CosI r4) fun r5 => bindP (F_spec_LatOf a1) fun r6 => bindP (F_spec_CosI r6) fun r7 => (bif (a0.kind.val == 1) then bindP (F_spec_Integer (c64 1)) fun r8 => bindP (F_spec_DivI r5 r7) fun r9 => bindP (F_spec_l17Scales r8 r9) fun r10 => (r10.1, r10.2.1, r10.2.2) else (bif (a0.kind.val == 2) then bindP (F_spec_Integer (c64 1)) fun r11 => bindP (F_spec_DivI r11 r7) fun r12 => bindP (F_spec_Integer (c64 1)) fun r13 => bindP (F_spec_DivI r13 r7) fun r14 => bindP (F_spec_l17Scales r12 r14) fun r15 => (r15.1, r15.2.1, r15.2.2) else (bif (a0.kind.val == 3) then bindP (F_spec_DivI r7 r5) fun r16 => bindP (F_spec_DivI r5 r7) fun r17 => bindP (F_spec_l17Scales r16 r17) fun r18 => (r18.1, r18.2.1, r18.2.2) else bindP (F_spec_Integer (c64 1)) fun r19 => bindP (F_spec_Quotient (c64 4) (c64 5)) fun r20 => bindP (F_spec_LatOf a1) fun r21 => bindP (F_spec_MulI r20 r21) fun r22 => bindP (F_spec_CosI r22) fun r23 => bindP (F_spec_DivI r19 r23) fun r24 => bindP (F_spec_Integer (c64 1)) fun r25 => bindP (F_spec_DivI r25 r7) fun r26 => bindP (F_spec_l17Scales r24 r26) fun r27 => (r27.1, r27.2.1, r27.2.2)))))))

def F_spec_SamePlace (a0 : Pt) (a1 : Pt) : Bool × I64 :=
  bindP (F_spec_l11Ok a0) fun r1 => (bif (!r1) then (false, (c64 1)) else bindP (F_spec_l11Ok a1) fun r2 => (bif (!r2) then (false, (c64 1)) else (bif ((a0.lat.val == a1.lat.val) && (a0.lon.val == a1.lon.val)) then (true, (c64 0)) else (bif (a0.lat.val == a1.lat.val) then bindP (F_spec_l11Pole a0) fun r3 => (r3, (c64 0)) else (false, (c64 0))))))

def F_spec_l18Local__pPj (b0 : Pj) (a0 : Pt) : Vc :=
  bindP (F_spec_RadiansOf b0.lat0) fun r1 => bindP (F_spec_RadiansOf a0.lat) fun r2 => bindP (F_spec_l11Wrap (w64 (a0.lon.val - b0.lon0.val))) fun r3 => bindP (F_spec_RadiansOf r3) fun r4 => bindP (F_spec_CosI r2) fun r5 => bindP (F_spec_SinI r4) fun r6 => bindP (F_spec_MulI r5 r6) fun r7 => bindP (F_spec_CosI r1) fun r8 => bindP (F_spec_SinI r2) fun r9 => bindP (F_spec_MulI r8 r9) fun r10 => bindP (F_spec_SinI r1) fun r11 => bindP (F_spec_CosI r2) fun r12 => bindP (F_spec_MulI r11 r12) fun r13 => bindP (F_spec_CosI r4) fun r14 => bindP (F_spec_MulI r13 r14) fun r15 => bindP (F_spec_SubI r10 r15) fun r16 => bindP (F_spec_SinI r1) fun r17 => bindP (F_spec_SinI r2) fun r18 => bindP (F_spec_MulI r17 r18) fun r19 => bindP (F_spec_CosI r1) fun r20 => bindP (F_spec_CosI r2) fun r21 => bindP (F_spec_MulI r20 r21) fun r22 => bindP (F_spec_CosI r4) fun r23 => bindP (F_spec_MulI r22 r23) fun r24 => bindP (F_spec_AddI r19 r24) fun r25 => (⟨r7, r16, r25⟩ : Vc)

def F_spec_l18Factor (a0 : I64) (a1 : Vc) : Iv × I64 :=
  bindP (F_spec_Integer (c64 1)) fun r1 => bindP (F_spec_Integer (c64 0)) fun r2 => (bif (a0.val == 5) then bindP (F_spec_LessI r2 a1.z) fun r3 => (bif (r3.val == 0) then ((⟨(c64 0), (c64 0)⟩ : Iv), (c64 8)) else bindP (F_spec_DivI r1 a1.z) fun r4 => (r4, (c64 0))) else (bif (a0.val == 6) then bindP (F_spec_Integer (c64 2)) fun r5 => bindP (F_spec_AddI r1 a1.z) fun r6 => bindP (F_spec_DivI r5 r6) fun r7 => (r7, (c64 0)) else (bif (a0.val == 7) then bindP (F_spec_LessI a1.z r2) fun r8 => (bif (r8.val == 1) then ((⟨(c64 0), (c64 0)⟩ : Iv), (c64 8)) else (bif (decide (a1.z.lo.val < 0)) then bindP (F_spec_Whole) fun r9 => (r9, (c64 0)) else (r1, (c64 0)))) else (bif (a0.val == 8) then bindP (F_spec_l15Flat a1) fun r10 => (bif (decide (r10.lo.val > 0)) then bindP (F_spec_DirectionI r10 a1.z) fun r11 => bindP (F_spec_DivI r11 r10) fun r12 => (r12, (c64 0)) else bindP (F_spec_DivI r1 a1.z) fun r13 => bindP (F_spec_HullI r1 r13) fun r14 => (r14, (c64 0))) else bindP (F_spec_Integer (c64 2)) fun r15 => bindP (F_spec_AddI r1 a1.z) fun r16 => bindP (F_spec_DivI r15 r16) fun r17 => bindP (F_spec_SqrtI r17) fun r18 => (r18, (c64 0))))))

def F_spec_AzimuthalForward (a0 : Pj) (a1 : Pt) : Pn × I64 :=
  bindP (F_spec_l18Ok__pPj a0) fun r1 => (bif (!r1) then ((⟨(⟨(c64 0), (c64 0)⟩ : Iv), (⟨(c64 0), (c64 0)⟩ : Iv)⟩ : Pn), (c64 1)) else bindP (F_spec_l11Ok a1) fun r2 => (bif (!r2) then ((⟨(⟨(c64 0), (c64 0)⟩ : Iv), (⟨(c64 0), (c64 0)⟩ : Iv)⟩ : Pn), (c64 1)) else bindP (F_spec_l11Wrap (w64 (a0.lon0.val + 1800000000))) fun r3 => bindP (F_spec_SamePlace a1 (⟨(w64 (0 - a0.lat0.val)), r3⟩ : Pt)) fun r4 => (bif r4.1 then ((⟨(⟨(c64 0), (c64 0)⟩ : Iv), (⟨(c64 0), (c64 0)⟩ : Iv)⟩ : Pn), (c64 8)) else bindP (F_spec_l18Local__pPj a0 a1) fun r5 => bindP (F_spec_l18Factor a0.kind r5) fun r6 => (bif (r6.2.val != 0) then ((⟨(⟨(c64 0), (c64 0)⟩ : Iv), (⟨(c64 0), (c64 0)⟩ : Iv)⟩ : Pn), r6.2) else bindP (F_spec_MulI r6.1 r5.x) fun r7 => bindP (F_spec_MulI r6.1 r5.y) fun r8 => bindP (F_spec_IsWhole r7) fun r9 => (bif r9 then ((⟨(⟨(c64 0), (c64 0)⟩ : Iv), (⟨(c64 0), (c64 0)⟩ : Iv)⟩ : Pn), (c64 9)) else bindP (F_spec_IsWhole r8) fun r10 => (bif r10 then ((⟨(⟨(c64 0), (c64 0)⟩ : Iv), (⟨(c64 0), (c64 0)⟩ : Iv)⟩ : Pn), (c64 9)) else ((⟨r7, r8⟩ : Pn), (c64 0))))))))

def F_spec_l15Vec (a0 : Pt) : Vc :=
  bindP (F_spec_RadiansOf a0.lat) fun r1 => bindP (F_spec_RadiansOf a0.lon) fun r2 => bindP (F_spec_CosI r1) fun r3 => bindP (F_spec_CosI r2) fun r4 => bindP (F_spec_MulI r3 r4) fun r5 => bindP (F_spec_SinI r2) fun r6 => bindP (F_spec_MulI r3 r6) fun r7 => bindP (F_spec_SinI r1) fun r8 => (⟨r5, r7, r8⟩ : Vc)

def F_spec_CrossV (a0 : Vc) (a1 : Vc) : Vc :=
  bindP (F_spec_MulI a0.y a1.z) fun r1 => bindP (F_spec_MulI a0.z a1.y) fun r2 => bindP (F_spec_SubI r1 r2) fun r3 => bindP (F_spec_MulI a0.z a1.x) fun r4 => bindP (F_spec_MulI a0.x a1.z) fun r5 => bindP (F_spec_SubI r4 r5) fun r6 => bindP (F_spec_MulI a0.x a1.y) fun r7 => bindP (F_spec_MulI a0.y a1.x) fun r8 => bindP (F_spec_SubI r7 r8) fun r9 => (⟨r3, r6, r9⟩ : Vc)

def F_spec_l15Angle (a0 : Vc) (a1 : Vc) : Iv :=
  bindP (F_spec_CrossV a0 a1) fun r1 => bindP (F_spec_NormV r1) fun r2 => bindP (F_spec_DotV a0 a1) fun r3 => bindP (F_spec_DirectionI r2 r3) fun r4 => r4

def F_spec_l15Known (a0 : Iv) : Iv × I64 :=
  bindP (F_spec_IsWhole a0) fun r1 => (bif r1 then ((⟨(c64 0), (c64 0)⟩ : Iv), (c64 9)) else (a0, (c64 0)))

def F_spec_AngleBetween (a0 : Pt) (a1 : Pt) : Iv × I64 :=
  bindP (F_spec_l11Ok a0) fun r1 => (bif (!r1) then ((⟨(c64 0), (c64 0)⟩ : Iv), (c64 1)) else bindP (F_spec_l11Ok a1) fun r2 => (bif (!r2) then ((⟨(c64 0), (c64 0)⟩ : Iv), (c64 1)) else bindP (F_spec_l15Vec a0) fun r3 => bindP (F_spec_l15Vec a1) fun r4 => bindP (F_spec_l15Angle r3 r4) fun r5 => bindP (F_spec_l15Known r5) fun r6 => (r6.1, r6.2)))

def F_spec_l22Azimuthal (a0 : Pj) (a1 : Pt) : Iv × Iv × I64 :=
  bindP (F_spec_AzimuthalForward a0 a1) fun r1 => (bif (r1.2.val != 0) then ((⟨(c64 0), (c64 0)⟩ : Iv), (⟨(c64 0), (c64 0)⟩ : Iv), r1.2) else bindP (F_spec_AngleBetween (⟨a0.lat0, a0.lon0⟩ : Pt) a1) fun r2 => (bif (r2.2.val != 0) then ((⟨(c64 0), (c64 0)⟩ : Iv), (⟨(c64 0), (c64 0)⟩ : Iv), r2.2) else bindP (F_spec_Integer (c64 1)) fun r3 => bindP (F_spec_CosI r2.1) fun r4 => bindP (F_spec_HalfI r2.1) fun r5 => bindP (F_spec_CosI r5) fun r6 => (bif (a0.kind.val == 5) then bindP (F_spec_SqrI r4) fun r7 => bindP (F_spec_DivI r3 r7) fun r8 => bindP (F_spec_DivI r3 r4) fun r9 => bindP (F_spec_l17Scales r8 r9) fun r10 => (r10.1, r10.2.1, r10.2.2) else (bif (a0.kind.val == 6) then bindP (F_spec_SqrI r6) fun r11 => bindP (F_spec_DivI r3 r11) fun r12 => bindP (F_spec_SqrI r6) fun r13 => bindP (F_spec_DivI r3 r13) fun r14 => bindP (F_spec_l17Scales r12 r14) fun r15 => (r15.1, r15.2.1, r15.2.2) else (bif (a0.kind.val == 7) then bindP (F_spec_l17Scales r4 r3) fun r16 => (r16.1, r16.2.1, r16.2.2) else (bif (a0.kind.val == 8) then (bif (decide (r2.1.lo.val > 0)) then bindP (F_spec_SinI r2.1) fun r17 => bindP (F_spec_DivI r2.1 r17) fun r18 => bindP (F_spec_l17Scales r3 r18) fun r19 => (r19.1, r19.2.1, r19.2.2) else bindP (F_spec_DivI r3 r4) fun r20 => bindP (F_spec_HullI r3 r20) fun r21 => bindP (F_spec_l17Scales r3 r21) fun r22 => (r22.1, r22.2.1, r22.2.2)) else bindP (F_spec_DivI r3 r6) fun r23 => bindP (F_spec_l17Scales r6 r23) fun r24 => (r24.1, r24.2.1, r24.2.2)))))))

def F_spec_l19Scale (a0 : Pj) (a1 : Iv) : Iv :=
  bindP (F_spec_l19Cone a0) fun r1 => bindP (F_spec_l19Constant a0 r1) fun r2 => bindP (F_spec_l19Radius a0.kind r1 r2 a1) fun r3 => bindP (F_spec_MulI r1 r3) fun r4 => bindP (F_spec_CosI a1) fun r5 => bindP (F_spec_DivI r4 r5) fun r6 => r6

def F_spec_ConicScales (a0 : Pj) (a1 : Pt) : Iv × Iv × I64 :=
  bindP (F_spec_l19Ok a0) fun r1 => (bif (!r1) then ((⟨(c64 0), (c64 0)⟩ : Iv), (⟨(c64 0), (c64 0)⟩ : Iv), (c64 1)) else bindP (F_spec_l11Ok a1) fun r2 => (bif (!r2) then ((⟨(c64 0), (c64 0)⟩ : Iv), (⟨(c64 0), (c64 0)⟩ : Iv), (c64 1)) else bindP (F_spec_l11Pole a1) fun r3 => (bif r3 then ((⟨(c64 0), (c64 0)⟩ : Iv), (⟨(c64 0), (c64 0)⟩ : Iv), (c64 8)) else bindP (F_spec_LatOf a1) fun r4 => bindP (F_spec_l19Scale a0 r4) fun r5 => (bif (a0.kind.val == 10) then bindP (F_spec_Integer (c64 1)) fun r6 => bindP (F_spec_DivI r6 r5) fun r7 => bindP (F_spec_l17Scales r7 r5) fun r8 => (r8.1, r8.2.1, r8.2.2) else (bif (a0.kind.val == 11) then bindP (F_spec_l17Scales r5 r5) fun r9 => (r9.1, r9.2.1, r9.2.2) else bindP (F_spec_Integer (c64 1)) fun r10 => bindP (F_spec_l17Scales r10 r5) fun r11 => (r11.1, r11.2.1, r11.2.2))))))

def F_spec_l21Ok__pPj (b0 : Pj) : Bool :=
  (bif (b0.kind.val == 16) then bindP (F_spec_ValidProjection b0) fun r1 => r1 else false)

def F_spec_TransverseScale (a0 : Pj) (a1 : Pt) : Iv × I64 :=
  bindP (F_spec_l21Ok__pPj a0) fun r1 => (bif (!r1) then ((⟨(c64 0), (c64 0)⟩ : Iv), (c64 1)) else bindP (F_spec_l11Ok a1) fun r2 => (bif (!r2) then ((⟨(c64 0), (c64 0)⟩ : Iv), (c64 1)) else bindP (F_spec_l21Edge__pPj a0 a1) fun r3 => (bif r3 then ((⟨(c64 0), (c64 0)⟩ : Iv), (c64 8)) else bindP (F_spec_Integer (c64 1)) fun r4 => bindP (F_spec_Integer (c64 1)) fun r5 => bindP (F_spec_l21Side__pPj a0 a1) fun r6 => bindP (F_spec_SqrI r6) fun r7 => bindP (F_spec_SubI r5 r7) fun r8 => bindP (F_spec_SqrtI r8) fun r9 => bindP (F_spec_DivI r4 r9) fun r10 => bindP (F_spec_l15Known r10) fun r11 => (r11.1, r11.2))))

def F_spec_l22Scales (a0 : Pj) (a1 : Pt) : Iv × Iv × I64 :=
  bindP (F_spec_l17Ok a0) fun r1 => (bif (!r1) then ((⟨(c64 0), (c64 0)⟩ : Iv), (⟨(c64 0), (c64 0)⟩ : Iv), (c64 1)) else bindP (F_spec_l11Ok a1) fun r2 => (bif (!r2) then ((⟨(c64 0), (c64 0)⟩ : Iv), (⟨(c64 0), (c64 0)⟩ : Iv), (c64 1)) else bindP (F_spec_l22Family a0.kind) fun r3 => (bif (r3.val == 1) then bindP (F_spec_CylinderScales a0 a1) fun r4 => (r4.1, r4.2.1, r4.2.2) else (bif (r3.val == 2) then bindP (F_spec_l22Azimuthal a0 a1) fun r5 => (r5.1, r5.2.1, r5.2.2) else (bif (r3.val == 3) then bindP (F_spec_ConicScales a0 a1) fun r6 => (r6.1, r6.2.1, r6.2.2) else (bif (r3.val == 5) then bindP (F_spec_TransverseScale a0 a1) fun r7 => (bif (r7.2.val != 0) then ((⟨(c64 0), (c64 0)⟩ : Iv), (⟨(c64 0), (c64 0)⟩ : Iv), r7.2) else bindP (F_spec_l17Scales r7.1 r7.1) fun r8 => (r8.1, r8.2.1, r8.2.2)) else ((⟨(c64 0), (c64 0)⟩ : Iv), (⟨(c64 0), (c64 0)⟩ : Iv), (c64 3))))))))

def F_spec_ScalesOf (a0 : Pj) (a1 : Pt) : Iv × Iv × I64 :=
  bindP (F_spec_l22Scales a0 a1) fun r1 => (r1.1, r1.2.1, r1.2.2)

def F_impl_isCylindrical (a0 : I64) : Bool :=
  bindP (F_impl_within a0 (c64 1) (c64 4)) fun r1 => r1

def F_impl_isPseudo (a0 : I64) : Bool :=
  bindP (F_impl_within a0 (c64 13) (c64 15)) fun r1 => r1

def F_impl_FamilyOf (a0 : I64) : I64 :=
  bindP (F_impl_isCylindrical a0) fun r1 => (bif r1 then (c64 1) else bindP (F_impl_isAzimuthal a0) fun r2 => (bif r2 then (c64 2) else bindP (F_impl_isConic a0) fun r3 => (bif r3 then (c64 3) else bindP (F_impl_isPseudo a0) fun r4 => (bif r4 then (c64 4) else (bif (a0.val == 16) then (c64 5) else (c64 0))))))

def F_impl_CylinderScales (a0 : Pj) (a1 : Pt) : Iv × Iv × I64 :=
  bindP (F_impl_ValidProjection a0) fun r1 => (bif (!r1) then ((⟨(c64 0), (c64 0)⟩ : Iv), (⟨(c64 0), (c64 0)⟩ : Iv), (c64 1)) else bindP (F_impl_ValidPoint a1) fun r2 => (bif (!r2) then ((⟨(c64 0), (c64 0)⟩ : Iv), (⟨(c64 0), (c64 0)⟩ : Iv), (c64 1)) else bindP (F_impl_isCylindrical a0.kind) fun r3 => (bif (!r3) then ((⟨(c64 0), (c64 0)⟩ : Iv), (⟨(c64 0), (c64 0)⟩ : Iv), (c64 1)) else bindP (F_impl_isPole a1) fun r4 => (bif r4 then ((⟨(c64 0), (c64 0)⟩ : Iv), (⟨(c64 0), (c64 0)⟩ : Iv), (c64 8)) else bindP (F_impl_RadiansOf a0.lat1) fun r5 => bindP (F_impl_CosI r5) fun r6 => bindP (F_impl_LatOf a1) fun r7 => bindP (F_impl_CosI r7) fun r8 => bindP (F_impl_Integer (c64 1)) fun r9 => bindP (F_impl_DivI r9 r8) fun r10 => (bif (a0.kind.val == 1) then bindP (F_impl_Integer (c64 1)) fun r11 => bindP (F_impl_DivI r6 r8) fun r12 => bindP (F_impl_pair r11 r12) fun r13 => (r13.1, r13.2.1, r13.2.2) else (bif (a0.kind.val == 2) then bindP (F_impl_pair r10 r10) fun r14 => (r14.1, r14.2.1, r14.2.2) else (bif (a0.kind.val == 3) then bindP (F_impl_DivI r8 r6) fun r15 => bindP (F_impl_DivI r6 r8) fun r16 => bindP (F_impl_pair r15 r16) fun r17 => (r17.1, r17.2.1, r17.2.2) else bindP (F_impl_Integer (c64 1)) fun r18 => bindP (F_impl_Quotient (c64 4) (c64 5)) fun r19 => bindP (F_impl_LatOf a1) fun r20 => bindP (F_impl_MulI r19 r20) fun r21 => bindP (F_impl_CosI r21) fun r22 => bindP (F_impl_DivI r18 r22) fun r23 => bindP (F_impl_pair r23 r10) fun r24 => (r24.1, r24.2.1, r24.2.2))))))))

def F_impl_differenceOf (a0 : Pt) (a1 : Pt) : Iv :=
  bindP (F_impl_WrapLon (w64 (a1.lon.val - a0.lon.val))) fun r1 => bindP (F_impl_RadiansOf r1) fun r2 => r2

def F_impl_localOf (a0 : Iv) (a1 : Iv) (a2 : Iv) : Vc :=
  bindP (F_impl_CosI a1) fun r1 => bindP (F_impl_SinI a2) fun r2 => bindP (F_impl_MulI r1 r2) fun r3 => bindP (F_impl_CosI a0) fun r4 => bindP (F_impl_SinI a1) fun r5 => bindP (F_impl_MulI r4 r5) fun r6 => bindP (F_impl_SinI a0) fun r7 => bindP (F_impl_CosI a1) fun r8 => bindP (F_impl_MulI r7 r8) fun r9 => bindP (F_impl_CosI a2) fun r10 => bindP (F_impl_MulI r9 r10) fun r11 => bindP (F_impl_SubI r6 r11) fun r12 => bindP (F_impl_SinI a0) fun r13 => bindP (F_impl_SinI a1) fun r14 => bindP (F_impl_MulI r13 r14) fun r15 => bindP (F_impl_CosI a0) fun r16 => bindP (F_impl_CosI a1) fun r17 => bindP (F_impl_MulI r16 r17) fun r18 => bindP (F_impl_CosI a2) fun r19 => bindP (F_impl_MulI r18 r19) fun r20 => bindP (F_impl_AddI r15 r20) fun r21 => (⟨r3, r12, r21⟩ : Vc)

def F_impl_LocalOf (a0 : Pj) (a1 : Pt) : Vc × I64 :=
  bindP (F_impl_isAzimuthalOne a0) fun r1 => (bif (!r1) then ((⟨(⟨(c64 0), (c64 0)⟩ : Iv), (⟨(c64 0), (c64 0)⟩ : Iv), (⟨(c64 0), (c64 0)⟩ : Iv)⟩ : Vc), (c64 1)) else bindP (F_impl_ValidPoint a1) fun r2 => (bif (!r2) then ((⟨(⟨(c64 0), (c64 0)⟩ : Iv), (⟨(c64 0), (c64 0)⟩ : Iv), (⟨(c64 0), (c64 0)⟩ : Iv)⟩ : Vc), (c64 1)) else bindP (F_impl_Projection_centre a0) fun r3 => bindP (F_impl_LatOf r3) fun r4 => bindP (F_impl_LatOf a1) fun r5 => bindP (F_impl_Projection_centre a0) fun r6 => bindP (F_impl_differenceOf r6 a1) fun r7 => bindP (F_impl_localOf r4 r5 r7) fun r8 => (r8, (c64 0))))

def F_impl_Antipode (a0 : Pt) : Pt × I64 :=
  bindP (F_impl_ValidPoint a0) fun r1 => (bif (!r1) then ((⟨(c64 0), (c64 0)⟩ : Pt), (c64 1)) else bindP (F_impl_WrapLon (w64 (a0.lon.val + 1800000000))) fun r2 => ((⟨(w64 (0 - a0.lat.val)), r2⟩ : Pt), (c64 0)))

def F_impl_samePlace (a0 : Pt) (a1 : Pt) : Bool :=
  (bif ((a0.lat.val == a1.lat.val) && (a0.lon.val == a1.lon.val)) then true else bindP (F_impl_isPole a0) fun r1 => (bif r1 then (a0.lat.val == a1.lat.val) else false))

def F_impl_forwardFactor (a0 : I64) (a1 : Vc) : Iv :=
  (bif (a0.val == 5) then bindP (F_impl_Integer (c64 1)) fun r1 => bindP (F_impl_DivI r1 a1.z) fun r2 => r2 else (bif (a0.val == 6) then bindP (F_impl_Integer (c64 2)) fun r3 => bindP (F_impl_Integer (c64 1)) fun r4 => bindP (F_impl_AddI r4 a1.z) fun r5 => bindP (F_impl_DivI r3 r5) fun r6 => r6 else (bif (a0.val == 7) then (bif (decide (a1.z.lo.val < 0)) then bindP (F_impl_Whole) fun r7 => r7 else bindP (F_impl_Integer (c64 1)) fun r8 => r8) else (bif (a0.val == 9) then bindP (F_impl_Integer (c64 2)) fun r9 => bindP (F_impl_Integer (c64 1)) fun r10 => bindP (F_impl_AddI r10 a1.z) fun r11 => bindP (F_impl_DivI r9 r11) fun r12 => bindP (F_impl_SqrtI r12) fun r13 => r13 else bindP (F_impl_fromAxis a1) fun r14 => bindP (F_impl_isPositive r14) fun r15 => (bif r15 then bindP (F_impl_DirectionI r14 a1.z) fun r16 => bindP (F_impl_DivI r16 r14) fun r17 => r17 else bindP (F_impl_Integer (c64 1)) fun r18 => bindP (F_impl_Integer (c64 1)) fun r19 => bindP (F_impl_DivI r19 a1.z) fun r20 => bindP (F_impl_HullI r18 r20) fun r21 => r21)))))

def F_impl_AzimuthalForward (a0 : Pj) (a1 : Pt) : Pn × I64 :=
  bindP (F_impl_LocalOf a0 a1) fun r1 => (bif (r1.2.val != 0) then ((⟨(⟨(c64 0), (c64 0)⟩ : Iv), (⟨(c64 0), (c64 0)⟩ : Iv)⟩ : Pn), r1.2) else bindP (F_impl_Projection_centre a0) fun r2 => bindP (F_impl_Antipode r2) fun r3 => bindP (F_impl_samePlace a1 r3.1) fun r4 => (bif r4 then ((⟨(⟨(c64 0), (c64 0)⟩ : Iv), (⟨(c64 0), (c64 0)⟩ : Iv)⟩ : Pn), (c64 8)) else (bif (a0.kind.val == 5) then bindP (F_impl_Integer (c64 0)) fun r5 => bindP (F_impl_LessI r5 r1.1.z) fun r6 => (bif (r6.val == 0) then ((⟨(⟨(c64 0), (c64 0)⟩ : Iv), (⟨(c64 0), (c64 0)⟩ : Iv)⟩ : Pn), (c64 8)) else (bif (a0.kind.val == 7) then bindP (F_impl_Integer (c64 0)) fun r7 => bindP (F_impl_LessI r1.1.z r7) fun r8 => (bif (r8.val == 1) then ((⟨(⟨(c64 0), (c64 0)⟩ : Iv), (⟨(c64 0), (c64 0)⟩ : Iv)⟩ : Pn), (c64 8)) else bindP (F_impl_forwardFactor a0.kind r1.1) fun r9 => bindP (F_impl_MulI r9 r1.1.x) fun r10 => bindP (F_impl_MulI r9 r1.1.y) fun r11 => bindP (F_impl_planar r10 r11) fun r12 => (r12.1, r12.2)) else bindP (F_impl_forwardFactor a0.kind r1.1) fun r13 => bindP (F_impl_MulI r13 r1.1.x) fun r14 => bindP (F_impl_MulI r13 r1.1.y) fun r15 => bindP (F_impl_planar r14 r15) fun r16 => (r16.1, r16.2))) else (bif (a0.kind.val == 7) then bindP (F_impl_Integer (c64 0)) fun r17 => bindP (F_impl_LessI r1.1.z r17) fun r18 => (bif (r18.val == 1) then ((⟨(⟨(c64 0), (c64 0)⟩ : Iv), (⟨(c64 0), (c64 0)⟩ : Iv)⟩ : Pn), (c64 8)) else bindP (F_impl_forwardFactor a0.kind r1.1) fun r19 => bindP (F_impl_MulI r19 r1.1.x) fun r20 => bindP (F_impl_MulI r19 r1.1.y) fun r21 => bindP (F_impl_planar r20 r21) fun r22 => (r22.1, r22.2)) else bindP (F_impl_forwardFactor a0.kind r1.1) fun r23 => bindP (F_impl_MulI r23 r1.1.x) fun r24 => bindP (F_impl_MulI r23 r1.1.y) fun r25 => bindP (F_impl_planar r24 r25) fun r26 => (r26.1, r26.2)))))

def F_impl_areValid (a0 : Pt) (a1 : Pt) : Bool :=
  bindP (F_impl_ValidPoint a0) fun r1 => (bif r1 then bindP (F_impl_ValidPoint a1) fun r2 => r2 else false)

def F_impl_vectorOf (a0 : Pt) : Vc :=
  bindP (F_impl_LatOf a0) fun r1 => bindP (F_impl_LonOf a0) fun r2 => bindP (F_impl_CosI r1) fun r3 => bindP (F_impl_CosI r2) fun r4 => bindP (F_impl_MulI r3 r4) fun r5 => bindP (F_impl_CosI r1) fun r6 => bindP (F_impl_SinI r2) fun r7 => bindP (F_impl_MulI r6 r7) fun r8 => bindP (F_impl_SinI r1) fun r9 => (⟨r5, r8, r9⟩ : Vc)

def F_impl_CrossV (a0 : Vc) (a1 : Vc) : Vc :=
  bindP (F_impl_MulI a0.y a1.z) fun r1 => bindP (F_impl_MulI a0.z a1.y) fun r2 => bindP (F_impl_SubI r1 r2) fun r3 => bindP (F_impl_MulI a0.z a1.x) fun r4 => bindP (F_impl_MulI a0.x a1.z) fun r5 => bindP (F_impl_SubI r4 r5) fun r6 => bindP (F_impl_MulI a0.x a1.y) fun r7 => bindP (F_impl_MulI a0.y a1.x) fun r8 => bindP (F_impl_SubI r7 r8) fun r9 => (⟨r3, r6, r9⟩ : Vc)

def F_impl_AngleBetween (a0 : Pt) (a1 : Pt) : Iv × I64 :=
  bindP (F_impl_areValid a0 a1) fun r1 => (bif (!r1) then ((⟨(c64 0), (c64 0)⟩ : Iv), (c64 1)) else bindP (F_impl_vectorOf a0) fun r2 => bindP (F_impl_vectorOf a1) fun r3 => bindP (F_impl_CrossV r2 r3) fun r4 => bindP (F_impl_NormV r4) fun r5 => bindP (F_impl_DotV r2 r3) fun r6 => bindP (F_impl_DirectionI r5 r6) fun r7 => bindP (F_impl_knownI r7) fun r8 => (r8.1, r8.2))

def F_impl_azimuthalScales (a0 : I64) (a1 : Iv) : Iv × Iv :=
  bindP (F_impl_Integer (c64 1)) fun r1 => bindP (F_impl_HalfI a1) fun r2 => bindP (F_impl_CosI r2) fun r3 => (bif (a0.val == 5) then bindP (F_impl_CosI a1) fun r4 => bindP (F_impl_SqrI r4) fun r5 => bindP (F_impl_DivI r1 r5) fun r6 => bindP (F_impl_CosI a1) fun r7 => bindP (F_impl_DivI r1 r7) fun r8 => (r6, r8) else (bif (a0.val == 6) then bindP (F_impl_SqrI r3) fun r9 => bindP (F_impl_DivI r1 r9) fun r10 => (r10, r10) else (bif (a0.val == 7) then bindP (F_impl_CosI a1) fun r11 => (r11, r1) else (bif (a0.val == 9) then bindP (F_impl_DivI r1 r3) fun r12 => (r3, r12) else bindP (F_impl_isPositive a1) fun r13 => (bif r13 then bindP (F_impl_SinI a1) fun r14 => bindP (F_impl_DivI a1 r14) fun r15 => (r1, r15) else bindP (F_impl_CosI a1) fun r16 => bindP (F_impl_DivI r1 r16) fun r17 => bindP (F_impl_HullI r1 r17) fun r18 => (r1, r18))))))

def F_impl_centreScales (a0 : Pj) (a1 : Pt) : Iv × Iv × I64 :=
  bindP (F_impl_AzimuthalForward a0 a1) fun r1 => (bif (r1.2.val != 0) then ((⟨(c64 0), (c64 0)⟩ : Iv), (⟨(c64 0), (c64 0)⟩ : Iv), r1.2) else bindP (F_impl_Projection_centre a0) fun r2 => bindP (F_impl_AngleBetween r2 a1) fun r3 => (bif (r3.2.val != 0) then ((⟨(c64 0), (c64 0)⟩ : Iv), (⟨(c64 0), (c64 0)⟩ : Iv), r3.2) else bindP (F_impl_azimuthalScales a0.kind r3.1) fun r4 => bindP (F_impl_pair r4.1 r4.2) fun r5 => (r5.1, r5.2.1, r5.2.2)))

def F_impl_conic_scale__pCn (b0 : Cn) (a0 : Iv) : Iv :=
  bindP (F_impl_conic_radius__pCn b0 a0) fun r1 => bindP (F_impl_MulI b0.n r1) fun r2 => bindP (F_impl_CosI a0) fun r3 => bindP (F_impl_DivI r2 r3) fun r4 => r4

def F_impl_ConicScales (a0 : Pj) (a1 : Pt) : Iv × Iv × I64 :=
  bindP (F_impl_newConic a0) fun r1 => (bif (r1.2.val != 0) then ((⟨(c64 0), (c64 0)⟩ : Iv), (⟨(c64 0), (c64 0)⟩ : Iv), (c64 1)) else bindP (F_impl_ValidPoint a1) fun r2 => (bif (!r2) then ((⟨(c64 0), (c64 0)⟩ : Iv), (⟨(c64 0), (c64 0)⟩ : Iv), (c64 1)) else bindP (F_impl_isPole a1) fun r4 => (bif r4 then ((⟨(c64 0), (c64 0)⟩ : Iv), (⟨(c64 0), (c64 0)⟩ : Iv), (c64 8)) else bindP (F_impl_LatOf a1) fun r6 => bindP (F_impl_conic_scale__pCn r1.1 r6) fun r7 => (bif (a0.kind.val == 10) then bindP (F_impl_Integer (c64 1)) fun r9 => bindP (F_impl_DivI r9 r7) fun r10 => bindP (F_impl_pair r10 r7) fun r11 => (r11.1, r11.2.1, r11.2.2) else (bif (a0.kind.val == 11) then bindP (F_impl_pair r7 r7) fun r13 => (r13.1, r13.2.1, r13.2.2) else bindP (F_impl_Integer (c64 1)) fun r14 => bindP (F_impl_pair r14 r7) fun r15 => (r15.1, r15.2.1, r15.2.2))))))

def F_impl_TransverseScale (a0 : Pj) (a1 : Pt) : Iv × I64 :=
  bindP (F_impl_transverse a0 a1) fun r1 => (bif (r1.2.2.2.val != 0) then ((⟨(c64 0), (c64 0)⟩ : Iv), r1.2.2.2) else bindP (F_impl_Integer (c64 1)) fun r2 => bindP (F_impl_SqrI r1.2.2.1) fun r3 => bindP (F_impl_oneLess r3) fun r4 => bindP (F_impl_SqrtI r4) fun r5 => bindP (F_impl_DivI r2 r5) fun r6 => bindP (F_impl_knownI r6) fun r7 => (r7.1, r7.2))

def F_impl_ScalesOf (a0 : Pj) (a1 : Pt) : Iv × Iv × I64 :=
  bindP (F_impl_ValidProjection a0) fun r1 => (bif (!r1) then ((⟨(c64 0), (c64 0)⟩ : Iv), (⟨(c64 0), (c64 0)⟩ : Iv), (c64 1)) else bindP (F_impl_ValidPoint a1) fun r2 => (bif (!r2) then ((⟨(c64 0), (c64 0)⟩ : Iv), (⟨(c64 0), (c64 0)⟩ : Iv), (c64 1)) else bindP (F_impl_FamilyOf a0.kind) fun r3 => (bif (r3.val == 1) then bindP (F_impl_CylinderScales a0 a1) fun r4 => (r4.1, r4.2.1, r4.2.2) else (bif (r3.val == 2) then bindP (F_impl_centreScales a0 a1) fun r5 => (r5.1, r5.2.1, r5.2.2) else (bif (r3.val == 3) then bindP (F_impl_ConicScales a0 a1) fun r6 => (r6.1, r6.2.1, r6.2.2) else (bif (r3.val == 5) then bindP (F_impl_TransverseScale a0 a1) fun r7 => (r7.1, r7.1, r7.2) else ((⟨(c64 0), (c64 0)⟩ : Iv), (⟨(c64 0), (c64 0)⟩ : Iv), (c64 3))))))))

def F_laws_FnExactScalesOf (a0 : Pj) (a1 : Pt) : Bool :=
  bindP (F_laws_toProjection a0) fun r1 => bindP (F_laws_toPoint a1) fun r2 => bindP (F_spec_ScalesOf r1 r2) fun r3 => bindP (F_laws_toProjection a0) fun r4 => bindP (F_laws_toPoint a1) fun r5 => bindP (F_impl_ScalesOf r4 r5) fun r6 => bindP (F_laws_eqInterval r6.1 r3.1) fun r7 => (bif (!r7) then false else bindP (F_laws_eqInterval r6.2.1 r3.2.1) fun r8 => (bif (!r8) then false else (bif (r6.2.2.val != r3.2.2.val) then false else true)))

end Go.Proofs.YtclbkeejhnmeoaaGreat.Abs
