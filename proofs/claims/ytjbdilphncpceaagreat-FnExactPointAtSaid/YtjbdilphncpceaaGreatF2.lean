/- The functions, on numbers; part 2 (written by w.py). -/
import Derived.Test.YtjbdilphncpceaaGreatF1
set_option linter.unusedVariables false
set_option linter.unusedSimpArgs false
namespace Go.Proofs.YtjbdilphncpceaaGreat.Abs
open Go Go.RowKit

def F_spec_l19Ok (a0 : Pj) : Bool :=
  bindP (F_spec_l00In a0.kind (c64 10) (c64 12)) fun r1 => (bif r1 then bindP (F_spec_l17Ok a0) fun r2 => r2 else false)

def F_spec_LogAt_L1 : Nat → I64 → I64 → Iv → Iv
  | 0, _, _, _ => (⟨(c64 0), (c64 0)⟩ : Iv)
  | fu + 1, a0, x_e, y_1 => (bif (decide (y_1.lo.val < 3221225472)) then F_spec_LogAt_L1 fu a0 (w64 (x_e.val - 1)) (⟨(ishl .i64 a0.val (wu64 (w64 (0 - (w64 (x_e.val - 1)).val)).val).val), (ishl .i64 a0.val (wu64 (w64 (0 - (w64 (x_e.val - 1)).val)).val).val)⟩ : Iv) else bindP (F_spec_l08One) fun r6 => bindP (F_spec_SubI y_1 r6) fun r7 => bindP (F_spec_l08One) fun r8 => bindP (F_spec_AddI y_1 r8) fun r9 => bindP (F_spec_DivI r7 r9) fun r10 => bindP (F_spec_SqrI r10) fun r11 => bindP (F_spec_Quotient (c64 1) (c64 11)) fun r12 => bindP (F_spec_Quotient (c64 1) (c64 9)) fun r13 => bindP (F_spec_MulI r11 r12) fun r14 => bindP (F_spec_AddI r13 r14) fun r15 => bindP (F_spec_Quotient (c64 1) (c64 7)) fun r16 => bindP (F_spec_MulI r11 r15) fun r17 => bindP (F_spec_AddI r16 r17) fun r18 => bindP (F_spec_Quotient (c64 1) (c64 5)) fun r19 => bindP (F_spec_MulI r11 r18) fun r20 => bindP (F_spec_AddI r19 r20) fun r21 => bindP (F_spec_Quotient (c64 1) (c64 3)) fun r22 => bindP (F_spec_MulI r11 r21) fun r23 => bindP (F_spec_AddI r22 r23) fun r24 => bindP (F_spec_Quotient (c64 1) (c64 1)) fun r25 => bindP (F_spec_MulI r11 r24) fun r26 => bindP (F_spec_AddI r25 r26) fun r27 => bindP (F_spec_Integer (c64 2)) fun r28 => bindP (F_spec_MulI r28 r10) fun r29 => bindP (F_spec_MulI r29 r27) fun r30 => bindP (F_spec_l08Widen r30 (c64 1)) fun r31 => bindP (F_spec_LogTwoI x_e) fun r32 => bindP (F_spec_AddI r32 r31) fun r33 => r33)

def F_spec_LogAt_L0 : Nat → I64 → I64 → Iv → Iv
  | 0, _, _, _ => (⟨(c64 0), (c64 0)⟩ : Iv)
  | fu + 1, a0, x_e, y_1 => (bif (decide (y_1.lo.val ≥ 6442450944)) then F_spec_LogAt_L0 fu a0 (w64 (x_e.val + 1)) (⟨(ishr a0 (wu64 (w64 (x_e.val + 1)).val).val), (w64 (0 - (ishr (w64 (0 - a0.val)) (wu64 (w64 (x_e.val + 1)).val).val).val))⟩ : Iv) else F_spec_LogAt_L1 ((64 + x_e.val).toNat + 1) a0 x_e y_1)

def F_spec_LogAt (a0 : I64) : Iv :=
  bindP (F_spec_l00In a0 (c64 1) (c64 1152921504606846976)) fun r1 => (bif (!r1) then bindP (F_spec_l04Whole) fun r3 => r3 else F_spec_LogAt_L0 ((64 - (c64 0).val).toNat + 1) a0 (c64 0) (⟨a0, a0⟩ : Iv))

def F_spec_LogI (a0 : Iv) : Iv :=
  bindP (F_spec_l04Ok a0) fun r1 => (bif (!r1) then bindP (F_spec_l04Whole) fun r2 => r2 else bindP (F_spec_LogAt a0.lo) fun r3 => bindP (F_spec_LogAt a0.hi) fun r4 => bindP (F_spec_l08Ends r3 r4) fun r5 => r5)

def F_spec_SinAt (a0 : I64) : Iv :=
  bindP (F_spec_l06At a0 (c64 0)) fun r1 => r1

def F_spec_CosAt (a0 : I64) : Iv :=
  bindP (F_spec_l06At a0 (c64 1)) fun r1 => r1

def F_spec_TanI_L0 : Nat → Iv → I64 → Iv → Iv
  | 0, _, _, _ => (⟨(c64 0), (c64 0)⟩ : Iv)
  | fu + 1, a0, x_k, y_1 => bindP (F_spec_QuarterOf a0.hi) fun r5 => (bif (decide (x_k.val ≤ (w64 (r5.val + 1)).val)) then (bif ((iand .i64 x_k.val 1).val == 1) then bindP (F_spec_TurnI x_k) fun r8 => bindP (F_spec_OverlapI r8 a0) fun r9 => (bif r9 then bindP (F_spec_Whole) fun r11 => r11 else F_spec_TanI_L0 fu a0 (w64 (x_k.val + 1)) y_1) else F_spec_TanI_L0 fu a0 (w64 (x_k.val + 1)) y_1) else bindP (F_spec_SinAt a0.lo) fun r12 => bindP (F_spec_CosAt a0.lo) fun r13 => bindP (F_spec_DivI r12 r13) fun r14 => bindP (F_spec_SinAt a0.hi) fun r15 => bindP (F_spec_CosAt a0.hi) fun r16 => bindP (F_spec_DivI r15 r16) fun r17 => bindP (F_spec_HullI r14 r17) fun r18 => r18)

def F_spec_TanI (a0 : Iv) : Iv :=
  bindP (F_spec_l06Fits a0) fun r1 => (bif (!r1) then bindP (F_spec_Whole) fun r3 => r3 else bindP (F_spec_QuarterOf a0.lo) fun r4 => F_spec_TanI_L0 ((2000 - (w64 (r4.val - 1)).val).toNat + 1) a0 (w64 (r4.val - 1)) (⟨(c64 0), (c64 0)⟩ : Iv))

def F_spec_l08Asinh_b (self : I64 → Iv) (a0 : I64) : Iv :=
  (bif (decide (a0.val < 0)) then bindP (self (w64 (0 - a0.val))) fun r2 => bindP (F_spec_NegI r2) fun r3 => r3 else (bif (decide (a0.val ≤ 35184372088832)) then bindP (F_spec_l08At a0) fun r5 => bindP (F_spec_l08At a0) fun r6 => bindP (F_spec_SqrI r6) fun r7 => bindP (F_spec_l08One) fun r8 => bindP (F_spec_AddI r7 r8) fun r9 => bindP (F_spec_SqrtI r9) fun r10 => bindP (F_spec_AddI r5 r10) fun r11 => bindP (F_spec_LogI r11) fun r12 => r12 else bindP (F_spec_LogTwoI (c64 1)) fun r13 => bindP (F_spec_LogAt a0) fun r14 => bindP (F_spec_AddI r13 r14) fun r15 => bindP (F_spec_AddI r15 (⟨(c64 0), (c64 16)⟩ : Iv)) fun r16 => r16))
def F_spec_l08Asinh_r : Nat → I64 → Iv
  | 0, _ => (⟨(c64 0), (c64 0)⟩ : Iv)
  | fu + 1, a0 => F_spec_l08Asinh_b (F_spec_l08Asinh_r fu) a0
def F_spec_l08Asinh (a0 : I64) : Iv := F_spec_l08Asinh_r 2 a0

def F_spec_AsinhI (a0 : Iv) : Iv :=
  bindP (F_spec_l04Ok a0) fun r1 => (bif (!r1) then bindP (F_spec_l04Whole) fun r3 => r3 else bindP (F_spec_l08Asinh a0.lo) fun r4 => bindP (F_spec_l08Asinh a0.hi) fun r5 => bindP (F_spec_l08Ends r4 r5) fun r6 => r6)

def F_spec_l19Iso (a0 : Iv) : Iv :=
  bindP (F_spec_TanI a0) fun r1 => bindP (F_spec_AsinhI r1) fun r2 => r2

def F_spec_l19Cone (a0 : Pj) : Iv :=
  bindP (F_spec_RadiansOf a0.lat1) fun r1 => bindP (F_spec_RadiansOf a0.lat2) fun r2 => (bif (a0.kind.val == 10) then bindP (F_spec_SinI r1) fun r3 => bindP (F_spec_SinI r2) fun r4 => bindP (F_spec_AddI r3 r4) fun r5 => bindP (F_spec_HalfI r5) fun r6 => r6 else (bif (a0.lat1.val == a0.lat2.val) then bindP (F_spec_SinI r1) fun r7 => r7 else (bif (a0.kind.val == 11) then bindP (F_spec_CosI r1) fun r8 => bindP (F_spec_LogI r8) fun r9 => bindP (F_spec_CosI r2) fun r10 => bindP (F_spec_LogI r10) fun r11 => bindP (F_spec_SubI r9 r11) fun r12 => bindP (F_spec_l19Iso r2) fun r13 => bindP (F_spec_l19Iso r1) fun r14 => bindP (F_spec_SubI r13 r14) fun r15 => bindP (F_spec_DivI r12 r15) fun r16 => r16 else bindP (F_spec_CosI r1) fun r17 => bindP (F_spec_CosI r2) fun r18 => bindP (F_spec_SubI r17 r18) fun r19 => bindP (F_spec_SubI r2 r1) fun r20 => bindP (F_spec_DivI r19 r20) fun r21 => r21)))

def F_spec_ExpI (a0 : Iv) : Iv :=
  bindP (F_spec_l04Ok a0) fun r1 => (bif (!r1) then bindP (F_spec_l04Whole) fun r2 => r2 else bindP (F_spec_ExpAt a0.lo) fun r3 => bindP (F_spec_ExpAt a0.hi) fun r4 => bindP (F_spec_l08Ends r3 r4) fun r5 => r5)

def F_spec_l19Constant (a0 : Pj) (a1 : Iv) : Iv :=
  bindP (F_spec_RadiansOf a0.lat1) fun r1 => (bif (a0.kind.val == 10) then bindP (F_spec_CosI r1) fun r2 => bindP (F_spec_SqrI r2) fun r3 => bindP (F_spec_Integer (c64 2)) fun r4 => bindP (F_spec_MulI r4 a1) fun r5 => bindP (F_spec_SinI r1) fun r6 => bindP (F_spec_MulI r5 r6) fun r7 => bindP (F_spec_AddI r3 r7) fun r8 => r8 else (bif (a0.kind.val == 11) then bindP (F_spec_CosI r1) fun r9 => bindP (F_spec_l19Iso r1) fun r10 => bindP (F_spec_MulI a1 r10) fun r11 => bindP (F_spec_ExpI r11) fun r12 => bindP (F_spec_MulI r9 r12) fun r13 => bindP (F_spec_DivI r13 a1) fun r14 => r14 else bindP (F_spec_CosI r1) fun r15 => bindP (F_spec_DivI r15 a1) fun r16 => bindP (F_spec_AddI r16 r1) fun r17 => r17))

def F_spec_l19Radius (a0 : I64) (a1 : Iv) (a2 : Iv) (a3 : Iv) : Iv :=
  (bif (a0.val == 10) then bindP (F_spec_Integer (c64 2)) fun r1 => bindP (F_spec_MulI r1 a1) fun r2 => bindP (F_spec_SinI a3) fun r3 => bindP (F_spec_MulI r2 r3) fun r4 => bindP (F_spec_SubI a2 r4) fun r5 => bindP (F_spec_SqrtI r5) fun r6 => bindP (F_spec_DivI r6 a1) fun r7 => r7 else (bif (a0.val == 11) then bindP (F_spec_l19Iso a3) fun r8 => bindP (F_spec_MulI a1 r8) fun r9 => bindP (F_spec_NegI r9) fun r10 => bindP (F_spec_ExpI r10) fun r11 => bindP (F_spec_MulI a2 r11) fun r12 => r12 else bindP (F_spec_SubI a2 a3) fun r13 => r13))

def F_spec_ConicInverse (a0 : Pj) (a1 : Pn) : Iv × Iv × I64 :=
  bindP (F_spec_l19Ok a0) fun r1 => (bif (!r1) then ((⟨(c64 0), (c64 0)⟩ : Iv), (⟨(c64 0), (c64 0)⟩ : Iv), (c64 1)) else bindP (F_spec_l19Cone a0) fun r2 => bindP (F_spec_l19Constant a0 r2) fun r3 => bindP (F_spec_RadiansOf a0.lat0) fun r4 => bindP (F_spec_l19Radius a0.kind r2 r3 r4) fun r5 => bindP (F_spec_SubI r5 a1.y) fun r6 => bindP (F_spec_SqrI a1.x) fun r7 => bindP (F_spec_SqrI r6) fun r8 => bindP (F_spec_AddI r7 r8) fun r9 => bindP (F_spec_SqrtI r9) fun r10 => bindP (F_spec_DirectionI a1.x r6) fun r11 => (bif (decide ((w64 (a0.lat1.val + a0.lat2.val)).val < 0)) then bindP (F_spec_NegI r10) fun r12 => bindP (F_spec_NegI a1.x) fun r13 => bindP (F_spec_NegI r6) fun r14 => bindP (F_spec_DirectionI r13 r14) fun r15 => bindP (F_spec_DivI r15 r2) fun r16 => (bif (a0.kind.val == 10) then bindP (F_spec_MulI r12 r2) fun r17 => bindP (F_spec_SqrI r17) fun r18 => bindP (F_spec_SubI r3 r18) fun r19 => bindP (F_spec_Integer (c64 2)) fun r20 => bindP (F_spec_MulI r20 r2) fun r21 => bindP (F_spec_DivI r19 r21) fun r22 => bindP (F_spec_l04Ok r22) fun r23 => (bif r23 then bindP (F_spec_l06Ring) fun r24 => bindP (F_spec_OverlapI r22 r24) fun r25 => (bif (!r25) then ((⟨(c64 0), (c64 0)⟩ : Iv), (⟨(c64 0), (c64 0)⟩ : Iv), (c64 8)) else bindP (F_spec_AsinI r22) fun r26 => bindP (F_spec_l17Back a0 r26 r16) fun r27 => (r27.1, r27.2.1, r27.2.2)) else bindP (F_spec_AsinI r22) fun r28 => bindP (F_spec_l17Back a0 r28 r16) fun r29 => (r29.1, r29.2.1, r29.2.2)) else (bif (a0.kind.val == 11) then bindP (F_spec_DivI r3 r12) fun r30 => bindP (F_spec_LogI r30) fun r31 => bindP (F_spec_DivI r31 r2) fun r32 => bindP (F_spec_SinhI r32) fun r33 => bindP (F_spec_AtanI r33) fun r34 => bindP (F_spec_l17Back a0 r34 r16) fun r35 => (r35.1, r35.2.1, r35.2.2) else bindP (F_spec_SubI r3 r12) fun r36 => bindP (F_spec_l17Back a0 r36 r16) fun r37 => (r37.1, r37.2.1, r37.2.2))) else bindP (F_spec_DivI r11 r2) fun r38 => (bif (a0.kind.val == 10) then bindP (F_spec_MulI r10 r2) fun r39 => bindP (F_spec_SqrI r39) fun r40 => bindP (F_spec_SubI r3 r40) fun r41 => bindP (F_spec_Integer (c64 2)) fun r42 => bindP (F_spec_MulI r42 r2) fun r43 => bindP (F_spec_DivI r41 r43) fun r44 => bindP (F_spec_l04Ok r44) fun r45 => (bif r45 then bindP (F_spec_l06Ring) fun r46 => bindP (F_spec_OverlapI r44 r46) fun r47 => (bif (!r47) then ((⟨(c64 0), (c64 0)⟩ : Iv), (⟨(c64 0), (c64 0)⟩ : Iv), (c64 8)) else bindP (F_spec_AsinI r44) fun r48 => bindP (F_spec_l17Back a0 r48 r38) fun r49 => (r49.1, r49.2.1, r49.2.2)) else bindP (F_spec_AsinI r44) fun r50 => bindP (F_spec_l17Back a0 r50 r38) fun r51 => (r51.1, r51.2.1, r51.2.2)) else (bif (a0.kind.val == 11) then bindP (F_spec_DivI r3 r10) fun r52 => bindP (F_spec_LogI r52) fun r53 => bindP (F_spec_DivI r53 r2) fun r54 => bindP (F_spec_SinhI r54) fun r55 => bindP (F_spec_AtanI r55) fun r56 => bindP (F_spec_l17Back a0 r56 r38) fun r57 => (r57.1, r57.2.1, r57.2.2) else bindP (F_spec_SubI r3 r10) fun r58 => bindP (F_spec_l17Back a0 r58 r38) fun r59 => (r59.1, r59.2.1, r59.2.2)))))

def F_spec_l20Kind (a0 : I64) : Bool :=
  bindP (F_spec_l00In a0 (c64 13) (c64 15)) fun r1 => r1

def F_spec_l20Ok__pPj (b0 : Pj) : Bool :=
  bindP (F_spec_l20Kind b0.kind) fun r1 => (bif r1 then bindP (F_spec_ValidProjection b0) fun r2 => r2 else false)

def F_spec_l20Root (a0 : I64) : Iv :=
  (bif (a0.val == 14) then bindP (F_spec_Integer (c64 2)) fun r1 => bindP (F_spec_SqrtI r1) fun r2 => r2 else bindP (F_spec_Integer (c64 2)) fun r3 => bindP (F_spec_PiI) fun r4 => bindP (F_spec_AddI r3 r4) fun r5 => bindP (F_spec_SqrtI r5) fun r6 => r6)

def F_spec_l20High (a0 : I64) : Iv :=
  (bif (a0.val == 13) then bindP (F_spec_TurnI (c64 1)) fun r1 => r1 else (bif (a0.val == 14) then bindP (F_spec_l20Root a0) fun r2 => r2 else bindP (F_spec_PiI) fun r3 => bindP (F_spec_l20Root a0) fun r4 => bindP (F_spec_DivI r3 r4) fun r5 => r5))

def F_spec_l20Back (a0 : I64) (a1 : Iv) : Iv :=
  (bif (a0.val == 13) then a1 else (bif (a0.val == 14) then bindP (F_spec_l20Root a0) fun r1 => bindP (F_spec_DivI a1 r1) fun r2 => bindP (F_spec_AsinI r2) fun r3 => r3 else bindP (F_spec_l20Root a0) fun r4 => bindP (F_spec_MulI a1 r4) fun r5 => bindP (F_spec_HalfI r5) fun r6 => r6))

def F_spec_l20Parallel (a0 : I64) (a1 : Iv) : Iv × Iv :=
  (bif (a0.val == 13) then bindP (F_spec_CosI a1) fun r1 => (r1, a1) else (bif (a0.val == 14) then bindP (F_spec_Integer (c64 2)) fun r2 => bindP (F_spec_l20Root a0) fun r3 => bindP (F_spec_MulI r2 r3) fun r4 => bindP (F_spec_CosI a1) fun r5 => bindP (F_spec_MulI r4 r5) fun r6 => bindP (F_spec_PiI) fun r7 => bindP (F_spec_DivI r6 r7) fun r8 => bindP (F_spec_l20Root a0) fun r9 => bindP (F_spec_SinI a1) fun r10 => bindP (F_spec_MulI r9 r10) fun r11 => (r8, r11) else bindP (F_spec_Integer (c64 1)) fun r12 => bindP (F_spec_CosI a1) fun r13 => bindP (F_spec_AddI r12 r13) fun r14 => bindP (F_spec_l20Root a0) fun r15 => bindP (F_spec_DivI r14 r15) fun r16 => bindP (F_spec_Integer (c64 2)) fun r17 => bindP (F_spec_MulI r17 a1) fun r18 => bindP (F_spec_l20Root a0) fun r19 => bindP (F_spec_DivI r18 r19) fun r20 => (r16, r20)))

def F_spec_l20Right (a0 : I64) : Iv :=
  (bif (a0.val == 14) then bindP (F_spec_PiI) fun r1 => r1 else bindP (F_spec_Integer (c64 1)) fun r2 => bindP (F_spec_TurnI (c64 1)) fun r3 => bindP (F_spec_AddI r2 r3) fun r4 => r4)

def F_spec_l20Lat (a0 : I64) (a1 : Iv) : Iv :=
  (bif (a0.val == 13) then a1 else (bif (a0.val == 14) then bindP (F_spec_DoubleI a1) fun r1 => bindP (F_spec_SinI r1) fun r2 => bindP (F_spec_AddI r1 r2) fun r3 => bindP (F_spec_l20Right a0) fun r4 => bindP (F_spec_DivI r3 r4) fun r5 => bindP (F_spec_AsinI r5) fun r6 => r6 else bindP (F_spec_SinI a1) fun r7 => bindP (F_spec_AddI a1 r7) fun r8 => bindP (F_spec_l20Right a0) fun r9 => bindP (F_spec_DivI r8 r9) fun r10 => bindP (F_spec_AsinI r10) fun r11 => r11))

def F_spec_PseudoInverse (a0 : Pj) (a1 : Pn) : Iv × Iv × I64 :=
  bindP (F_spec_l20Ok__pPj a0) fun r1 => (bif (!r1) then ((⟨(c64 0), (c64 0)⟩ : Iv), (⟨(c64 0), (c64 0)⟩ : Iv), (c64 1)) else bindP (F_spec_l20High a0.kind) fun r2 => bindP (F_spec_AbsI a1.y) fun r3 => bindP (F_spec_LessI r2 r3) fun r4 => (bif (r4.val == 1) then ((⟨(c64 0), (c64 0)⟩ : Iv), (⟨(c64 0), (c64 0)⟩ : Iv), (c64 8)) else bindP (F_spec_l20Back a0.kind a1.y) fun r5 => bindP (F_spec_l20Parallel a0.kind r5) fun r6 => bindP (F_spec_l20Lat a0.kind r5) fun r7 => bindP (F_spec_DivI a1.x r6.1) fun r8 => bindP (F_spec_PiI) fun r9 => bindP (F_spec_AbsI r8) fun r10 => bindP (F_spec_LessI r9 r10) fun r11 => (bif (r11.val == 1) then ((⟨(c64 0), (c64 0)⟩ : Iv), (⟨(c64 0), (c64 0)⟩ : Iv), (c64 8)) else bindP (F_spec_IsWhole r7) fun r12 => (bif r12 then ((⟨(c64 0), (c64 0)⟩ : Iv), (⟨(c64 0), (c64 0)⟩ : Iv), (c64 9)) else bindP (F_spec_RadiansOf a0.lon0) fun r13 => bindP (F_spec_AddI r13 r8) fun r14 => (r7, r14, (c64 0))))))

def F_spec_l21Ok__pPj (b0 : Pj) : Bool :=
  (bif (b0.kind.val == 16) then bindP (F_spec_ValidProjection b0) fun r1 => r1 else false)

def F_spec_l08Cosh (a0 : I64) : Iv :=
  bindP (F_spec_ExpAt a0) fun r1 => bindP (F_spec_ExpAt (w64 (0 - a0.val))) fun r2 => bindP (F_spec_AddI r1 r2) fun r3 => bindP (F_spec_HalfI r3) fun r4 => r4

def F_spec_CoshI (a0 : Iv) : Iv :=
  bindP (F_spec_l04Ok a0) fun r1 => (bif (!r1) then bindP (F_spec_l04Whole) fun r2 => r2 else bindP (F_spec_AbsI a0) fun r3 => bindP (F_spec_l08Cosh r3.lo) fun r4 => bindP (F_spec_l08Cosh r3.hi) fun r5 => bindP (F_spec_l08Ends r4 r5) fun r6 => r6)

def F_spec_TransverseInverse (a0 : Pj) (a1 : Pn) : Iv × Iv × I64 :=
  bindP (F_spec_l21Ok__pPj a0) fun r1 => (bif (!r1) then ((⟨(c64 0), (c64 0)⟩ : Iv), (⟨(c64 0), (c64 0)⟩ : Iv), (c64 1)) else bindP (F_spec_RadiansOf a0.lat0) fun r2 => bindP (F_spec_AddI a1.y r2) fun r3 => bindP (F_spec_SinI r3) fun r4 => bindP (F_spec_CoshI a1.x) fun r5 => bindP (F_spec_DivI r4 r5) fun r6 => bindP (F_spec_AsinI r6) fun r7 => bindP (F_spec_IsWhole r3) fun r8 => (bif r8 then ((⟨(c64 0), (c64 0)⟩ : Iv), (⟨(c64 0), (c64 0)⟩ : Iv), (c64 9)) else bindP (F_spec_IsWhole r6) fun r9 => (bif r9 then ((⟨(c64 0), (c64 0)⟩ : Iv), (⟨(c64 0), (c64 0)⟩ : Iv), (c64 9)) else bindP (F_spec_IsWhole r7) fun r10 => (bif r10 then ((⟨(c64 0), (c64 0)⟩ : Iv), (⟨(c64 0), (c64 0)⟩ : Iv), (c64 9)) else bindP (F_spec_RadiansOf a0.lon0) fun r11 => bindP (F_spec_SinhI a1.x) fun r12 => bindP (F_spec_CosI r3) fun r13 => bindP (F_spec_DirectionI r12 r13) fun r14 => bindP (F_spec_AddI r11 r14) fun r15 => (r7, r15, (c64 0))))))

def F_spec_l22Inverse (a0 : Pj) (a1 : Pn) : Iv × Iv × I64 :=
  bindP (F_spec_l22Family a0.kind) fun r1 => (bif (r1.val == 1) then bindP (F_spec_CylinderInverse a0 a1) fun r2 => (r2.1, r2.2.1, r2.2.2) else (bif (r1.val == 2) then bindP (F_spec_AzimuthalInverse a0 a1) fun r3 => (r3.1, r3.2.1, r3.2.2) else (bif (r1.val == 3) then bindP (F_spec_ConicInverse a0 a1) fun r4 => (r4.1, r4.2.1, r4.2.2) else (bif (r1.val == 4) then bindP (F_spec_PseudoInverse a0 a1) fun r5 => (r5.1, r5.2.1, r5.2.2) else (bif (r1.val == 5) then bindP (F_spec_TransverseInverse a0 a1) fun r6 => (r6.1, r6.2.1, r6.2.2) else ((⟨(c64 0), (c64 0)⟩ : Iv), (⟨(c64 0), (c64 0)⟩ : Iv), (c64 1)))))))

def F_spec_l22Unproject (a0 : Pj) (a1 : Pn) : Iv × Iv × I64 :=
  bindP (F_spec_l22Inverse a0 a1) fun r1 => (bif (r1.2.2.val == 0) then bindP (F_spec_l04Ok r1.1) fun r2 => (bif (!r2) then ((⟨(c64 0), (c64 0)⟩ : Iv), (⟨(c64 0), (c64 0)⟩ : Iv), (c64 9)) else (bif (r1.2.2.val != 0) then ((⟨(c64 0), (c64 0)⟩ : Iv), (⟨(c64 0), (c64 0)⟩ : Iv), r1.2.2) else (r1.1, r1.2.1, (c64 0)))) else (bif (r1.2.2.val != 0) then ((⟨(c64 0), (c64 0)⟩ : Iv), (⟨(c64 0), (c64 0)⟩ : Iv), r1.2.2) else (r1.1, r1.2.1, (c64 0))))

def F_spec_l05Units (a0 : I64) : I64 :=
  (bif (decide (a0.val > 0)) then bindP (F_spec_MulDivFloor a0 (c64 966367641600000000) (c64 7244019458077122843)) fun r1 => r1.1 else bindP (F_spec_MulDivFloor a0 (c64 966367641600000000) (c64 7244019458077122842)) fun r2 => r2.1)

def F_spec_UnitsOf (a0 : Iv) : I64 × I64 × Bool :=
  bindP (F_spec_IsWhole a0) fun r1 => (bif r1 then ((c64 0), (c64 0), false) else bindP (F_spec_l05Units a0.lo) fun r2 => bindP (F_spec_l05Units (w64 (0 - a0.hi.val))) fun r3 => (bif (decide (r2.val < (-36000000000))) then ((c64 0), (c64 0), false) else (bif (decide ((w64 (0 - r3.val)).val > 36000000000)) then ((c64 0), (c64 0), false) else (r2, (w64 (0 - r3.val)), true))))

def F_spec_l11Wrap (a0 : I64) : I64 :=
  (bif (decide ((imod a0 3600000000).val > 1800000000)) then (bif (decide ((w64 ((imod a0 3600000000).val - 3600000000)).val ≤ (-1800000000))) then (w64 ((w64 ((imod a0 3600000000).val - 3600000000)).val + 3600000000)) else (w64 ((imod a0 3600000000).val - 3600000000))) else (bif (decide ((imod a0 3600000000).val ≤ (-1800000000))) then (w64 ((imod a0 3600000000).val + 3600000000)) else (imod a0 3600000000)))

def F_spec_MiddlePoint (a0 : Iv) (a1 : Iv) : Pt × I64 × I64 :=
  bindP (F_spec_UnitsOf a0) fun r1 => bindP (F_spec_UnitsOf a1) fun r2 => (bif (!r1.2.2) then ((⟨(c64 0), (c64 0)⟩ : Pt), (c64 0), (c64 9)) else (bif (!r2.2.2) then ((⟨(c64 0), (c64 0)⟩ : Pt), (c64 0), (c64 9)) else bindP (F_spec_l06Floor (w64 (r1.1.val + r1.2.1.val)) (c64 2)) fun r5 => bindP (F_spec_l06Floor (w64 (r2.1.val + r2.2.1.val)) (c64 2)) fun r6 => bindP (F_spec_l11Wrap r6) fun r7 => bindP (F_spec_l11Ok (⟨r5, r7⟩ : Pt)) fun r8 => (bif (!r8) then ((⟨(c64 0), (c64 0)⟩ : Pt), (c64 0), (c64 2)) else bindP (F_spec_l00Max (w64 (r1.2.1.val - r1.1.val)) (w64 (r2.2.1.val - r2.1.val))) fun r10 => ((⟨r5, r7⟩ : Pt), r10, (c64 0)))))

def F_spec_PointAt (a0 : Pj) (a1 : Pn) : Pt × I64 × I64 :=
  bindP (F_spec_l22Unproject a0 a1) fun r1 => (bif (r1.2.2.val != 0) then ((⟨(c64 0), (c64 0)⟩ : Pt), (c64 0), r1.2.2) else bindP (F_spec_MiddlePoint r1.1 r1.2.1) fun r2 => (r2.1, r2.2.1, r2.2.2))

def F_impl_within (a0 : I64) (a1 : I64) (a2 : I64) : Bool :=
  (bif (decide (a0.val ≥ a1.val)) then (decide (a0.val ≤ a2.val)) else false)

def F_impl_isCylindrical (a0 : I64) : Bool :=
  bindP (F_impl_within a0 (c64 1) (c64 4)) fun r1 => r1

def F_impl_isAzimuthal (a0 : I64) : Bool :=
  bindP (F_impl_within a0 (c64 5) (c64 9)) fun r1 => r1

def F_impl_isConic (a0 : I64) : Bool :=
  bindP (F_impl_within a0 (c64 10) (c64 12)) fun r1 => r1

def F_impl_isPseudo (a0 : I64) : Bool :=
  bindP (F_impl_within a0 (c64 13) (c64 15)) fun r1 => r1

def F_impl_FamilyOf (a0 : I64) : I64 :=
  bindP (F_impl_isCylindrical a0) fun r1 => (bif r1 then (c64 1) else bindP (F_impl_isAzimuthal a0) fun r2 => (bif r2 then (c64 2) else bindP (F_impl_isConic a0) fun r3 => (bif r3 then (c64 3) else bindP (F_impl_isPseudo a0) fun r4 => (bif r4 then (c64 4) else (bif (a0.val == 16) then (c64 5) else (c64 0))))))

def F_impl_ValidPoint (a0 : Pt) : Bool :=
  bindP (F_impl_within a0.lat (c64 (-900000000)) (c64 900000000)) fun r1 => (bif r1 then (bif (decide (a0.lon.val > (-1800000000))) then (decide (a0.lon.val ≤ 1800000000)) else false) else false)

def F_impl_isStandard (a0 : I64) : Bool :=
  bindP (F_impl_within a0 (c64 (-890000000)) (c64 890000000)) fun r1 => r1

def F_impl_abs (a0 : I64) : I64 :=
  (mx a0 (w64 (0 - a0.val)))

def F_impl_ValidProjection (a0 : Pj) : Bool :=
  bindP (F_impl_within a0.kind (c64 1) (c64 16)) fun r1 => (bif (!r1) then false else bindP (F_impl_ValidPoint (⟨a0.lat0, a0.lon0⟩ : Pt)) fun r2 => (bif (!r2) then false else bindP (F_impl_isStandard a0.lat1) fun r3 => (bif (!r3) then false else bindP (F_impl_isStandard a0.lat2) fun r4 => (bif (!r4) then false else bindP (F_impl_isAzimuthal a0.kind) fun r5 => (bif r5 then bindP (F_impl_isConic a0.kind) fun r6 => (bif r6 then bindP (F_impl_isConic a0.kind) fun r7 => (bif (!r7) then (bif (a0.lat2.val != 0) then false else bindP (F_impl_isConic a0.kind) fun r8 => (bif (!r8) then true else bindP (F_impl_abs (w64 (a0.lat1.val + a0.lat2.val))) fun r9 => (decide (r9.val ≥ 10000000)))) else bindP (F_impl_isConic a0.kind) fun r10 => (bif (!r10) then true else bindP (F_impl_abs (w64 (a0.lat1.val + a0.lat2.val))) fun r11 => (decide (r11.val ≥ 10000000)))) else (bif (a0.kind.val == 1) then bindP (F_impl_isConic a0.kind) fun r12 => (bif (!r12) then (bif (a0.lat2.val != 0) then false else bindP (F_impl_isConic a0.kind) fun r13 => (bif (!r13) then true else bindP (F_impl_abs (w64 (a0.lat1.val + a0.lat2.val))) fun r14 => (decide (r14.val ≥ 10000000)))) else bindP (F_impl_isConic a0.kind) fun r15 => (bif (!r15) then true else bindP (F_impl_abs (w64 (a0.lat1.val + a0.lat2.val))) fun r16 => (decide (r16.val ≥ 10000000)))) else (bif (!(a0.kind.val == 3)) then (bif (a0.lat1.val != 0) then false else bindP (F_impl_isConic a0.kind) fun r17 => (bif (!r17) then (bif (a0.lat2.val != 0) then false else bindP (F_impl_isConic a0.kind) fun r18 => (bif (!r18) then true else bindP (F_impl_abs (w64 (a0.lat1.val + a0.lat2.val))) fun r19 => (decide (r19.val ≥ 10000000)))) else bindP (F_impl_isConic a0.kind) fun r20 => (bif (!r20) then true else bindP (F_impl_abs (w64 (a0.lat1.val + a0.lat2.val))) fun r21 => (decide (r21.val ≥ 10000000))))) else bindP (F_impl_isConic a0.kind) fun r22 => (bif (!r22) then (bif (a0.lat2.val != 0) then false else bindP (F_impl_isConic a0.kind) fun r23 => (bif (!r23) then true else bindP (F_impl_abs (w64 (a0.lat1.val + a0.lat2.val))) fun r24 => (decide (r24.val ≥ 10000000)))) else bindP (F_impl_isConic a0.kind) fun r25 => (bif (!r25) then true else bindP (F_impl_abs (w64 (a0.lat1.val + a0.lat2.val))) fun r26 => (decide (r26.val ≥ 10000000))))))) else bindP (F_impl_isConic a0.kind) fun r27 => (bif r27 then bindP (F_impl_isConic a0.kind) fun r28 => (bif r28 then bindP (F_impl_isConic a0.kind) fun r29 => (bif (!r29) then (bif (a0.lat2.val != 0) then false else bindP (F_impl_isConic a0.kind) fun r30 => (bif (!r30) then true else bindP (F_impl_abs (w64 (a0.lat1.val + a0.lat2.val))) fun r31 => (decide (r31.val ≥ 10000000)))) else bindP (F_impl_isConic a0.kind) fun r32 => (bif (!r32) then true else bindP (F_impl_abs (w64 (a0.lat1.val + a0.lat2.val))) fun r33 => (decide (r33.val ≥ 10000000)))) else (bif (a0.kind.val == 1) then bindP (F_impl_isConic a0.kind) fun r34 => (bif (!r34) then (bif (a0.lat2.val != 0) then false else bindP (F_impl_isConic a0.kind) fun r35 => (bif (!r35) then true else bindP (F_impl_abs (w64 (a0.lat1.val + a0.lat2.val))) fun r36 => (decide (r36.val ≥ 10000000)))) else bindP (F_impl_isConic a0.kind) fun r37 => (bif (!r37) then true else bindP (F_impl_abs (w64 (a0.lat1.val + a0.lat2.val))) fun r38 => (decide (r38.val ≥ 10000000)))) else (bif (!(a0.kind.val == 3)) then (bif (a0.lat1.val != 0) then false else bindP (F_impl_isConic a0.kind) fun r39 => (bif (!r39) then (bif (a0.lat2.val != 0) then false else bindP (F_impl_isConic a0.kind) fun r40 => (bif (!r40) then true else bindP (F_impl_abs (w64 (a0.lat1.val + a0.lat2.val))) fun r41 => (decide (r41.val ≥ 10000000)))) else bindP (F_impl_isConic a0.kind) fun r42 => (bif (!r42) then true else bindP (F_impl_abs (w64 (a0.lat1.val + a0.lat2.val))) fun r43 => (decide (r43.val ≥ 10000000))))) else bindP (F_impl_isConic a0.kind) fun r44 => (bif (!r44) then (bif (a0.lat2.val != 0) then false else bindP (F_impl_isConic a0.kind) fun r45 => (bif (!r45) then true else bindP (F_impl_abs (w64 (a0.lat1.val + a0.lat2.val))) fun r46 => (decide (r46.val ≥ 10000000)))) else bindP (F_impl_isConic a0.kind) fun r47 => (bif (!r47) then true else bindP (F_impl_abs (w64 (a0.lat1.val + a0.lat2.val))) fun r48 => (decide (r48.val ≥ 10000000))))))) else bindP (F_impl_isConic a0.kind) fun r49 => (bif r49 then (bif (!(a0.kind.val == 16)) then (bif (a0.lat0.val != 0) then false else bindP (F_impl_isConic a0.kind) fun r50 => (bif (!r50) then (bif (a0.lat2.val != 0) then false else bindP (F_impl_isConic a0.kind) fun r51 => (bif (!r51) then true else bindP (F_impl_abs (w64 (a0.lat1.val + a0.lat2.val))) fun r52 => (decide (r52.val ≥ 10000000)))) else bindP (F_impl_isConic a0.kind) fun r53 => (bif (!r53) then true else bindP (F_impl_abs (w64 (a0.lat1.val + a0.lat2.val))) fun r54 => (decide (r54.val ≥ 10000000))))) else bindP (F_impl_isConic a0.kind) fun r55 => (bif (!r55) then (bif (a0.lat2.val != 0) then false else bindP (F_impl_isConic a0.kind) fun r56 => (bif (!r56) then true else bindP (F_impl_abs (w64 (a0.lat1.val + a0.lat2.val))) fun r57 => (decide (r57.val ≥ 10000000)))) else bindP (F_impl_isConic a0.kind) fun r58 => (bif (!r58) then true else bindP (F_impl_abs (w64 (a0.lat1.val + a0.lat2.val))) fun r59 => (decide (r59.val ≥ 10000000))))) else (bif (a0.kind.val == 1) then (bif (!(a0.kind.val == 16)) then (bif (a0.lat0.val != 0) then false else bindP (F_impl_isConic a0.kind) fun r60 => (bif (!r60) then (bif (a0.lat2.val != 0) then false else bindP (F_impl_isConic a0.kind) fun r61 => (bif (!r61) then true else bindP (F_impl_abs (w64 (a0.lat1.val + a0.lat2.val))) fun r62 => (decide (r62.val ≥ 10000000)))) else bindP (F_impl_isConic a0.kind) fun r63 => (bif (!r63) then true else bindP (F_impl_abs (w64 (a0.lat1.val + a0.lat2.val))) fun r64 => (decide (r64.val ≥ 10000000))))) else bindP (F_impl_isConic a0.kind) fun r65 => (bif (!r65) then (bif (a0.lat2.val != 0) then false else bindP (F_impl_isConic a0.kind) fun r66 => (bif (!r66) then true else bindP (F_impl_abs (w64 (a0.lat1.val + a0.lat2.val))) fun r67 => (decide (r67.val ≥ 10000000)))) else bindP (F_impl_isConic a0.kind) fun r68 => (bif (!r68) then true else bindP (F_impl_abs (w64 (a0.lat1.val + a0.lat2.val))) fun r69 => (decide (r69.val ≥ 10000000))))) else (bif (!(a0.kind.val == 16)) then (bif (a0.lat0.val != 0) then false else (bif (!(a0.kind.val == 3)) then (bif (a0.lat1.val != 0) then false else bindP (F_impl_isConic a0.kind) fun r70 => (bif (!r70) then (bif (a0.lat2.val != 0) then false else bindP (F_impl_isConic a0.kind) fun r71 => (bif (!r71) then true else bindP (F_impl_abs (w64 (a0.lat1.val + a0.lat2.val))) fun r72 => (decide (r72.val ≥ 10000000)))) else bindP (F_impl_isConic a0.kind) fun r73 => (bif (!r73) then true else bindP (F_impl_abs (w64 (a0.lat1.val + a0.lat2.val))) fun r74 => (decide (r74.val ≥ 10000000))))) else bindP (F_impl_isConic a0.kind) fun r75 => (bif (!r75) then (bif (a0.lat2.val != 0) then false else bindP (F_impl_isConic a0.kind) fun r76 => (bif (!r76) then true else bindP (F_impl_abs (w64 (a0.lat1.val + a0.lat2.val))) fun r77 => (decide (r77.val ≥ 10000000)))) else bindP (F_impl_isConic a0.kind) fun r78 => (bif (!r78) then true else bindP (F_impl_abs (w64 (a0.lat1.val + a0.lat2.val))) fun r79 => (decide (r79.val ≥ 10000000)))))) else (bif (!(a0.kind.val == 3)) then (bif (a0.lat1.val != 0) then false else bindP (F_impl_isConic a0.kind) fun r80 => (bif (!r80) then (bif (a0.lat2.val != 0) then false else bindP (F_impl_isConic a0.kind) fun r81 => (bif (!r81) then true else bindP (F_impl_abs (w64 (a0.lat1.val + a0.lat2.val))) fun r82 => (decide (r82.val ≥ 10000000)))) else bindP (F_impl_isConic a0.kind) fun r83 => (bif (!r83) then true else bindP (F_impl_abs (w64 (a0.lat1.val + a0.lat2.val))) fun r84 => (decide (r84.val ≥ 10000000))))) else bindP (F_impl_isConic a0.kind) fun r85 => (bif (!r85) then (bif (a0.lat2.val != 0) then false else bindP (F_impl_isConic a0.kind) fun r86 => (bif (!r86) then true else bindP (F_impl_abs (w64 (a0.lat1.val + a0.lat2.val))) fun r87 => (decide (r87.val ≥ 10000000)))) else bindP (F_impl_isConic a0.kind) fun r88 => (bif (!r88) then true else bindP (F_impl_abs (w64 (a0.lat1.val + a0.lat2.val))) fun r89 => (decide (r89.val ≥ 10000000))))))))))))))

def F_impl_Whole : Iv :=
  (⟨(c64 (-1152921504606846976)), (c64 1152921504606846976)⟩ : Iv)

def F_impl_ValidInterval (a0 : Iv) : Bool :=
  (bif (decide ((-1152921504606846976) < a0.lo.val)) then (bif (decide (a0.lo.val ≤ a0.hi.val)) then (decide (a0.hi.val < 1152921504606846976)) else false) else false)

def F_impl_IsWhole (a0 : Iv) : Bool :=
  bindP (F_impl_ValidInterval a0) fun r1 => (!r1)

def F_impl_NegI (a0 : Iv) : Iv :=
  bindP (F_impl_IsWhole a0) fun r1 => (bif r1 then bindP (F_impl_Whole) fun r2 => r2 else (⟨(w64 (0 - a0.hi.val)), (w64 (0 - a0.lo.val))⟩ : Iv))

def F_bits_Mul64 (a0 : U64) (a1 : U64) : U64 × U64 :=
  ((wu64 ((wu64 ((wu64 ((ishr a0 32).val * (ishr a1 32).val)).val + (ishr (wu64 ((wu64 ((ishr a0 32).val * (iand .u64 a1.val 4294967295).val)).val + (ishr (wu64 ((iand .u64 a0.val 4294967295).val * (iand .u64 a1.val 4294967295).val)) 32).val)) 32).val)).val + (ishr (wu64 ((iand .u64 (wu64 ((wu64 ((ishr a0 32).val * (iand .u64 a1.val 4294967295).val)).val + (ishr (wu64 ((iand .u64 a0.val 4294967295).val * (iand .u64 a1.val 4294967295).val)) 32).val)).val 4294967295).val + (wu64 ((iand .u64 a0.val 4294967295).val * (ishr a1 32).val)).val)) 32).val)), (wu64 (a0.val * a1.val)))

def F_impl_WideMul (a0 : I64) (a1 : I64) : Wd :=
  bindP (F_bits_Mul64 (wu64 a0.val) (wu64 a1.val)) fun r1 => (bif (decide (a0.val < 0)) then (bif (decide (a1.val < 0)) then (⟨(w64 (wu64 ((wu64 (r1.1.val - (wu64 a1.val).val)).val - (wu64 a0.val).val)).val), r1.2⟩ : Wd) else (⟨(w64 (wu64 (r1.1.val - (wu64 a1.val).val)).val), r1.2⟩ : Wd)) else (bif (decide (a1.val < 0)) then (⟨(w64 (wu64 (r1.1.val - (wu64 a0.val).val)).val), r1.2⟩ : Wd) else (⟨(w64 r1.1.val), r1.2⟩ : Wd)))

def F_bits_LeadingZeros64 (a0 : U64) : I64 := w64 (64 - (Lib.bitLen a0.val.toNat : Int))

def F_bits_Div64_L1 : Nat → U64 → U64 → U64 → U64 → U64 → U64 → U64 → U64 → U64 → U64 × U64
  | 0, _, _, _, _, _, _, _, _, _ => ((cu64 0), (cu64 0))
  | fu + 1, x_y, x_s, x_yn1, x_yn0, x_un0, x_q1, x_un21, x_rhat, x_q0 => (bif (decide (x_q0.val ≥ 4294967296)) then (bif (decide ((wu64 (x_rhat.val + x_yn1.val)).val ≥ 4294967296)) then ((wu64 ((wu64 (x_q1.val * 4294967296)).val + (wu64 (x_q0.val - 1)).val)), (ishr (wu64 ((wu64 ((wu64 (x_un21.val * 4294967296)).val + x_un0.val)).val - (wu64 ((wu64 (x_q0.val - 1)).val * x_y.val)).val)) x_s.val)) else F_bits_Div64_L1 fu x_y x_s x_yn1 x_yn0 x_un0 x_q1 x_un21 (wu64 (x_rhat.val + x_yn1.val)) (wu64 (x_q0.val - 1))) else (bif (decide ((wu64 (x_q0.val * x_yn0.val)).val > (wu64 ((wu64 (4294967296 * x_rhat.val)).val + x_un0.val)).val)) then (bif (decide ((wu64 (x_rhat.val + x_yn1.val)).val ≥ 4294967296)) then ((wu64 ((wu64 (x_q1.val * 4294967296)).val + (wu64 (x_q0.val - 1)).val)), (ishr (wu64 ((wu64 ((wu64 (x_un21.val * 4294967296)).val + x_un0.val)).val - (wu64 ((wu64 (x_q0.val - 1)).val * x_y.val)).val)) x_s.val)) else F_bits_Div64_L1 fu x_y x_s x_yn1 x_yn0 x_un0 x_q1 x_un21 (wu64 (x_rhat.val + x_yn1.val)) (wu64 (x_q0.val - 1))) else ((wu64 ((wu64 (x_q1.val * 4294967296)).val + x_q0.val)), (ishr (wu64 ((wu64 ((wu64 (x_un21.val * 4294967296)).val + x_un0.val)).val - (wu64 (x_q0.val * x_y.val)).val)) x_s.val))))

def F_bits_Div64_L0 : Nat → U64 → U64 → U64 → U64 → U64 → U64 → U64 → U64 → U64 → U64 × U64
  | 0, _, _, _, _, _, _, _, _, _ => ((cu64 0), (cu64 0))
  | fu + 1, x_y, x_s, x_yn1, x_yn0, x_un32, x_un1, x_un0, x_q1, x_rhat => (bif (decide (x_q1.val ≥ 4294967296)) then (bif (decide ((wu64 (x_rhat.val + x_yn1.val)).val ≥ 4294967296)) then F_bits_Div64_L1 ((4294967296 - (wu64 ((wu64 ((wu64 ((wu64 (x_un32.val * 4294967296)).val + x_un1.val)).val - (wu64 ((wu64 (x_q1.val - 1)).val * x_y.val)).val)).val - (wu64 ((wu64 (Int.tdiv (wu64 ((wu64 ((wu64 (x_un32.val * 4294967296)).val + x_un1.val)).val - (wu64 ((wu64 (x_q1.val - 1)).val * x_y.val)).val)).val x_yn1.val)).val * x_yn1.val)).val)).val).toNat + 1) x_y x_s x_yn1 x_yn0 x_un0 (wu64 (x_q1.val - 1)) (wu64 ((wu64 ((wu64 (x_un32.val * 4294967296)).val + x_un1.val)).val - (wu64 ((wu64 (x_q1.val - 1)).val * x_y.val)).val)) (wu64 ((wu64 ((wu64 ((wu64 (x_un32.val * 4294967296)).val + x_un1.val)).val - (wu64 ((wu64 (x_q1.val - 1)).val * x_y.val)).val)).val - (wu64 ((wu64 (Int.tdiv (wu64 ((wu64 ((wu64 (x_un32.val * 4294967296)).val + x_un1.val)).val - (wu64 ((wu64 (x_q1.val - 1)).val * x_y.val)).val)).val x_yn1.val)).val * x_yn1.val)).val)) (wu64 (Int.tdiv (wu64 ((wu64 ((wu64 (x_un32.val * 4294967296)).val + x_un1.val)).val - (wu64 ((wu64 (x_q1.val - 1)).val * x_y.val)).val)).val x_yn1.val)) else F_bits_Div64_L0 fu x_y x_s x_yn1 x_yn0 x_un32 x_un1 x_un0 (wu64 (x_q1.val - 1)) (wu64 (x_rhat.val + x_yn1.val))) else (bif (decide ((wu64 (x_q1.val * x_yn0.val)).val > (wu64 ((wu64 (4294967296 * x_rhat.val)).val + x_un1.val)).val)) then (bif (decide ((wu64 (x_rhat.val + x_yn1.val)).val ≥ 4294967296)) then F_bits_Div64_L1 ((4294967296 - (wu64 ((wu64 ((wu64 ((wu64 (x_un32.val * 4294967296)).val + x_un1.val)).val - (wu64 ((wu64 (x_q1.val - 1)).val * x_y.val)).val)).val - (wu64 ((wu64 (Int.tdiv (wu64 ((wu64 ((wu64 (x_un32.val * 4294967296)).val + x_un1.val)).val - (wu64 ((wu64 (x_q1.val - 1)).val * x_y.val)).val)).val x_yn1.val)).val * x_yn1.val)).val)).val).toNat + 1) x_y x_s x_yn1 x_yn0 x_un0 (wu64 (x_q1.val - 1)) (wu64 ((wu64 ((wu64 (x_un32.val * 4294967296)).val + x_un1.val)).val - (wu64 ((wu64 (x_q1.val - 1)).val * x_y.val)).val)) (wu64 ((wu64 ((wu64 ((wu64 (x_un32.val * 4294967296)).val + x_un1.val)).val - (wu64 ((wu64 (x_q1.val - 1)).val * x_y.val)).val)).val - (wu64 ((wu64 (Int.tdiv (wu64 ((wu64 ((wu64 (x_un32.val * 4294967296)).val + x_un1.val)).val - (wu64 ((wu64 (x_q1.val - 1)).val * x_y.val)).val)).val x_yn1.val)).val * x_yn1.val)).val)) (wu64 (Int.tdiv (wu64 ((wu64 ((wu64 (x_un32.val * 4294967296)).val + x_un1.val)).val - (wu64 ((wu64 (x_q1.val - 1)).val * x_y.val)).val)).val x_yn1.val)) else F_bits_Div64_L0 fu x_y x_s x_yn1 x_yn0 x_un32 x_un1 x_un0 (wu64 (x_q1.val - 1)) (wu64 (x_rhat.val + x_yn1.val))) else F_bits_Div64_L1 ((4294967296 - (wu64 ((wu64 ((wu64 ((wu64 (x_un32.val * 4294967296)).val + x_un1.val)).val - (wu64 (x_q1.val * x_y.val)).val)).val - (wu64 ((wu64 (Int.tdiv (wu64 ((wu64 ((wu64 (x_un32.val * 4294967296)).val + x_un1.val)).val - (wu64 (x_q1.val * x_y.val)).val)).val x_yn1.val)).val * x_yn1.val)).val)).val).toNat + 1) x_y x_s x_yn1 x_yn0 x_un0 x_q1 (wu64 ((wu64 ((wu64 (x_un32.val * 4294967296)).val + x_un1.val)).val - (wu64 (x_q1.val * x_y.val)).val)) (wu64 ((wu64 ((wu64 ((wu64 (x_un32.val * 4294967296)).val + x_un1.val)).val - (wu64 (x_q1.val * x_y.val)).val)).val - (wu64 ((wu64 (Int.tdiv (wu64 ((wu64 ((wu64 (x_un32.val * 4294967296)).val + x_un1.val)).val - (wu64 (x_q1.val * x_y.val)).val)).val x_yn1.val)).val * x_yn1.val)).val)) (wu64 (Int.tdiv (wu64 ((wu64 ((wu64 (x_un32.val * 4294967296)).val + x_un1.val)).val - (wu64 (x_q1.val * x_y.val)).val)).val x_yn1.val))))

def F_bits_Div64 (a0 : U64) (a1 : U64) (a2 : U64) : U64 × U64 :=
  (bif (a0.val == 0) then ((wu64 (Int.tdiv a1.val a2.val)), (imod a1 a2.val)) else bindP (F_bits_LeadingZeros64 a2) fun r2 => F_bits_Div64_L0 ((4294967296 - (wu64 ((ior .u64 (ishl .u64 a0.val (wu64 r2.val).val).val (ishr a1 (wu64 (64 - (wu64 r2.val).val)).val).val).val - (wu64 ((wu64 (Int.tdiv (ior .u64 (ishl .u64 a0.val (wu64 r2.val).val).val (ishr a1 (wu64 (64 - (wu64 r2.val).val)).val).val).val (ishr (ishl .u64 a2.val (wu64 r2.val).val) 32).val)).val * (ishr (ishl .u64 a2.val (wu64 r2.val).val) 32).val)).val)).val).toNat + 1) (ishl .u64 a2.val (wu64 r2.val).val) (wu64 r2.val) (ishr (ishl .u64 a2.val (wu64 r2.val).val) 32) (iand .u64 (ishl .u64 a2.val (wu64 r2.val).val).val 4294967295) (ior .u64 (ishl .u64 a0.val (wu64 r2.val).val).val (ishr a1 (wu64 (64 - (wu64 r2.val).val)).val).val) (ishr (ishl .u64 a1.val (wu64 r2.val).val) 32) (iand .u64 (ishl .u64 a1.val (wu64 r2.val).val).val 4294967295) (wu64 (Int.tdiv (ior .u64 (ishl .u64 a0.val (wu64 r2.val).val).val (ishr a1 (wu64 (64 - (wu64 r2.val).val)).val).val).val (ishr (ishl .u64 a2.val (wu64 r2.val).val) 32).val)) (wu64 ((ior .u64 (ishl .u64 a0.val (wu64 r2.val).val).val (ishr a1 (wu64 (64 - (wu64 r2.val).val)).val).val).val - (wu64 ((wu64 (Int.tdiv (ior .u64 (ishl .u64 a0.val (wu64 r2.val).val).val (ishr a1 (wu64 (64 - (wu64 r2.val).val)).val).val).val (ishr (ishl .u64 a2.val (wu64 r2.val).val) 32).val)).val * (ishr (ishl .u64 a2.val (wu64 r2.val).val) 32).val)).val)))

def F_impl_divided (a0 : U64) (a1 : U64) (a2 : U64) : U64 × U64 × U64 :=
  bindP (F_bits_Div64 (imod a0 a2.val) a1 a2) fun r1 => ((wu64 (Int.tdiv a0.val a2.val)), r1.1, r1.2)

def F_impl_Wide_negative (a0 : Wd) : Wd :=
  (⟨(w64 (sbb_lo (cu64 0) (wu64 a0.hi.val) (sbb_hi (cu64 0) a0.lo (cu64 0))).val), (sbb_lo (cu64 0) a0.lo (cu64 0))⟩ : Wd)

def F_impl_WideDiv (a0 : Wd) (a1 : I64) : Wd × I64 × Bool :=
  (bif (decide (a1.val ≤ 0)) then ((⟨(c64 0), (cu64 0)⟩ : Wd), (c64 0), false) else (bif (decide (a0.hi.val ≥ 0)) then bindP (F_impl_divided (wu64 a0.hi.val) a0.lo (wu64 a1.val)) fun r3 => ((⟨(w64 r3.1.val), r3.2.1⟩ : Wd), (w64 r3.2.2.val), true) else bindP (F_impl_Wide_negative a0) fun r4 => bindP (F_impl_divided (wu64 r4.hi.val) r4.lo (wu64 a1.val)) fun r5 => (bif (r5.2.2.val == 0) then bindP (F_impl_Wide_negative (⟨(w64 r5.1.val), r5.2.1⟩ : Wd)) fun r7 => (r7, (c64 0), true) else bindP (F_impl_Wide_negative (⟨(w64 (wu64 (r5.1.val + (adc_hi r5.2.1 (cu64 1) (cu64 0)).val)).val), (adc_lo r5.2.1 (cu64 1) (cu64 0))⟩ : Wd)) fun r8 => (r8, (w64 (a1.val - (w64 r5.2.2.val).val)), true))))

end Go.Proofs.YtjbdilphncpceaaGreat.Abs
