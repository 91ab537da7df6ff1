/- The functions, on numbers; part 5 (written by w.py). -/
import Derived.Test.YtjckiicaegpghaaGreatF4
set_option linter.unusedVariables false
set_option linter.unusedSimpArgs false
namespace Go.Proofs.YtjckiicaegpghaaGreat.Abs
open Go Go.RowKit

def F_impl_ScalesOf (a0 : Pj) (a1 : Pt) : Iv × Iv × I64 :=
  bindP (F_impl_ValidProjection a0) fun r1 => (bif (!r1) then ((⟨(c64 0), (c64 0)⟩ : Iv), (⟨(c64 0), (c64 0)⟩ : Iv), (c64 1)) else bindP (F_impl_ValidPoint a1) fun r2 => (bif (!r2) then ((⟨(c64 0), (c64 0)⟩ : Iv), (⟨(c64 0), (c64 0)⟩ : Iv), (c64 1)) else bindP (F_impl_FamilyOf a0.kind) fun r3 => (bif (r3.val == 1) then bindP (F_impl_CylinderScales a0 a1) fun r4 => (r4.1, r4.2.1, r4.2.2) else (bif (r3.val == 2) then bindP (F_impl_centreScales a0 a1) fun r5 => (r5.1, r5.2.1, r5.2.2) else (bif (r3.val == 3) then bindP (F_impl_ConicScales a0 a1) fun r6 => (r6.1, r6.2.1, r6.2.2) else (bif (r3.val == 5) then bindP (F_impl_TransverseScale a0 a1) fun r7 => (r7.1, r7.1, r7.2) else ((⟨(c64 0), (c64 0)⟩ : Iv), (⟨(c64 0), (c64 0)⟩ : Iv), (c64 3))))))))

def F_impl_AreaScale (a0 : Pj) (a1 : Pt) : Iv × I64 :=
  bindP (F_impl_ScalesOf a0 a1) fun r1 => (bif (r1.2.2.val == 3) then bindP (F_impl_Integer (c64 1)) fun r2 => (r2, (c64 0)) else (bif (r1.2.2.val != 0) then ((⟨(c64 0), (c64 0)⟩ : Iv), r1.2.2) else bindP (F_impl_MulI r1.1 r1.2.1) fun r3 => bindP (F_impl_knownI r3) fun r4 => (r4.1, r4.2)))

def F_laws_eqInterval (a0 : Iv) (a1 : Iv) : Bool :=
  (bif (a0.lo.val != a1.lo.val) then false else (bif (a0.hi.val != a1.hi.val) then false else true))

def F_laws_FnExactAreaScale (a0 : Pj) (a1 : Pt) : Bool :=
  bindP (F_laws_toProjection a0) fun r1 => bindP (F_laws_toPoint a1) fun r2 => bindP (F_spec_AreaScale r1 r2) fun r3 => bindP (F_laws_toProjection a0) fun r4 => bindP (F_laws_toPoint a1) fun r5 => bindP (F_impl_AreaScale r4 r5) fun r6 => bindP (F_laws_eqInterval r6.1 r3.1) fun r7 => (bif (!r7) then false else (bif (r6.2.val != r3.2.val) then false else true))

def F_spec_WideMul (a0 : I64) (a1 : I64) : Wd :=
  bindP (F_spec_l02Mul a0 a1) fun r1 => r1

def F_spec_CircleAt (a0 : I64) : Iv :=
  bindP (F_spec_l00In a0 (c64 (-4294967296)) (c64 4294967296)) fun r1 => (bif (!r1) then bindP (F_spec_Whole) fun r2 => r2 else bindP (F_spec_SqrtFloor (w64 (4294967296 - a0.val)) (w64 (4294967296 + a0.val))) fun r3 => bindP (F_spec_WideMul r3.1 r3.1) fun r4 => bindP (F_spec_WideMul (w64 (4294967296 - a0.val)) (w64 (4294967296 + a0.val))) fun r5 => (bif (!((r4.hi.val == r5.hi.val) && (r4.lo.val == r5.lo.val))) then (⟨r3.1, (w64 (r3.1.val + 1))⟩ : Iv) else (⟨r3.1, r3.1⟩ : Iv)))

def F_spec_AsinAt (a0 : I64) : Iv :=
  bindP (F_spec_l00In a0 (c64 (-4294967296)) (c64 4294967296)) fun r1 => (bif (!r1) then bindP (F_spec_Whole) fun r2 => r2 else bindP (F_spec_l05At a0) fun r3 => bindP (F_spec_Integer (c64 1)) fun r4 => bindP (F_spec_CircleAt a0) fun r5 => bindP (F_spec_AddI r4 r5) fun r6 => bindP (F_spec_DivI r3 r6) fun r7 => bindP (F_spec_AtanI r7) fun r8 => bindP (F_spec_DoubleI r8) fun r9 => bindP (F_spec_l07Quarter) fun r10 => bindP (F_spec_MeetI r9 r10) fun r11 => r11.1)

def F_spec_AsinI (a0 : Iv) : Iv :=
  bindP (F_spec_l06Ring) fun r1 => bindP (F_spec_MeetI a0 r1) fun r2 => (bif (!r2.2) then bindP (F_spec_Whole) fun r3 => r3 else bindP (F_spec_AsinAt r2.1.lo) fun r4 => bindP (F_spec_AsinAt r2.1.hi) fun r5 => bindP (F_spec_HullI r4 r5) fun r6 => r6)

def F_spec_AngleDistortion (a0 : Pj) (a1 : Pt) : Iv × I64 :=
  bindP (F_spec_l22Scales a0 a1) fun r1 => (bif (r1.2.2.val != 0) then ((⟨(c64 0), (c64 0)⟩ : Iv), r1.2.2) else bindP (F_spec_Integer (c64 2)) fun r2 => bindP (F_spec_SubI r1.1 r1.2.1) fun r3 => bindP (F_spec_AbsI r3) fun r4 => bindP (F_spec_AddI r1.1 r1.2.1) fun r5 => bindP (F_spec_DivI r4 r5) fun r6 => bindP (F_spec_AsinI r6) fun r7 => bindP (F_spec_MulI r2 r7) fun r8 => bindP (F_spec_l19Known r8) fun r9 => (r9.1, r9.2))

def F_impl_CircleAt (a0 : I64) : Iv :=
  bindP (F_impl_within a0 (c64 (-4294967296)) (c64 4294967296)) fun r1 => (bif (!r1) then bindP (F_impl_Whole) fun r2 => r2 else bindP (F_impl_SqrtFloor (w64 (4294967296 - a0.val)) (w64 (4294967296 + a0.val))) fun r3 => bindP (F_impl_WideMul r3.1 r3.1) fun r4 => bindP (F_impl_WideMul (w64 (4294967296 - a0.val)) (w64 (4294967296 + a0.val))) fun r5 => (bif ((r4.hi.val == r5.hi.val) && (r4.lo.val == r5.lo.val)) then bindP (F_impl_at r3.1) fun r6 => r6 else (⟨r3.1, (w64 (r3.1.val + 1))⟩ : Iv)))

def F_impl_AsinAt (a0 : I64) : Iv :=
  bindP (F_impl_within a0 (c64 (-4294967296)) (c64 4294967296)) fun r1 => (bif (!r1) then bindP (F_impl_Whole) fun r2 => r2 else bindP (F_impl_at a0) fun r3 => bindP (F_impl_Integer (c64 1)) fun r4 => bindP (F_impl_CircleAt a0) fun r5 => bindP (F_impl_AddI r4 r5) fun r6 => bindP (F_impl_DivI r3 r6) fun r7 => bindP (F_impl_AtanI r7) fun r8 => bindP (F_impl_DoubleI r8) fun r9 => bindP (F_impl_halfCircle) fun r10 => bindP (F_impl_MeetI r9 r10) fun r11 => r11.1)

def F_impl_AsinI (a0 : Iv) : Iv :=
  bindP (F_impl_ring) fun r1 => bindP (F_impl_MeetI a0 r1) fun r2 => (bif (!r2.2) then bindP (F_impl_Whole) fun r3 => r3 else bindP (F_impl_AsinAt r2.1.lo) fun r4 => bindP (F_impl_AsinAt r2.1.hi) fun r5 => bindP (F_impl_HullI r4 r5) fun r6 => r6)

def F_impl_AngleDistortion (a0 : Pj) (a1 : Pt) : Iv × I64 :=
  bindP (F_impl_ScalesOf a0 a1) fun r1 => (bif (r1.2.2.val != 0) then ((⟨(c64 0), (c64 0)⟩ : Iv), r1.2.2) else bindP (F_impl_SubI r1.1 r1.2.1) fun r2 => bindP (F_impl_AbsI r2) fun r3 => bindP (F_impl_AddI r1.1 r1.2.1) fun r4 => bindP (F_impl_DivI r3 r4) fun r5 => bindP (F_impl_AsinI r5) fun r6 => bindP (F_impl_times (c64 2) r6) fun r7 => bindP (F_impl_knownI r7) fun r8 => (r8.1, r8.2))

def F_laws_FnExactAngleDistortion (a0 : Pj) (a1 : Pt) : Bool :=
  bindP (F_laws_toProjection a0) fun r1 => bindP (F_laws_toPoint a1) fun r2 => bindP (F_spec_AngleDistortion r1 r2) fun r3 => bindP (F_laws_toProjection a0) fun r4 => bindP (F_laws_toPoint a1) fun r5 => bindP (F_impl_AngleDistortion r4 r5) fun r6 => bindP (F_laws_eqInterval r6.1 r3.1) fun r7 => (bif (!r7) then false else (bif (r6.2.val != r3.2.val) then false else true))

def F_spec_l17Lon (a0 : Pj) (a1 : Pt) : Iv :=
  bindP (F_spec_l11Wrap (w64 (a1.lon.val - a0.lon0.val))) fun r1 => bindP (F_spec_RadiansOf r1) fun r2 => r2

def F_spec_l17End (a0 : Iv) (a1 : Iv) : Pn × I64 :=
  bindP (F_spec_l04Ok a0) fun r1 => (bif (!r1) then ((⟨(⟨(c64 0), (c64 0)⟩ : Iv), (⟨(c64 0), (c64 0)⟩ : Iv)⟩ : Pn), (c64 9)) else bindP (F_spec_l04Ok a1) fun r2 => (bif (!r2) then ((⟨(⟨(c64 0), (c64 0)⟩ : Iv), (⟨(c64 0), (c64 0)⟩ : Iv)⟩ : Pn), (c64 9)) else ((⟨a0, a1⟩ : Pn), (c64 0))))

def F_spec_CylinderForward (a0 : Pj) (a1 : Pt) : Pn × I64 :=
  bindP (F_spec_l17Cylinder a0) fun r1 => (bif (!r1) then ((⟨(⟨(c64 0), (c64 0)⟩ : Iv), (⟨(c64 0), (c64 0)⟩ : Iv)⟩ : Pn), (c64 1)) else bindP (F_spec_l11Ok a1) fun r2 => (bif (!r2) then ((⟨(⟨(c64 0), (c64 0)⟩ : Iv), (⟨(c64 0), (c64 0)⟩ : Iv)⟩ : Pn), (c64 1)) else (bif (a0.kind.val == 2) then bindP (F_spec_l11Pole a1) fun r3 => (bif r3 then ((⟨(⟨(c64 0), (c64 0)⟩ : Iv), (⟨(c64 0), (c64 0)⟩ : Iv)⟩ : Pn), (c64 8)) else bindP (F_spec_LatOf a1) fun r4 => bindP (F_spec_l17Lon a0 a1) fun r5 => bindP (F_spec_RadiansOf a0.lat1) fun r6 => bindP (F_spec_CosI r6) fun r7 => (bif (a0.kind.val == 1) then bindP (F_spec_MulI r5 r7) fun r8 => bindP (F_spec_l17End r8 r4) fun r9 => (r9.1, r9.2) else (bif (a0.kind.val == 2) then bindP (F_spec_TanI r4) fun r10 => bindP (F_spec_AsinhI r10) fun r11 => bindP (F_spec_l17End r5 r11) fun r12 => (r12.1, r12.2) else (bif (a0.kind.val == 3) then bindP (F_spec_MulI r5 r7) fun r13 => bindP (F_spec_SinI r4) fun r14 => bindP (F_spec_DivI r14 r7) fun r15 => bindP (F_spec_l17End r13 r15) fun r16 => (r16.1, r16.2) else bindP (F_spec_Quotient (c64 5) (c64 4)) fun r17 => bindP (F_spec_Quotient (c64 4) (c64 5)) fun r18 => bindP (F_spec_MulI r18 r4) fun r19 => bindP (F_spec_TanI r19) fun r20 => bindP (F_spec_AsinhI r20) fun r21 => bindP (F_spec_MulI r17 r21) fun r22 => bindP (F_spec_l17End r5 r22) fun r23 => (r23.1, r23.2))))) else bindP (F_spec_LatOf a1) fun r24 => bindP (F_spec_l17Lon a0 a1) fun r25 => bindP (F_spec_RadiansOf a0.lat1) fun r26 => bindP (F_spec_CosI r26) fun r27 => (bif (a0.kind.val == 1) then bindP (F_spec_MulI r25 r27) fun r28 => bindP (F_spec_l17End r28 r24) fun r29 => (r29.1, r29.2) else (bif (a0.kind.val == 2) then bindP (F_spec_TanI r24) fun r30 => bindP (F_spec_AsinhI r30) fun r31 => bindP (F_spec_l17End r25 r31) fun r32 => (r32.1, r32.2) else (bif (a0.kind.val == 3) then bindP (F_spec_MulI r25 r27) fun r33 => bindP (F_spec_SinI r24) fun r34 => bindP (F_spec_DivI r34 r27) fun r35 => bindP (F_spec_l17End r33 r35) fun r36 => (r36.1, r36.2) else bindP (F_spec_Quotient (c64 5) (c64 4)) fun r37 => bindP (F_spec_Quotient (c64 4) (c64 5)) fun r38 => bindP (F_spec_MulI r38 r24) fun r39 => bindP (F_spec_TanI r39) fun r40 => bindP (F_spec_AsinhI r40) fun r41 => bindP (F_spec_MulI r37 r41) fun r42 => bindP (F_spec_l17End r25 r42) fun r43 => (r43.1, r43.2)))))))

def F_spec_ConicForward (a0 : Pj) (a1 : Pt) : Pn × I64 :=
  bindP (F_spec_l19Ok a0) fun r1 => (bif (!r1) then ((⟨(⟨(c64 0), (c64 0)⟩ : Iv), (⟨(c64 0), (c64 0)⟩ : Iv)⟩ : Pn), (c64 1)) else bindP (F_spec_l11Ok a1) fun r2 => (bif (!r2) then ((⟨(⟨(c64 0), (c64 0)⟩ : Iv), (⟨(c64 0), (c64 0)⟩ : Iv)⟩ : Pn), (c64 1)) else (bif (a0.kind.val == 11) then bindP (F_spec_l11Pole a1) fun r3 => (bif r3 then ((⟨(⟨(c64 0), (c64 0)⟩ : Iv), (⟨(c64 0), (c64 0)⟩ : Iv)⟩ : Pn), (c64 8)) else bindP (F_spec_l19Cone a0) fun r4 => bindP (F_spec_l19Constant a0 r4) fun r5 => bindP (F_spec_LatOf a1) fun r6 => bindP (F_spec_l19Radius a0.kind r4 r5 r6) fun r7 => bindP (F_spec_RadiansOf a0.lat0) fun r8 => bindP (F_spec_l19Radius a0.kind r4 r5 r8) fun r9 => bindP (F_spec_l17Lon a0 a1) fun r10 => bindP (F_spec_MulI r4 r10) fun r11 => bindP (F_spec_SinI r11) fun r12 => bindP (F_spec_MulI r7 r12) fun r13 => bindP (F_spec_CosI r11) fun r14 => bindP (F_spec_MulI r7 r14) fun r15 => bindP (F_spec_SubI r9 r15) fun r16 => bindP (F_spec_l17End r13 r16) fun r17 => (r17.1, r17.2)) else bindP (F_spec_l19Cone a0) fun r18 => bindP (F_spec_l19Constant a0 r18) fun r19 => bindP (F_spec_LatOf a1) fun r20 => bindP (F_spec_l19Radius a0.kind r18 r19 r20) fun r21 => bindP (F_spec_RadiansOf a0.lat0) fun r22 => bindP (F_spec_l19Radius a0.kind r18 r19 r22) fun r23 => bindP (F_spec_l17Lon a0 a1) fun r24 => bindP (F_spec_MulI r18 r24) fun r25 => bindP (F_spec_SinI r25) fun r26 => bindP (F_spec_MulI r21 r26) fun r27 => bindP (F_spec_CosI r25) fun r28 => bindP (F_spec_MulI r21 r28) fun r29 => bindP (F_spec_SubI r23 r29) fun r30 => bindP (F_spec_l17End r27 r30) fun r31 => (r31.1, r31.2))))

def F_spec_l20Kind (a0 : I64) : Bool :=
  bindP (F_spec_l00In a0 (c64 13) (c64 15)) fun r1 => r1

def F_spec_l20Ok__pPj (b0 : Pj) : Bool :=
  bindP (F_spec_l20Kind b0.kind) fun r1 => (bif r1 then bindP (F_spec_ValidProjection b0) fun r2 => r2 else false)

def F_spec_PiI : Iv :=
  bindP (F_spec_l05Turn (c64 2)) fun r1 => r1

def F_spec_l20Right (a0 : I64) : Iv :=
  (bif (a0.val == 14) then bindP (F_spec_PiI) fun r1 => r1 else bindP (F_spec_Integer (c64 1)) fun r2 => bindP (F_spec_TurnI (c64 1)) fun r3 => bindP (F_spec_AddI r2 r3) fun r4 => r4)

def F_spec_l20Left (a0 : I64) (a1 : I64) : Iv :=
  bindP (F_spec_l05At a1) fun r1 => (bif (a0.val == 14) then bindP (F_spec_l05At (w64 (2 * a1.val))) fun r2 => bindP (F_spec_SinI r2) fun r3 => bindP (F_spec_AddI r2 r3) fun r4 => r4 else bindP (F_spec_SinI r1) fun r5 => bindP (F_spec_AddI r1 r5) fun r6 => r6)

def F_spec_l20Solve_L1 : Nat → I64 → I64 → I64 → I64 → I64 → Iv
  | 0, _, _, _, _, _ => (⟨(c64 0), (c64 0)⟩ : Iv)
  | fu + 1, a0, a1, x_from, x_low, x_high => (bif (decide ((w64 (x_high.val - x_low.val)).val > 1)) then bindP (F_spec_l20Left a0 (ishr (w64 (x_low.val + x_high.val)) 1)) fun r6 => (bif (decide (r6.lo.val > a1.val)) then F_spec_l20Solve_L1 fu a0 a1 x_from x_low (ishr (w64 (x_low.val + x_high.val)) 1) else F_spec_l20Solve_L1 fu a0 a1 x_from (ishr (w64 (x_low.val + x_high.val)) 1) x_high) else (⟨x_from, x_high⟩ : Iv))

def F_spec_l20Solve_L0 : Nat → I64 → I64 → Iv → I64 → I64 → Iv
  | 0, _, _, _, _, _ => (⟨(c64 0), (c64 0)⟩ : Iv)
  | fu + 1, a0, a1, r1, x_low, x_high => (bif (decide ((w64 (x_high.val - x_low.val)).val > 1)) then bindP (F_spec_l20Left a0 (ishr (w64 (x_low.val + x_high.val)) 1)) fun r3 => (bif (decide (r3.hi.val < a1.val)) then F_spec_l20Solve_L0 fu a0 a1 r1 (ishr (w64 (x_low.val + x_high.val)) 1) x_high else F_spec_l20Solve_L0 fu a0 a1 r1 x_low (ishr (w64 (x_low.val + x_high.val)) 1)) else F_spec_l20Solve_L1 ((r1.hi.val - x_low.val).toNat + 1) a0 a1 x_low x_low r1.hi)

def F_spec_l20Solve (a0 : I64) (a1 : I64) : Iv :=
  bindP (F_spec_l05Turn (c64 1)) fun r1 => F_spec_l20Solve_L0 ((r1.hi.val - (c64 0).val).toNat + 1) a0 a1 r1 (c64 0) r1.hi

def F_spec_l20At (a0 : I64) (a1 : I64) : Iv :=
  (bif (decide (a1.val < (-1152921504606846976))) then bindP (F_spec_l07Quarter) fun r1 => r1 else (bif (decide (a1.val > 1152921504606846976)) then bindP (F_spec_l07Quarter) fun r2 => r2 else (bif (decide (a1.val < 0)) then bindP (F_spec_l20Solve a0 (w64 (0 - a1.val))) fun r3 => bindP (F_spec_NegI r3) fun r4 => r4 else bindP (F_spec_l20Solve a0 a1) fun r5 => r5)))

def F_spec_ThetaOf (a0 : I64) (a1 : Iv) : Iv :=
  (bif (a0.val == 13) then a1 else (bif (a0.val == 14) then bindP (F_spec_l20Right a0) fun r1 => bindP (F_spec_SinI a1) fun r2 => bindP (F_spec_MulI r1 r2) fun r3 => bindP (F_spec_l20At a0 r3.lo) fun r4 => bindP (F_spec_l20At a0 r3.hi) fun r5 => bindP (F_spec_HullI r4 r5) fun r6 => r6 else (bif (a0.val == 15) then bindP (F_spec_l20Right a0) fun r7 => bindP (F_spec_SinI a1) fun r8 => bindP (F_spec_MulI r7 r8) fun r9 => bindP (F_spec_l20At a0 r9.lo) fun r10 => bindP (F_spec_l20At a0 r9.hi) fun r11 => bindP (F_spec_HullI r10 r11) fun r12 => r12 else bindP (F_spec_Whole) fun r13 => r13)))

def F_spec_l20Root (a0 : I64) : Iv :=
  (bif (a0.val == 14) then bindP (F_spec_Integer (c64 2)) fun r1 => bindP (F_spec_SqrtI r1) fun r2 => r2 else bindP (F_spec_Integer (c64 2)) fun r3 => bindP (F_spec_PiI) fun r4 => bindP (F_spec_AddI r3 r4) fun r5 => bindP (F_spec_SqrtI r5) fun r6 => r6)

def F_spec_l20Parallel (a0 : I64) (a1 : Iv) : Iv × Iv :=
  (bif (a0.val == 13) then bindP (F_spec_CosI a1) fun r1 => (r1, a1) else (bif (a0.val == 14) then bindP (F_spec_Integer (c64 2)) fun r2 => bindP (F_spec_l20Root a0) fun r3 => bindP (F_spec_MulI r2 r3) fun r4 => bindP (F_spec_CosI a1) fun r5 => bindP (F_spec_MulI r4 r5) fun r6 => bindP (F_spec_PiI) fun r7 => bindP (F_spec_DivI r6 r7) fun r8 => bindP (F_spec_l20Root a0) fun r9 => bindP (F_spec_SinI a1) fun r10 => bindP (F_spec_MulI r9 r10) fun r11 => (r8, r11) else bindP (F_spec_Integer (c64 1)) fun r12 => bindP (F_spec_CosI a1) fun r13 => bindP (F_spec_AddI r12 r13) fun r14 => bindP (F_spec_l20Root a0) fun r15 => bindP (F_spec_DivI r14 r15) fun r16 => bindP (F_spec_Integer (c64 2)) fun r17 => bindP (F_spec_MulI r17 a1) fun r18 => bindP (F_spec_l20Root a0) fun r19 => bindP (F_spec_DivI r18 r19) fun r20 => (r16, r20)))

def F_spec_ParallelOf (a0 : I64) (a1 : Iv) : Iv × Iv :=
  bindP (F_spec_l20Kind a0) fun r1 => (bif (!r1) then bindP (F_spec_Whole) fun r2 => bindP (F_spec_Whole) fun r3 => (r2, r3) else bindP (F_spec_ThetaOf a0 a1) fun r4 => bindP (F_spec_l20Parallel a0 r4) fun r5 => (r5.1, r5.2))

def F_spec_PseudoForward (a0 : Pj) (a1 : Pt) : Pn × I64 :=
  bindP (F_spec_l20Ok__pPj a0) fun r1 => (bif (!r1) then ((⟨(⟨(c64 0), (c64 0)⟩ : Iv), (⟨(c64 0), (c64 0)⟩ : Iv)⟩ : Pn), (c64 1)) else bindP (F_spec_l11Ok a1) fun r2 => (bif (!r2) then ((⟨(⟨(c64 0), (c64 0)⟩ : Iv), (⟨(c64 0), (c64 0)⟩ : Iv)⟩ : Pn), (c64 1)) else bindP (F_spec_RadiansOf a1.lat) fun r3 => bindP (F_spec_ParallelOf a0.kind r3) fun r4 => bindP (F_spec_l11Wrap (w64 (a1.lon.val - a0.lon0.val))) fun r5 => bindP (F_spec_RadiansOf r5) fun r6 => bindP (F_spec_MulI r6 r4.1) fun r7 => bindP (F_spec_IsWhole r7) fun r8 => (bif r8 then ((⟨(⟨(c64 0), (c64 0)⟩ : Iv), (⟨(c64 0), (c64 0)⟩ : Iv)⟩ : Pn), (c64 9)) else bindP (F_spec_IsWhole r4.2) fun r9 => (bif r9 then ((⟨(⟨(c64 0), (c64 0)⟩ : Iv), (⟨(c64 0), (c64 0)⟩ : Iv)⟩ : Pn), (c64 9)) else ((⟨r7, r4.2⟩ : Pn), (c64 0))))))

def F_spec_l08Atanh_b (self : I64 → Iv) (a0 : I64) : Iv :=
  (bif (decide (a0.val < 0)) then bindP (self (w64 (0 - a0.val))) fun r2 => bindP (F_spec_NegI r2) fun r3 => r3 else (bif (decide (a0.val ≥ 4294967296)) then bindP (F_spec_l04Whole) fun r5 => r5 else bindP (F_spec_l08At (w64 (4294967296 + a0.val))) fun r6 => bindP (F_spec_l08At (w64 (4294967296 - a0.val))) fun r7 => bindP (F_spec_DivI r6 r7) fun r8 => bindP (F_spec_LogI r8) fun r9 => bindP (F_spec_HalfI r9) fun r10 => r10))
def F_spec_l08Atanh_r : Nat → I64 → Iv
  | 0, _ => (⟨(c64 0), (c64 0)⟩ : Iv)
  | fu + 1, a0 => F_spec_l08Atanh_b (F_spec_l08Atanh_r fu) a0
def F_spec_l08Atanh (a0 : I64) : Iv := F_spec_l08Atanh_r 2 a0

def F_spec_AtanhI (a0 : Iv) : Iv :=
  bindP (F_spec_l04Ok a0) fun r1 => (bif (!r1) then bindP (F_spec_l04Whole) fun r3 => r3 else bindP (F_spec_l08Atanh a0.lo) fun r4 => bindP (F_spec_l08Atanh a0.hi) fun r5 => bindP (F_spec_l08Ends r4 r5) fun r6 => r6)

def F_spec_l21Forward__pPj (b0 : Pj) (a0 : Pt) : Pn × I64 :=
  bindP (F_spec_l21Edge__pPj b0 a0) fun r1 => (bif r1 then ((⟨(⟨(c64 0), (c64 0)⟩ : Iv), (⟨(c64 0), (c64 0)⟩ : Iv)⟩ : Pn), (c64 8)) else bindP (F_spec_RadiansOf a0.lat) fun r2 => bindP (F_spec_l21Side__pPj b0 a0) fun r3 => bindP (F_spec_AtanhI r3) fun r4 => bindP (F_spec_SinI r2) fun r5 => bindP (F_spec_CosI r2) fun r6 => bindP (F_spec_l21Turn__pPj b0 a0) fun r7 => bindP (F_spec_CosI r7) fun r8 => bindP (F_spec_MulI r6 r8) fun r9 => bindP (F_spec_DirectionI r5 r9) fun r10 => bindP (F_spec_RadiansOf b0.lat0) fun r11 => bindP (F_spec_SubI r10 r11) fun r12 => bindP (F_spec_IsWhole r4) fun r13 => (bif r13 then ((⟨(⟨(c64 0), (c64 0)⟩ : Iv), (⟨(c64 0), (c64 0)⟩ : Iv)⟩ : Pn), (c64 9)) else bindP (F_spec_IsWhole r12) fun r14 => (bif r14 then ((⟨(⟨(c64 0), (c64 0)⟩ : Iv), (⟨(c64 0), (c64 0)⟩ : Iv)⟩ : Pn), (c64 9)) else ((⟨r4, r12⟩ : Pn), (c64 0)))))

def F_spec_TransverseForward (a0 : Pj) (a1 : Pt) : Pn × I64 :=
  bindP (F_spec_l21Ok__pPj a0) fun r1 => (bif (!r1) then ((⟨(⟨(c64 0), (c64 0)⟩ : Iv), (⟨(c64 0), (c64 0)⟩ : Iv)⟩ : Pn), (c64 1)) else bindP (F_spec_l11Ok a1) fun r2 => (bif (!r2) then ((⟨(⟨(c64 0), (c64 0)⟩ : Iv), (⟨(c64 0), (c64 0)⟩ : Iv)⟩ : Pn), (c64 1)) else bindP (F_spec_l21Forward__pPj a0 a1) fun r3 => (r3.1, r3.2)))

def F_spec_l22Project (a0 : Pj) (a1 : Pt) : Pn × I64 :=
  bindP (F_spec_l22Family a0.kind) fun r1 => (bif (r1.val == 1) then bindP (F_spec_CylinderForward a0 a1) fun r2 => (r2.1, r2.2) else (bif (r1.val == 2) then bindP (F_spec_AzimuthalForward a0 a1) fun r3 => (r3.1, r3.2) else (bif (r1.val == 3) then bindP (F_spec_ConicForward a0 a1) fun r4 => (r4.1, r4.2) else (bif (r1.val == 4) then bindP (F_spec_PseudoForward a0 a1) fun r5 => (r5.1, r5.2) else (bif (r1.val == 5) then bindP (F_spec_TransverseForward a0 a1) fun r6 => (r6.1, r6.2) else ((⟨(⟨(c64 0), (c64 0)⟩ : Iv), (⟨(c64 0), (c64 0)⟩ : Iv)⟩ : Pn), (c64 1)))))))

def F_spec_Project (a0 : Pj) (a1 : Pt) : Pn × I64 :=
  bindP (F_spec_l22Project a0 a1) fun r1 => (r1.1, r1.2)

def F_impl_CylinderForward (a0 : Pj) (a1 : Pt) : Pn × I64 :=
  bindP (F_impl_ValidProjection a0) fun r1 => (bif (!r1) then ((⟨(⟨(c64 0), (c64 0)⟩ : Iv), (⟨(c64 0), (c64 0)⟩ : Iv)⟩ : Pn), (c64 1)) else bindP (F_impl_ValidPoint a1) fun r2 => (bif (!r2) then ((⟨(⟨(c64 0), (c64 0)⟩ : Iv), (⟨(c64 0), (c64 0)⟩ : Iv)⟩ : Pn), (c64 1)) else bindP (F_impl_isCylindrical a0.kind) fun r3 => (bif (!r3) then ((⟨(⟨(c64 0), (c64 0)⟩ : Iv), (⟨(c64 0), (c64 0)⟩ : Iv)⟩ : Pn), (c64 1)) else bindP (F_impl_LonFrom a0 a1) fun r4 => bindP (F_impl_LatOf a1) fun r5 => bindP (F_impl_RadiansOf a0.lat1) fun r6 => bindP (F_impl_CosI r6) fun r7 => (bif (a0.kind.val == 1) then bindP (F_impl_MulI r4 r7) fun r8 => bindP (F_impl_planar r8 r5) fun r9 => (r9.1, r9.2) else (bif (a0.kind.val == 3) then bindP (F_impl_MulI r4 r7) fun r10 => bindP (F_impl_SinI r5) fun r11 => bindP (F_impl_DivI r11 r7) fun r12 => bindP (F_impl_planar r10 r12) fun r13 => (r13.1, r13.2) else (bif (a0.kind.val == 4) then bindP (F_impl_Quotient (c64 5) (c64 4)) fun r14 => bindP (F_impl_Quotient (c64 4) (c64 5)) fun r15 => bindP (F_impl_MulI r15 r5) fun r16 => bindP (F_impl_TanI r16) fun r17 => bindP (F_impl_AsinhI r17) fun r18 => bindP (F_impl_MulI r14 r18) fun r19 => bindP (F_impl_planar r4 r19) fun r20 => (r20.1, r20.2) else bindP (F_impl_isPole a1) fun r21 => (bif r21 then ((⟨(⟨(c64 0), (c64 0)⟩ : Iv), (⟨(c64 0), (c64 0)⟩ : Iv)⟩ : Pn), (c64 8)) else bindP (F_impl_TanI r5) fun r22 => bindP (F_impl_AsinhI r22) fun r23 => bindP (F_impl_planar r4 r23) fun r24 => (r24.1, r24.2))))))))

def F_impl_ConicForward (a0 : Pj) (a1 : Pt) : Pn × I64 :=
  bindP (F_impl_newConic a0) fun r1 => (bif (r1.2.val != 0) then ((⟨(⟨(c64 0), (c64 0)⟩ : Iv), (⟨(c64 0), (c64 0)⟩ : Iv)⟩ : Pn), (c64 1)) else bindP (F_impl_ValidPoint a1) fun r2 => (bif (!r2) then ((⟨(⟨(c64 0), (c64 0)⟩ : Iv), (⟨(c64 0), (c64 0)⟩ : Iv)⟩ : Pn), (c64 1)) else bindP (F_impl_isPole a1) fun r4 => (bif r4 then (bif (a0.kind.val == 11) then ((⟨(⟨(c64 0), (c64 0)⟩ : Iv), (⟨(c64 0), (c64 0)⟩ : Iv)⟩ : Pn), (c64 8)) else bindP (F_impl_LatOf a1) fun r7 => bindP (F_impl_conic_radius__pCn r1.1 r7) fun r8 => bindP (F_impl_LonFrom a0 a1) fun r9 => bindP (F_impl_MulI r1.1.n r9) fun r10 => bindP (F_impl_SinI r10) fun r11 => bindP (F_impl_MulI r8 r11) fun r12 => bindP (F_impl_conic_radius__pCn r1.1 r1.1.o) fun r13 => bindP (F_impl_CosI r10) fun r14 => bindP (F_impl_MulI r8 r14) fun r15 => bindP (F_impl_SubI r13 r15) fun r16 => bindP (F_impl_planar r12 r16) fun r17 => (r17.1, r17.2)) else bindP (F_impl_LatOf a1) fun r18 => bindP (F_impl_conic_radius__pCn r1.1 r18) fun r19 => bindP (F_impl_LonFrom a0 a1) fun r20 => bindP (F_impl_MulI r1.1.n r20) fun r21 => bindP (F_impl_SinI r21) fun r22 => bindP (F_impl_MulI r19 r22) fun r23 => bindP (F_impl_conic_radius__pCn r1.1 r1.1.o) fun r24 => bindP (F_impl_CosI r21) fun r25 => bindP (F_impl_MulI r19 r25) fun r26 => bindP (F_impl_SubI r24 r26) fun r27 => bindP (F_impl_planar r23 r27) fun r28 => (r28.1, r28.2))))

def F_impl_isPseudoOne (a0 : Pj) : Bool :=
  bindP (F_impl_ValidProjection a0) fun r1 => (bif r1 then bindP (F_impl_isPseudo a0.kind) fun r2 => r2 else false)

def F_impl_PiI : Iv :=
  bindP (F_impl_TurnI (c64 2)) fun r1 => r1

def F_impl_leftFactor (a0 : I64) : Iv :=
  (bif (a0.val == 14) then bindP (F_impl_PiI) fun r1 => r1 else bindP (F_impl_Integer (c64 1)) fun r2 => bindP (F_impl_TurnI (c64 1)) fun r3 => bindP (F_impl_AddI r2 r3) fun r4 => r4)

def F_impl_quarter : I64 :=
  bindP (F_impl_TurnI (c64 1)) fun r1 => r1.hi

def F_impl_leftSide (a0 : I64) (a1 : I64) : Iv :=
  bindP (F_impl_at a1) fun r1 => (bif (a0.val == 14) then bindP (F_impl_at (w64 (2 * a1.val))) fun r2 => bindP (F_impl_SinI r2) fun r3 => bindP (F_impl_AddI r2 r3) fun r4 => r4 else bindP (F_impl_SinI r1) fun r5 => bindP (F_impl_AddI r1 r5) fun r6 => r6)

def F_impl_parameterAt_L1 : Nat → I64 → I64 → I64 → I64 → I64 → Iv
  | 0, _, _, _, _, _ => (⟨(c64 0), (c64 0)⟩ : Iv)
  | fu + 1, a0, a1, x_low, x_lowq, x_high => (bif (decide ((w64 (x_high.val - x_lowq.val)).val > 1)) then bindP (F_impl_leftSide a0 (ishr (w64 (x_lowq.val + x_high.val)) 1)) fun r13 => (bif (decide (r13.lo.val > a1.val)) then F_impl_parameterAt_L1 fu a0 a1 x_low x_lowq (ishr (w64 (x_lowq.val + x_high.val)) 1) else F_impl_parameterAt_L1 fu a0 a1 x_low (ishr (w64 (x_lowq.val + x_high.val)) 1) x_high) else (⟨x_low, x_high⟩ : Iv))

def F_impl_parameterAt_L0 : Nat → I64 → I64 → I64 → I64 → Iv
  | 0, _, _, _, _ => (⟨(c64 0), (c64 0)⟩ : Iv)
  | fu + 1, a0, a1, x_low, x_high => (bif (decide ((w64 (x_high.val - x_low.val)).val > 1)) then bindP (F_impl_leftSide a0 (ishr (w64 (x_low.val + x_high.val)) 1)) fun r9 => (bif (decide (r9.hi.val < a1.val)) then F_impl_parameterAt_L0 fu a0 a1 (ishr (w64 (x_low.val + x_high.val)) 1) x_high else F_impl_parameterAt_L0 fu a0 a1 x_low (ishr (w64 (x_low.val + x_high.val)) 1)) else bindP (F_impl_quarter) fun r11 => F_impl_parameterAt_L1 ((r11.val - x_low.val).toNat + 1) a0 a1 x_low x_low r11)

def F_impl_parameterAt_r : Nat → I64 → I64 → Iv
  | 0, _, _ => (⟨(c64 0), (c64 0)⟩ : Iv)
  | fu + 1, a0, a1 => bindP (F_impl_ValidFix a1) fun r1 => (bif (!r1) then bindP (F_impl_halfCircle) fun r3 => r3 else (bif (decide (a1.val < 0)) then bindP (F_impl_parameterAt_r fu a0 (w64 (0 - a1.val))) fun r5 => bindP (F_impl_NegI r5) fun r6 => r6 else bindP (F_impl_quarter) fun r7 => F_impl_parameterAt_L0 ((r7.val - (c64 0).val).toNat + 1) a0 a1 (c64 0) r7))
def F_impl_parameterAt (a0 : I64) (a1 : I64) : Iv := F_impl_parameterAt_r 2 a0 a1

def F_impl_ThetaOf (a0 : I64) (a1 : Iv) : Iv :=
  bindP (F_impl_isPseudo a0) fun r1 => (bif (!r1) then bindP (F_impl_Whole) fun r2 => r2 else (bif (a0.val == 13) then a1 else bindP (F_impl_leftFactor a0) fun r3 => bindP (F_impl_SinI a1) fun r4 => bindP (F_impl_MulI r3 r4) fun r5 => bindP (F_impl_parameterAt a0 r5.lo) fun r6 => bindP (F_impl_parameterAt a0 r5.hi) fun r7 => bindP (F_impl_HullI r6 r7) fun r8 => r8))

def F_impl_pseudoRadius (a0 : I64) : Iv :=
  (bif (a0.val == 14) then bindP (F_impl_Integer (c64 2)) fun r1 => bindP (F_impl_SqrtI r1) fun r2 => r2 else bindP (F_impl_Integer (c64 2)) fun r3 => bindP (F_impl_PiI) fun r4 => bindP (F_impl_AddI r3 r4) fun r5 => bindP (F_impl_SqrtI r5) fun r6 => r6)

def F_impl_parallelLength (a0 : I64) (a1 : Iv) : Iv :=
  bindP (F_impl_pseudoRadius a0) fun r1 => (bif (a0.val == 13) then bindP (F_impl_CosI a1) fun r2 => r2 else (bif (a0.val == 14) then bindP (F_impl_times (c64 2) r1) fun r3 => bindP (F_impl_CosI a1) fun r4 => bindP (F_impl_MulI r3 r4) fun r5 => bindP (F_impl_PiI) fun r6 => bindP (F_impl_DivI r5 r6) fun r7 => r7 else bindP (F_impl_Integer (c64 1)) fun r8 => bindP (F_impl_CosI a1) fun r9 => bindP (F_impl_AddI r8 r9) fun r10 => bindP (F_impl_DivI r10 r1) fun r11 => r11))

def F_impl_parallelHeight (a0 : I64) (a1 : Iv) : Iv :=
  bindP (F_impl_pseudoRadius a0) fun r1 => (bif (a0.val == 13) then a1 else (bif (a0.val == 14) then bindP (F_impl_SinI a1) fun r2 => bindP (F_impl_MulI r1 r2) fun r3 => r3 else bindP (F_impl_times (c64 2) a1) fun r4 => bindP (F_impl_DivI r4 r1) fun r5 => r5))

def F_impl_ParallelOf (a0 : I64) (a1 : Iv) : Iv × Iv :=
  bindP (F_impl_isPseudo a0) fun r1 => (bif (!r1) then bindP (F_impl_Whole) fun r2 => bindP (F_impl_Whole) fun r3 => (r2, r3) else bindP (F_impl_ThetaOf a0 a1) fun r4 => bindP (F_impl_parallelLength a0 r4) fun r5 => bindP (F_impl_parallelHeight a0 r4) fun r6 => (r5, r6))

def F_impl_PseudoForward (a0 : Pj) (a1 : Pt) : Pn × I64 :=
  bindP (F_impl_isPseudoOne a0) fun r1 => (bif (!r1) then ((⟨(⟨(c64 0), (c64 0)⟩ : Iv), (⟨(c64 0), (c64 0)⟩ : Iv)⟩ : Pn), (c64 1)) else bindP (F_impl_ValidPoint a1) fun r2 => (bif (!r2) then ((⟨(⟨(c64 0), (c64 0)⟩ : Iv), (⟨(c64 0), (c64 0)⟩ : Iv)⟩ : Pn), (c64 1)) else bindP (F_impl_LatOf a1) fun r3 => bindP (F_impl_ParallelOf a0.kind r3) fun r4 => bindP (F_impl_LonFrom a0 a1) fun r5 => bindP (F_impl_MulI r5 r4.1) fun r6 => bindP (F_impl_planar r6 r4.2) fun r7 => (r7.1, r7.2)))

def F_impl_AtanhI_1 (a0 : I64) : Iv :=
  (bif (decide (a0.val ≥ 4294967296)) then bindP (F_impl_Whole) fun r1 => r1 else bindP (F_impl_at (w64 (4294967296 + a0.val))) fun r2 => bindP (F_impl_at (w64 (4294967296 - a0.val))) fun r3 => bindP (F_impl_DivI r2 r3) fun r4 => bindP (F_impl_LogI r4) fun r5 => bindP (F_impl_HalfI r5) fun r6 => r6)

def F_impl_odd_1__p_impl_AtanhI_1 (a0 : I64) : Iv :=
  (bif (decide (a0.val < 0)) then bindP (F_impl_AtanhI_1 (w64 (0 - a0.val))) fun r1 => bindP (F_impl_NegI r1) fun r2 => r2 else bindP (F_impl_AtanhI_1 a0) fun r3 => r3)

def F_impl_monotonic__impl_odd_1_p_impl_AtanhI_1 (a0 : Iv) : Iv :=
  bindP (F_impl_IsWhole a0) fun r1 => (bif r1 then bindP (F_impl_Whole) fun r2 => r2 else bindP (F_impl_odd_1__p_impl_AtanhI_1 a0.lo) fun r3 => bindP (F_impl_odd_1__p_impl_AtanhI_1 a0.hi) fun r4 => bindP (F_impl_areBounded r3 r4) fun r5 => (bif (!r5) then bindP (F_impl_Whole) fun r6 => r6 else bindP (F_impl_bounded r3.lo r4.hi true) fun r7 => r7))

def F_impl_AtanhI (a0 : Iv) : Iv :=
  bindP (F_impl_monotonic__impl_odd_1_p_impl_AtanhI_1 a0) fun r1 => r1

def F_impl_TransverseForward (a0 : Pj) (a1 : Pt) : Pn × I64 :=
  bindP (F_impl_transverse a0 a1) fun r1 => (bif (r1.2.2.2.val != 0) then ((⟨(⟨(c64 0), (c64 0)⟩ : Iv), (⟨(c64 0), (c64 0)⟩ : Iv)⟩ : Pn), r1.2.2.2) else bindP (F_impl_AtanhI r1.2.2.1) fun r2 => bindP (F_impl_SinI r1.1) fun r3 => bindP (F_impl_CosI r1.1) fun r4 => bindP (F_impl_CosI r1.2.1) fun r5 => bindP (F_impl_MulI r4 r5) fun r6 => bindP (F_impl_DirectionI r3 r6) fun r7 => bindP (F_impl_RadiansOf a0.lat0) fun r8 => bindP (F_impl_SubI r7 r8) fun r9 => bindP (F_impl_planar r2 r9) fun r10 => (r10.1, r10.2))

def F_impl_Project (a0 : Pj) (a1 : Pt) : Pn × I64 :=
  bindP (F_impl_FamilyOf a0.kind) fun r1 => (bif (r1.val == 1) then bindP (F_impl_CylinderForward a0 a1) fun r2 => (r2.1, r2.2) else (bif (r1.val == 2) then bindP (F_impl_AzimuthalForward a0 a1) fun r3 => (r3.1, r3.2) else (bif (r1.val == 3) then bindP (F_impl_ConicForward a0 a1) fun r4 => (r4.1, r4.2) else (bif (r1.val == 4) then bindP (F_impl_PseudoForward a0 a1) fun r5 => (r5.1, r5.2) else (bif (r1.val == 5) then bindP (F_impl_TransverseForward a0 a1) fun r6 => (r6.1, r6.2) else ((⟨(⟨(c64 0), (c64 0)⟩ : Iv), (⟨(c64 0), (c64 0)⟩ : Iv)⟩ : Pn), (c64 1)))))))

end Go.Proofs.YtjckiicaegpghaaGreat.Abs
