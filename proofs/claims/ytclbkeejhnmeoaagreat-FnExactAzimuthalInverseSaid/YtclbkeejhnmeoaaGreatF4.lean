/- The functions, on numbers; part 4 (written by w.py). -/
import Derived.Test.YtclbkeejhnmeoaaGreatF3
set_option linter.unusedVariables false
set_option linter.unusedSimpArgs false
namespace Go.Proofs.YtclbkeejhnmeoaaGreat.Abs
open Go Go.RowKit

def F_impl_TanI_L0 : Nat → List I64 → Iv → I64 → Iv → Iv
  | 0, _, _, _, _ => (⟨(c64 0), (c64 0)⟩ : Iv)
  | fu + 1, r4, a0, x_12, y_1 => (bif (decide (x_12.val < (((r4.length : Nat) : Int)))) then (bif ((iand .i64 (listAt r4 x_12).val 1).val == 1) then bindP (F_impl_Whole) fun r7 => r7 else F_impl_TanI_L0 fu r4 a0 (w64 (x_12.val + 1)) y_1) else bindP (F_impl_SinAt a0.lo) fun r8 => bindP (F_impl_CosAt a0.lo) fun r9 => bindP (F_impl_DivI r8 r9) fun r10 => bindP (F_impl_SinAt a0.hi) fun r11 => bindP (F_impl_CosAt a0.hi) fun r12 => bindP (F_impl_DivI r11 r12) fun r13 => bindP (F_impl_HullI r10 r13) fun r14 => r14)

def F_impl_TanI (a0 : Iv) : Iv :=
  bindP (F_impl_areAngles a0) fun r1 => (bif (!r1) then bindP (F_impl_Whole) fun r3 => r3 else bindP (F_impl_turnsIn a0) fun r4 => F_impl_TanI_L0 (((r4.length : Nat) : Int).toNat + 1) r4 a0 (c64 0) (⟨(c64 0), (c64 0)⟩ : Iv))

def F_impl_AsinhI_1 (a0 : I64) : Iv :=
  (bif (decide (a0.val ≤ 35184372088832)) then bindP (F_impl_at a0) fun r1 => bindP (F_impl_at a0) fun r2 => bindP (F_impl_SqrI r2) fun r3 => bindP (F_impl_Integer (c64 1)) fun r4 => bindP (F_impl_AddI r3 r4) fun r5 => bindP (F_impl_SqrtI r5) fun r6 => bindP (F_impl_AddI r1 r6) fun r7 => bindP (F_impl_LogI r7) fun r8 => r8 else bindP (F_impl_LogTwoI (c64 1)) fun r9 => bindP (F_impl_LogAt a0) fun r10 => bindP (F_impl_AddI r9 r10) fun r11 => bindP (F_impl_AddI r11 (⟨(c64 0), (c64 16)⟩ : Iv)) fun r12 => r12)

def F_impl_odd_1__p_impl_AsinhI_1 (a0 : I64) : Iv :=
  (bif (decide (a0.val < 0)) then bindP (F_impl_AsinhI_1 (w64 (0 - a0.val))) fun r1 => bindP (F_impl_NegI r1) fun r2 => r2 else bindP (F_impl_AsinhI_1 a0) fun r3 => r3)

def F_impl_monotonic__impl_odd_1_p_impl_AsinhI_1 (a0 : Iv) : Iv :=
  bindP (F_impl_IsWhole a0) fun r1 => (bif r1 then bindP (F_impl_Whole) fun r2 => r2 else bindP (F_impl_odd_1__p_impl_AsinhI_1 a0.lo) fun r3 => bindP (F_impl_odd_1__p_impl_AsinhI_1 a0.hi) fun r4 => bindP (F_impl_areBounded r3 r4) fun r5 => (bif (!r5) then bindP (F_impl_Whole) fun r6 => r6 else bindP (F_impl_bounded r3.lo r4.hi true) fun r7 => r7))

def F_impl_AsinhI (a0 : Iv) : Iv :=
  bindP (F_impl_monotonic__impl_odd_1_p_impl_AsinhI_1 a0) fun r1 => r1

def F_impl_isometricSphere (a0 : Iv) : Iv :=
  bindP (F_impl_TanI a0) fun r1 => bindP (F_impl_AsinhI r1) fun r2 => r2

def F_impl_conic_cone__pCn (b0 : Cn) : Iv :=
  (bif (b0.p.kind.val == 10) then bindP (F_impl_SinI b0.a) fun r1 => bindP (F_impl_SinI b0.b) fun r2 => bindP (F_impl_AddI r1 r2) fun r3 => bindP (F_impl_HalfI r3) fun r4 => r4 else (bif (b0.p.lat1.val == b0.p.lat2.val) then bindP (F_impl_SinI b0.a) fun r5 => r5 else (bif (b0.p.kind.val == 11) then bindP (F_impl_CosI b0.a) fun r6 => bindP (F_impl_LogI r6) fun r7 => bindP (F_impl_CosI b0.b) fun r8 => bindP (F_impl_LogI r8) fun r9 => bindP (F_impl_SubI r7 r9) fun r10 => bindP (F_impl_isometricSphere b0.b) fun r11 => bindP (F_impl_isometricSphere b0.a) fun r12 => bindP (F_impl_SubI r11 r12) fun r13 => bindP (F_impl_DivI r10 r13) fun r14 => r14 else bindP (F_impl_CosI b0.a) fun r15 => bindP (F_impl_CosI b0.b) fun r16 => bindP (F_impl_SubI r15 r16) fun r17 => bindP (F_impl_SubI b0.b b0.a) fun r18 => bindP (F_impl_DivI r17 r18) fun r19 => r19)))

def F_impl_times (a0 : I64) (a1 : Iv) : Iv :=
  bindP (F_impl_Integer a0) fun r1 => bindP (F_impl_MulI r1 a1) fun r2 => r2

def F_impl_scaled_L0 : Nat → I64 → Iv → Iv
  | 0, _, _ => (⟨(c64 0), (c64 0)⟩ : Iv)
  | fu + 1, x_k, y_0 => (bif (decide (x_k.val > 0)) then bindP (F_impl_DoubleI y_0) fun r2 => F_impl_scaled_L0 fu (w64 (x_k.val - 1)) r2 else bindP (F_impl_IsWhole y_0) fun r3 => (bif r3 then bindP (F_impl_Whole) fun r5 => r5 else (⟨(ishr y_0.lo (w64 (0 - x_k.val)).val), (w64 (0 - (ishr (w64 (0 - y_0.hi.val)) (w64 (0 - x_k.val)).val).val))⟩ : Iv)))

def F_impl_scaled (a0 : Iv) (a1 : I64) : Iv :=
  F_impl_scaled_L0 (a1.val.toNat + 1) a1 a0

def F_impl_ExpAt (a0 : I64) : Iv :=
  bindP (F_impl_ValidFix a0) fun r1 => (bif (!r1) then bindP (F_impl_Whole) fun r3 => r3 else (bif (decide (a0.val > 85899345920)) then bindP (F_impl_Whole) fun r5 => r5 else (bif (decide (a0.val < (-98784247808))) then (⟨(c64 0), (c64 1)⟩ : Iv) else (bif (decide ((w64 ((w64 ((w64 (Int.tdiv (w64 ((w64 (2 * a0.val)).val + 2977044472)).val 5954088944)).val * 2)).val * 2977044472)).val > (w64 ((w64 (2 * a0.val)).val + 2977044472)).val)) then bindP (F_impl_at a0) fun r8 => bindP (F_impl_LogTwoI (w64 ((w64 (Int.tdiv (w64 ((w64 (2 * a0.val)).val + 2977044472)).val 5954088944)).val - 1))) fun r9 => bindP (F_impl_SubI r8 r9) fun r10 => bindP (F_impl_Integer (c64 1)) fun r11 => bindP (F_impl_Integer (c64 1)) fun r12 => bindP (F_impl_MulI r10 r11) fun r13 => bindP (F_impl_Integer (c64 9)) fun r14 => bindP (F_impl_DivI r13 r14) fun r15 => bindP (F_impl_AddI r12 r15) fun r16 => bindP (F_impl_Integer (c64 1)) fun r17 => bindP (F_impl_MulI r10 r16) fun r18 => bindP (F_impl_Integer (c64 8)) fun r19 => bindP (F_impl_DivI r18 r19) fun r20 => bindP (F_impl_AddI r17 r20) fun r21 => bindP (F_impl_Integer (c64 1)) fun r22 => bindP (F_impl_MulI r10 r21) fun r23 => bindP (F_impl_Integer (c64 7)) fun r24 => bindP (F_impl_DivI r23 r24) fun r25 => bindP (F_impl_AddI r22 r25) fun r26 => bindP (F_impl_Integer (c64 1)) fun r27 => bindP (F_impl_MulI r10 r26) fun r28 => bindP (F_impl_Integer (c64 6)) fun r29 => bindP (F_impl_DivI r28 r29) fun r30 => bindP (F_impl_AddI r27 r30) fun r31 => bindP (F_impl_Integer (c64 1)) fun r32 => bindP (F_impl_MulI r10 r31) fun r33 => bindP (F_impl_Integer (c64 5)) fun r34 => bindP (F_impl_DivI r33 r34) fun r35 => bindP (F_impl_AddI r32 r35) fun r36 => bindP (F_impl_Integer (c64 1)) fun r37 => bindP (F_impl_MulI r10 r36) fun r38 => bindP (F_impl_Integer (c64 4)) fun r39 => bindP (F_impl_DivI r38 r39) fun r40 => bindP (F_impl_AddI r37 r40) fun r41 => bindP (F_impl_Integer (c64 1)) fun r42 => bindP (F_impl_MulI r10 r41) fun r43 => bindP (F_impl_Integer (c64 3)) fun r44 => bindP (F_impl_DivI r43 r44) fun r45 => bindP (F_impl_AddI r42 r45) fun r46 => bindP (F_impl_Integer (c64 1)) fun r47 => bindP (F_impl_MulI r10 r46) fun r48 => bindP (F_impl_Integer (c64 2)) fun r49 => bindP (F_impl_DivI r48 r49) fun r50 => bindP (F_impl_AddI r47 r50) fun r51 => bindP (F_impl_Integer (c64 1)) fun r52 => bindP (F_impl_MulI r10 r51) fun r53 => bindP (F_impl_Integer (c64 1)) fun r54 => bindP (F_impl_DivI r53 r54) fun r55 => bindP (F_impl_AddI r52 r55) fun r56 => bindP (F_impl_widened r56 (c64 1)) fun r57 => bindP (F_impl_scaled r57 (w64 ((w64 (Int.tdiv (w64 ((w64 (2 * a0.val)).val + 2977044472)).val 5954088944)).val - 1))) fun r58 => r58 else bindP (F_impl_at a0) fun r59 => bindP (F_impl_LogTwoI (w64 (Int.tdiv (w64 ((w64 (2 * a0.val)).val + 2977044472)).val 5954088944))) fun r60 => bindP (F_impl_SubI r59 r60) fun r61 => bindP (F_impl_Integer (c64 1)) fun r62 => bindP (F_impl_Integer (c64 1)) fun r63 => bindP (F_impl_MulI r61 r62) fun r64 => bindP (F_impl_Integer (c64 9)) fun r65 => bindP (F_impl_DivI r64 r65) fun r66 => bindP (F_impl_AddI r63 r66) fun r67 => bindP (F_impl_Integer (c64 1)) fun r68 => bindP (F_impl_MulI r61 r67) fun r69 => bindP (F_impl_Integer (c64 8)) fun r70 => bindP (F_impl_DivI r69 r70) fun r71 => bindP (F_impl_AddI r68 r71) fun r72 => bindP (F_impl_Integer (c64 1)) fun r73 => bindP (F_impl_MulI r61 r72) fun r74 => bindP (F_impl_Integer (c64 7)) fun r75 => bindP (F_impl_DivI r74 r75) fun r76 => bindP (F_impl_AddI r73 r76) fun r77 => bindP (F_impl_Integer (c64 1)) fun r78 => bindP (F_impl_MulI r61 r77) fun r79 => bindP (F_impl_Integer (c64 6)) fun r80 => bindP (F_impl_DivI r79 r80) fun r81 => bindP (F_impl_AddI r78 r81) fun r82 => bindP (F_impl_Integer (c64 1)) fun r83 => bindP (F_impl_MulI r61 r82) fun r84 => bindP (F_impl_Integer (c64 5)) fun r85 => bindP (F_impl_DivI r84 r85) fun r86 => bindP (F_impl_AddI r83 r86) fun r87 => bindP (F_impl_Integer (c64 1)) fun r88 => bindP (F_impl_MulI r61 r87) fun r89 => bindP (F_impl_Integer (c64 4)) fun r90 => bindP (F_impl_DivI r89 r90) fun r91 => bindP (F_impl_AddI r88 r91) fun r92 => bindP (F_impl_Integer (c64 1)) fun r93 => bindP (F_impl_MulI r61 r92) fun r94 => bindP (F_impl_Integer (c64 3)) fun r95 => bindP (F_impl_DivI r94 r95) fun r96 => bindP (F_impl_AddI r93 r96) fun r97 => bindP (F_impl_Integer (c64 1)) fun r98 => bindP (F_impl_MulI r61 r97) fun r99 => bindP (F_impl_Integer (c64 2)) fun r100 => bindP (F_impl_DivI r99 r100) fun r101 => bindP (F_impl_AddI r98 r101) fun r102 => bindP (F_impl_Integer (c64 1)) fun r103 => bindP (F_impl_MulI r61 r102) fun r104 => bindP (F_impl_Integer (c64 1)) fun r105 => bindP (F_impl_DivI r104 r105) fun r106 => bindP (F_impl_AddI r103 r106) fun r107 => bindP (F_impl_widened r107 (c64 1)) fun r108 => bindP (F_impl_scaled r108 (w64 (Int.tdiv (w64 ((w64 (2 * a0.val)).val + 2977044472)).val 5954088944))) fun r109 => r109))))

def F_impl_monotonic__impl_ExpAt (a0 : Iv) : Iv :=
  bindP (F_impl_IsWhole a0) fun r1 => (bif r1 then bindP (F_impl_Whole) fun r2 => r2 else bindP (F_impl_ExpAt a0.lo) fun r3 => bindP (F_impl_ExpAt a0.hi) fun r4 => bindP (F_impl_areBounded r3 r4) fun r5 => (bif (!r5) then bindP (F_impl_Whole) fun r6 => r6 else bindP (F_impl_bounded r3.lo r4.hi true) fun r7 => r7))

def F_impl_ExpI (a0 : Iv) : Iv :=
  bindP (F_impl_monotonic__impl_ExpAt a0) fun r1 => r1

def F_impl_conic_constant__pCn (b0 : Cn) : Iv :=
  (bif (b0.p.kind.val == 10) then bindP (F_impl_CosI b0.a) fun r1 => bindP (F_impl_SqrI r1) fun r2 => bindP (F_impl_times (c64 2) b0.n) fun r3 => bindP (F_impl_SinI b0.a) fun r4 => bindP (F_impl_MulI r3 r4) fun r5 => bindP (F_impl_AddI r2 r5) fun r6 => r6 else (bif (b0.p.kind.val == 11) then bindP (F_impl_CosI b0.a) fun r7 => bindP (F_impl_isometricSphere b0.a) fun r8 => bindP (F_impl_MulI b0.n r8) fun r9 => bindP (F_impl_ExpI r9) fun r10 => bindP (F_impl_MulI r7 r10) fun r11 => bindP (F_impl_DivI r11 b0.n) fun r12 => r12 else bindP (F_impl_CosI b0.a) fun r13 => bindP (F_impl_DivI r13 b0.n) fun r14 => bindP (F_impl_AddI r14 b0.a) fun r15 => r15))

def F_impl_newConic (a0 : Pj) : Cn × I64 :=
  bindP (F_impl_ValidProjection a0) fun r1 => (bif (!r1) then ((⟨(⟨(c64 0), (c64 0), (c64 0), (c64 0), (c64 0)⟩ : Pj), (⟨(c64 0), (c64 0)⟩ : Iv), (⟨(c64 0), (c64 0)⟩ : Iv), (⟨(c64 0), (c64 0)⟩ : Iv), (⟨(c64 0), (c64 0)⟩ : Iv), (⟨(c64 0), (c64 0)⟩ : Iv)⟩ : Cn), (c64 1)) else bindP (F_impl_isConic a0.kind) fun r3 => (bif (!r3) then ((⟨(⟨(c64 0), (c64 0), (c64 0), (c64 0), (c64 0)⟩ : Pj), (⟨(c64 0), (c64 0)⟩ : Iv), (⟨(c64 0), (c64 0)⟩ : Iv), (⟨(c64 0), (c64 0)⟩ : Iv), (⟨(c64 0), (c64 0)⟩ : Iv), (⟨(c64 0), (c64 0)⟩ : Iv)⟩ : Cn), (c64 1)) else bindP (F_impl_RadiansOf a0.lat1) fun r5 => bindP (F_impl_RadiansOf a0.lat2) fun r6 => bindP (F_impl_RadiansOf a0.lat0) fun r7 => bindP (F_impl_conic_cone__pCn (⟨a0, r5, r6, r7, (⟨(c64 0), (c64 0)⟩ : Iv), (⟨(c64 0), (c64 0)⟩ : Iv)⟩ : Cn)) fun r8 => bindP (F_impl_conic_constant__pCn (⟨a0, r5, r6, r7, r8, (⟨(c64 0), (c64 0)⟩ : Iv)⟩ : Cn)) fun r9 => ((⟨a0, r5, r6, r7, r8, r9⟩ : Cn), (c64 0))))

def F_impl_isPole (a0 : Pt) : Bool :=
  bindP (F_impl_abs a0.lat) fun r1 => (r1.val == 900000000)

def F_impl_conic_radius__pCn (b0 : Cn) (a0 : Iv) : Iv :=
  (bif (b0.p.kind.val == 10) then bindP (F_impl_times (c64 2) b0.n) fun r1 => bindP (F_impl_SinI a0) fun r2 => bindP (F_impl_MulI r1 r2) fun r3 => bindP (F_impl_SubI b0.g r3) fun r4 => bindP (F_impl_SqrtI r4) fun r5 => bindP (F_impl_DivI r5 b0.n) fun r6 => r6 else (bif (b0.p.kind.val == 11) then bindP (F_impl_isometricSphere a0) fun r7 => bindP (F_impl_MulI b0.n r7) fun r8 => bindP (F_impl_NegI r8) fun r9 => bindP (F_impl_ExpI r9) fun r10 => bindP (F_impl_MulI b0.g r10) fun r11 => r11 else bindP (F_impl_SubI b0.g a0) fun r12 => r12))

def F_impl_ConicForward (a0 : Pj) (a1 : Pt) : Pn × I64 :=
  bindP (F_impl_newConic a0) fun r1 => (bif (r1.2.val != 0) then ((⟨(⟨(c64 0), (c64 0)⟩ : Iv), (⟨(c64 0), (c64 0)⟩ : Iv)⟩ : Pn), (c64 1)) else bindP (F_impl_ValidPoint a1) fun r2 => (bif (!r2) then ((⟨(⟨(c64 0), (c64 0)⟩ : Iv), (⟨(c64 0), (c64 0)⟩ : Iv)⟩ : Pn), (c64 1)) else bindP (F_impl_isPole a1) fun r4 => (bif r4 then (bif (a0.kind.val == 11) then ((⟨(⟨(c64 0), (c64 0)⟩ : Iv), (⟨(c64 0), (c64 0)⟩ : Iv)⟩ : Pn), (c64 8)) else bindP (F_impl_LatOf a1) fun r7 => bindP (F_impl_conic_radius__pCn r1.1 r7) fun r8 => bindP (F_impl_LonFrom a0 a1) fun r9 => bindP (F_impl_MulI r1.1.n r9) fun r10 => bindP (F_impl_SinI r10) fun r11 => bindP (F_impl_MulI r8 r11) fun r12 => bindP (F_impl_conic_radius__pCn r1.1 r1.1.o) fun r13 => bindP (F_impl_CosI r10) fun r14 => bindP (F_impl_MulI r8 r14) fun r15 => bindP (F_impl_SubI r13 r15) fun r16 => bindP (F_impl_planar r12 r16) fun r17 => (r17.1, r17.2)) else bindP (F_impl_LatOf a1) fun r18 => bindP (F_impl_conic_radius__pCn r1.1 r18) fun r19 => bindP (F_impl_LonFrom a0 a1) fun r20 => bindP (F_impl_MulI r1.1.n r20) fun r21 => bindP (F_impl_SinI r21) fun r22 => bindP (F_impl_MulI r19 r22) fun r23 => bindP (F_impl_conic_radius__pCn r1.1 r1.1.o) fun r24 => bindP (F_impl_CosI r21) fun r25 => bindP (F_impl_MulI r19 r25) fun r26 => bindP (F_impl_SubI r24 r26) fun r27 => bindP (F_impl_planar r23 r27) fun r28 => (r28.1, r28.2))))

def F_laws_FnExactConicForward (a0 : Pj) (a1 : Pt) : Bool :=
  bindP (F_laws_toProjection a0) fun r1 => bindP (F_laws_toPoint a1) fun r2 => bindP (F_spec_ConicForward r1 r2) fun r3 => bindP (F_laws_toProjection a0) fun r4 => bindP (F_laws_toPoint a1) fun r5 => bindP (F_impl_ConicForward r4 r5) fun r6 => bindP (F_laws_eqPlanar r6.1 r3.1) fun r7 => (bif (!r7) then false else (bif (r6.2.val != r3.2.val) then false else true))

def F_laws_toInterval (a0 : Iv) : Iv :=
  a0

def F_laws_toPlanar (a0 : Pn) : Pn :=
  bindP (F_laws_toInterval a0.x) fun r1 => bindP (F_laws_toInterval a0.y) fun r2 => (⟨r1, r2⟩ : Pn)

def F_spec_l18Kind (a0 : I64) : Bool :=
  bindP (F_spec_l00In a0 (c64 5) (c64 9)) fun r1 => r1

def F_spec_ValidProjection (a0 : Pj) : Bool :=
  bindP (F_spec_l17Ok a0) fun r1 => r1

def F_spec_l18Ok__pPj (b0 : Pj) : Bool :=
  bindP (F_spec_l18Kind b0.kind) fun r1 => (bif r1 then bindP (F_spec_ValidProjection b0) fun r2 => r2 else false)

def F_spec_AbsI (a0 : Iv) : Iv :=
  bindP (F_spec_l04Ok a0) fun r1 => (bif (!r1) then bindP (F_spec_l04Whole) fun r2 => r2 else bindP (F_spec_l04Ends a0) fun r3 => bindP (F_spec_l04Make r3.1 r3.2) fun r4 => r4)

def F_spec_l10Ends (a0 : Iv) : I64 × I64 :=
  bindP (F_spec_AbsI a0) fun r1 => (r1.lo, r1.hi)

def F_spec_l10Sum (a0 : I64) (a1 : I64) (a2 : I64) : Wd :=
  bindP (F_spec_l02Mul a0 a0) fun r1 => bindP (F_spec_l02Mul a1 a1) fun r2 => bindP (F_spec_l02Plus r1 r2) fun r3 => bindP (F_spec_l02Mul a2 a2) fun r4 => bindP (F_spec_l02Plus r3 r4) fun r5 => r5

def F_spec_NormV (a0 : Vc) : Iv :=
  bindP (F_spec_IsWhole a0.x) fun r1 => (bif r1 then bindP (F_spec_Whole) fun r2 => r2 else bindP (F_spec_IsWhole a0.y) fun r3 => (bif r3 then bindP (F_spec_Whole) fun r4 => r4 else bindP (F_spec_IsWhole a0.z) fun r5 => (bif r5 then bindP (F_spec_Whole) fun r6 => r6 else bindP (F_spec_l10Ends a0.x) fun r7 => bindP (F_spec_l10Ends a0.y) fun r8 => bindP (F_spec_l10Ends a0.z) fun r9 => bindP (F_spec_l10Sum r7.1 r8.1 r9.1) fun r10 => bindP (F_spec_l02Root r10) fun r11 => bindP (F_spec_l10Sum r7.2 r8.2 r9.2) fun r12 => bindP (F_spec_l02Root r12) fun r13 => bindP (F_spec_l02Mul (w64 r13.val) (w64 r13.val)) fun r14 => (bif (!((r14.hi.val == r12.hi.val) && (r14.lo.val == r12.lo.val))) then (bif (decide ((w64 ((w64 r13.val).val + 1)).val ≥ 1152921504606846976)) then bindP (F_spec_Whole) fun r15 => r15 else (⟨(w64 r11.val), (w64 ((w64 r13.val).val + 1))⟩ : Iv)) else (bif (decide ((w64 r13.val).val ≥ 1152921504606846976)) then bindP (F_spec_Whole) fun r16 => r16 else (⟨(w64 r11.val), (w64 r13.val)⟩ : Iv))))))

def F_spec_l15Flat (a0 : Vc) : Iv :=
  bindP (F_spec_NormV (⟨a0.x, a0.y, (⟨(c64 0), (c64 0)⟩ : Iv)⟩ : Vc)) fun r1 => r1

def F_spec_PiI : Iv :=
  bindP (F_spec_l05Turn (c64 2)) fun r1 => r1

def F_spec_l18Most (a0 : I64) : Iv :=
  (bif (a0.val == 7) then bindP (F_spec_Integer (c64 1)) fun r1 => r1 else (bif (a0.val == 8) then bindP (F_spec_PiI) fun r2 => r2 else (bif (a0.val == 9) then bindP (F_spec_Integer (c64 2)) fun r3 => r3 else bindP (F_spec_Whole) fun r4 => r4)))

def F_spec_LessI (a0 : Iv) (a1 : Iv) : I64 :=
  bindP (F_spec_l04Ok a0) fun r1 => (bif (!r1) then (c64 2) else bindP (F_spec_l04Ok a1) fun r2 => (bif (!r2) then (c64 2) else (bif (decide (a0.hi.val < a1.lo.val)) then (c64 1) else (bif (decide (a0.lo.val ≥ a1.hi.val)) then (c64 0) else (c64 2)))))

def F_spec_MaxI (a0 : Iv) (a1 : Iv) : Iv :=
  bindP (F_spec_l04Ok a0) fun r1 => (bif (!r1) then bindP (F_spec_l04Whole) fun r2 => r2 else bindP (F_spec_l04Ok a1) fun r3 => (bif (!r3) then bindP (F_spec_l04Whole) fun r4 => r4 else bindP (F_spec_l00Max a0.lo a1.lo) fun r5 => bindP (F_spec_l00Max a0.hi a1.hi) fun r6 => bindP (F_spec_l04Make r5 r6) fun r7 => r7))

def F_spec_l18Back (a0 : I64) (a1 : Pn) : Vc :=
  bindP (F_spec_Integer (c64 1)) fun r1 => bindP (F_spec_l15Flat (⟨a1.x, a1.y, (⟨(c64 0), (c64 0)⟩ : Iv)⟩ : Vc)) fun r2 => bindP (F_spec_SqrI r2) fun r3 => (bif (a0.val == 5) then bindP (F_spec_AddI r1 r3) fun r4 => bindP (F_spec_SqrtI r4) fun r5 => bindP (F_spec_DivI r1 r5) fun r6 => bindP (F_spec_MulI r6 a1.x) fun r7 => bindP (F_spec_MulI r6 a1.y) fun r8 => (⟨r7, r8, r6⟩ : Vc) else (bif (a0.val == 6) then bindP (F_spec_HalfI r3) fun r9 => bindP (F_spec_HalfI r9) fun r10 => bindP (F_spec_AddI r1 r10) fun r11 => bindP (F_spec_DivI r1 r11) fun r12 => bindP (F_spec_SubI r1 r10) fun r13 => bindP (F_spec_MulI r13 r12) fun r14 => bindP (F_spec_MulI r12 a1.x) fun r15 => bindP (F_spec_MulI r12 a1.y) fun r16 => (⟨r15, r16, r14⟩ : Vc) else (bif (a0.val == 7) then bindP (F_spec_Integer (c64 0)) fun r17 => bindP (F_spec_SubI r1 r3) fun r18 => bindP (F_spec_MaxI r17 r18) fun r19 => bindP (F_spec_SqrtI r19) fun r20 => bindP (F_spec_MulI r1 a1.x) fun r21 => bindP (F_spec_MulI r1 a1.y) fun r22 => (⟨r21, r22, r20⟩ : Vc) else (bif (a0.val == 8) then bindP (F_spec_CosI r2) fun r23 => bindP (F_spec_HullI r23 r1) fun r24 => (bif (decide (r2.lo.val > 0)) then bindP (F_spec_SinI r2) fun r25 => bindP (F_spec_DivI r25 r2) fun r26 => bindP (F_spec_MulI r26 a1.x) fun r27 => bindP (F_spec_MulI r26 a1.y) fun r28 => (⟨r27, r28, r23⟩ : Vc) else bindP (F_spec_MulI r24 a1.x) fun r29 => bindP (F_spec_MulI r24 a1.y) fun r30 => (⟨r29, r30, r23⟩ : Vc)) else bindP (F_spec_Integer (c64 0)) fun r31 => bindP (F_spec_HalfI r3) fun r32 => bindP (F_spec_HalfI r32) fun r33 => bindP (F_spec_SubI r1 r33) fun r34 => bindP (F_spec_MaxI r31 r34) fun r35 => bindP (F_spec_SqrtI r35) fun r36 => bindP (F_spec_HalfI r3) fun r37 => bindP (F_spec_SubI r1 r37) fun r38 => bindP (F_spec_MulI r36 a1.x) fun r39 => bindP (F_spec_MulI r36 a1.y) fun r40 => (⟨r39, r40, r38⟩ : Vc)))))

def F_spec_PositionOf (a0 : Vc) : Iv × Iv × I64 :=
  bindP (F_spec_l15Flat a0) fun r1 => bindP (F_spec_DirectionI a0.z r1) fun r2 => bindP (F_spec_IsWhole r2) fun r3 => (bif r3 then ((⟨(c64 0), (c64 0)⟩ : Iv), (⟨(c64 0), (c64 0)⟩ : Iv), (c64 9)) else bindP (F_spec_DirectionI a0.y a0.x) fun r4 => (r2, r4, (c64 0)))

def F_spec_GlobalOf (a0 : Pj) (a1 : Vc) : Iv × Iv × I64 :=
  bindP (F_spec_l18Ok__pPj a0) fun r1 => (bif (!r1) then ((⟨(c64 0), (c64 0)⟩ : Iv), (⟨(c64 0), (c64 0)⟩ : Iv), (c64 1)) else bindP (F_spec_RadiansOf a0.lat0) fun r2 => bindP (F_spec_CosI r2) fun r3 => bindP (F_spec_MulI a1.z r3) fun r4 => bindP (F_spec_SinI r2) fun r5 => bindP (F_spec_MulI a1.y r5) fun r6 => bindP (F_spec_SubI r4 r6) fun r7 => bindP (F_spec_SinI r2) fun r8 => bindP (F_spec_MulI a1.z r8) fun r9 => bindP (F_spec_CosI r2) fun r10 => bindP (F_spec_MulI a1.y r10) fun r11 => bindP (F_spec_AddI r9 r11) fun r12 => bindP (F_spec_PositionOf (⟨r7, a1.x, r12⟩ : Vc)) fun r13 => (bif (r13.2.2.val != 0) then ((⟨(c64 0), (c64 0)⟩ : Iv), (⟨(c64 0), (c64 0)⟩ : Iv), r13.2.2) else bindP (F_spec_RadiansOf a0.lon0) fun r14 => bindP (F_spec_AddI r14 r13.2.1) fun r15 => (r13.1, r15, (c64 0))))

def F_spec_AzimuthalInverse (a0 : Pj) (a1 : Pn) : Iv × Iv × I64 :=
  bindP (F_spec_l18Ok__pPj a0) fun r1 => (bif (!r1) then ((⟨(c64 0), (c64 0)⟩ : Iv), (⟨(c64 0), (c64 0)⟩ : Iv), (c64 1)) else bindP (F_spec_l15Flat (⟨a1.x, a1.y, (⟨(c64 0), (c64 0)⟩ : Iv)⟩ : Vc)) fun r2 => bindP (F_spec_l18Most a0.kind) fun r3 => bindP (F_spec_LessI r3 r2) fun r4 => (bif (r4.val == 1) then ((⟨(c64 0), (c64 0)⟩ : Iv), (⟨(c64 0), (c64 0)⟩ : Iv), (c64 8)) else bindP (F_spec_l18Back a0.kind a1) fun r5 => bindP (F_spec_GlobalOf a0 r5) fun r6 => (r6.1, r6.2.1, r6.2.2)))

def F_impl_isAzimuthalOne (a0 : Pj) : Bool :=
  bindP (F_impl_ValidProjection a0) fun r1 => (bif r1 then bindP (F_impl_isAzimuthal a0.kind) fun r2 => r2 else false)

def F_impl_WideAdd (a0 : Wd) (a1 : Wd) : Wd × Bool :=
  (bif (decide ((iand .i64 (ixor .i64 a0.hi.val (w64 (adc_lo (wu64 a0.hi.val) (wu64 a1.hi.val) (adc_hi a0.lo a1.lo (cu64 0))).val).val).val (ixor .i64 a1.hi.val (w64 (adc_lo (wu64 a0.hi.val) (wu64 a1.hi.val) (adc_hi a0.lo a1.lo (cu64 0))).val).val).val).val < 0)) then ((⟨(c64 0), (cu64 0)⟩ : Wd), false) else ((⟨(w64 (adc_lo (wu64 a0.hi.val) (wu64 a1.hi.val) (adc_hi a0.lo a1.lo (cu64 0))).val), (adc_lo a0.lo a1.lo (cu64 0))⟩ : Wd), true))

def F_impl_rootOfSquares (a0 : I64) (a1 : I64) (a2 : I64) : I64 × I64 :=
  bindP (F_impl_WideMul a0 a0) fun r1 => bindP (F_impl_WideMul a1 a1) fun r2 => bindP (F_impl_WideAdd r1 r2) fun r3 => bindP (F_impl_WideMul a2 a2) fun r4 => bindP (F_impl_WideAdd r3.1 r4) fun r5 => bindP (F_impl_WideSqrt r5.1) fun r6 => bindP (F_impl_WideMul (w64 r6.1.val) (w64 r6.1.val)) fun r7 => (bif (!((r7.hi.val == r5.1.hi.val) && (r7.lo.val == r5.1.lo.val))) then ((w64 r6.1.val), (w64 ((w64 r6.1.val).val + 1))) else ((w64 r6.1.val), (w64 r6.1.val)))

def F_impl_NormV (a0 : Vc) : Iv :=
  bindP (F_impl_areBounded a0.x a0.y) fun r1 => (bif (!r1) then bindP (F_impl_Whole) fun r2 => r2 else bindP (F_impl_IsWhole a0.z) fun r3 => (bif r3 then bindP (F_impl_Whole) fun r4 => r4 else bindP (F_impl_AbsI a0.x) fun r5 => bindP (F_impl_AbsI a0.y) fun r6 => bindP (F_impl_AbsI a0.z) fun r7 => bindP (F_impl_rootOfSquares r5.lo r6.lo r7.lo) fun r8 => bindP (F_impl_rootOfSquares r5.hi r6.hi r7.hi) fun r9 => bindP (F_impl_bounded r8.1 r9.2 true) fun r10 => r10))

def F_impl_fromAxis (a0 : Vc) : Iv :=
  bindP (F_impl_NormV (⟨a0.x, a0.y, (⟨(c64 0), (c64 0)⟩ : Iv)⟩ : Vc)) fun r1 => r1

def F_impl_PiI : Iv :=
  bindP (F_impl_TurnI (c64 2)) fun r1 => r1

def F_impl_greatestRadius (a0 : I64) : Iv × Bool :=
  (bif (a0.val == 7) then bindP (F_impl_Integer (c64 1)) fun r1 => (r1, true) else (bif (a0.val == 8) then bindP (F_impl_PiI) fun r2 => (r2, true) else (bif (a0.val == 9) then bindP (F_impl_Integer (c64 2)) fun r3 => (r3, true) else ((⟨(c64 0), (c64 0)⟩ : Iv), false))))

def F_impl_LessI (a0 : Iv) (a1 : Iv) : I64 :=
  bindP (F_impl_areBounded a0 a1) fun r1 => (bif (!r1) then (c64 2) else (bif (decide (a0.hi.val < a1.lo.val)) then (c64 1) else (bif (decide (a0.lo.val ≥ a1.hi.val)) then (c64 0) else (c64 2))))

def F_impl_oneLess (a0 : Iv) : Iv :=
  bindP (F_impl_Integer (c64 1)) fun r1 => bindP (F_impl_SubI r1 a0) fun r2 => r2

def F_impl_MaxI (a0 : Iv) (a1 : Iv) : Iv :=
  bindP (F_impl_areBounded a0 a1) fun r1 => (bif (!r1) then bindP (F_impl_Whole) fun r2 => r2 else (⟨(mx a0.lo a1.lo), (mx a0.hi a1.hi)⟩ : Iv))

def F_impl_isPositive (a0 : Iv) : Bool :=
  bindP (F_impl_ValidInterval a0) fun r1 => (bif r1 then (decide (a0.lo.val > 0)) else false)

def F_impl_inverseFactors (a0 : I64) (a1 : Iv) : Iv × Iv :=
  bindP (F_impl_SqrI a1) fun r1 => bindP (F_impl_HalfI r1) fun r2 => bindP (F_impl_HalfI r2) fun r3 => (bif (a0.val == 5) then bindP (F_impl_Integer (c64 1)) fun r4 => bindP (F_impl_Integer (c64 1)) fun r5 => bindP (F_impl_AddI r5 r1) fun r6 => bindP (F_impl_SqrtI r6) fun r7 => bindP (F_impl_DivI r4 r7) fun r8 => (r8, r8) else (bif (a0.val == 6) then bindP (F_impl_Integer (c64 1)) fun r9 => bindP (F_impl_Integer (c64 1)) fun r10 => bindP (F_impl_AddI r10 r3) fun r11 => bindP (F_impl_DivI r9 r11) fun r12 => bindP (F_impl_oneLess r3) fun r13 => bindP (F_impl_MulI r13 r12) fun r14 => (r12, r14) else (bif (a0.val == 7) then bindP (F_impl_Integer (c64 1)) fun r15 => bindP (F_impl_Integer (c64 0)) fun r16 => bindP (F_impl_oneLess r1) fun r17 => bindP (F_impl_MaxI r16 r17) fun r18 => bindP (F_impl_SqrtI r18) fun r19 => (r15, r19) else (bif (a0.val == 9) then bindP (F_impl_Integer (c64 0)) fun r20 => bindP (F_impl_oneLess r3) fun r21 => bindP (F_impl_MaxI r20 r21) fun r22 => bindP (F_impl_SqrtI r22) fun r23 => bindP (F_impl_HalfI r1) fun r24 => bindP (F_impl_oneLess r24) fun r25 => (r23, r25) else bindP (F_impl_isPositive a1) fun r26 => (bif r26 then bindP (F_impl_SinI a1) fun r27 => bindP (F_impl_DivI r27 a1) fun r28 => bindP (F_impl_CosI a1) fun r29 => (r28, r29) else bindP (F_impl_CosI a1) fun r30 => bindP (F_impl_Integer (c64 1)) fun r31 => bindP (F_impl_HullI r30 r31) fun r32 => bindP (F_impl_CosI a1) fun r33 => (r32, r33))))))

def F_impl_Projection_centre (a0 : Pj) : Pt :=
  (⟨a0.lat0, a0.lon0⟩ : Pt)

def F_impl_knownI (a0 : Iv) : Iv × I64 :=
  bindP (F_impl_IsWhole a0) fun r1 => (bif r1 then ((⟨(c64 0), (c64 0)⟩ : Iv), (c64 9)) else (a0, (c64 0)))

def F_impl_PositionOf (a0 : Vc) : Iv × Iv × I64 :=
  bindP (F_impl_fromAxis a0) fun r1 => bindP (F_impl_DirectionI a0.z r1) fun r2 => bindP (F_impl_knownI r2) fun r3 => (bif (r3.2.val != 0) then ((⟨(c64 0), (c64 0)⟩ : Iv), (⟨(c64 0), (c64 0)⟩ : Iv), r3.2) else bindP (F_impl_DirectionI a0.y a0.x) fun r4 => (r3.1, r4, (c64 0)))

def F_impl_GlobalOf (a0 : Pj) (a1 : Vc) : Iv × Iv × I64 :=
  bindP (F_impl_isAzimuthalOne a0) fun r1 => (bif (!r1) then ((⟨(c64 0), (c64 0)⟩ : Iv), (⟨(c64 0), (c64 0)⟩ : Iv), (c64 1)) else bindP (F_impl_Projection_centre a0) fun r2 => bindP (F_impl_LatOf r2) fun r3 => bindP (F_impl_CosI r3) fun r4 => bindP (F_impl_MulI a1.z r4) fun r5 => bindP (F_impl_SinI r3) fun r6 => bindP (F_impl_MulI a1.y r6) fun r7 => bindP (F_impl_SubI r5 r7) fun r8 => bindP (F_impl_SinI r3) fun r9 => bindP (F_impl_MulI a1.z r9) fun r10 => bindP (F_impl_CosI r3) fun r11 => bindP (F_impl_MulI a1.y r11) fun r12 => bindP (F_impl_AddI r10 r12) fun r13 => bindP (F_impl_PositionOf (⟨r8, a1.x, r13⟩ : Vc)) fun r14 => (bif (r14.2.2.val != 0) then ((⟨(c64 0), (c64 0)⟩ : Iv), (⟨(c64 0), (c64 0)⟩ : Iv), r14.2.2) else bindP (F_impl_RadiansOf a0.lon0) fun r15 => bindP (F_impl_AddI r15 r14.2.1) fun r16 => (r14.1, r16, (c64 0))))

def F_impl_AzimuthalInverse (a0 : Pj) (a1 : Pn) : Iv × Iv × I64 :=
  bindP (F_impl_isAzimuthalOne a0) fun r1 => (bif (!r1) then ((⟨(c64 0), (c64 0)⟩ : Iv), (⟨(c64 0), (c64 0)⟩ : Iv), (c64 1)) else bindP (F_impl_fromAxis (⟨a1.x, a1.y, (⟨(c64 0), (c64 0)⟩ : Iv)⟩ : Vc)) fun r2 => bindP (F_impl_greatestRadius a0.kind) fun r3 => (bif r3.2 then bindP (F_impl_LessI r3.1 r2) fun r4 => (bif (r4.val == 1) then ((⟨(c64 0), (c64 0)⟩ : Iv), (⟨(c64 0), (c64 0)⟩ : Iv), (c64 8)) else bindP (F_impl_inverseFactors a0.kind r2) fun r5 => bindP (F_impl_MulI r5.1 a1.x) fun r6 => bindP (F_impl_MulI r5.1 a1.y) fun r7 => bindP (F_impl_GlobalOf a0 (⟨r6, r7, r5.2⟩ : Vc)) fun r8 => (r8.1, r8.2.1, r8.2.2)) else bindP (F_impl_inverseFactors a0.kind r2) fun r9 => bindP (F_impl_MulI r9.1 a1.x) fun r10 => bindP (F_impl_MulI r9.1 a1.y) fun r11 => bindP (F_impl_GlobalOf a0 (⟨r10, r11, r9.2⟩ : Vc)) fun r12 => (r12.1, r12.2.1, r12.2.2)))

def F_laws_FnExactAzimuthalInverse (a0 : Pj) (a1 : Pn) : Bool :=
  bindP (F_laws_toProjection a0) fun r1 => bindP (F_laws_toPlanar a1) fun r2 => bindP (F_spec_AzimuthalInverse r1 r2) fun r3 => bindP (F_laws_toProjection a0) fun r4 => bindP (F_laws_toPlanar a1) fun r5 => bindP (F_impl_AzimuthalInverse r4 r5) fun r6 => bindP (F_laws_eqInterval r6.1 r3.1) fun r7 => (bif (!r7) then false else bindP (F_laws_eqInterval r6.2.1 r3.2.1) fun r8 => (bif (!r8) then false else (bif (r6.2.2.val != r3.2.2.val) then false else true)))

def F_laws_toEllipsoid (a0 : El) : El :=
  a0

def F_laws_toShift (a0 : Sf) : Sf :=
  a0

def F_laws_toPlace (a0 : Pl) : Pl :=
  bindP (F_laws_toPoint a0.point) fun r1 => (⟨r1, a0.height⟩ : Pl)

def F_spec_l12Ok (a0 : El) : Bool :=
  bindP (F_spec_l00In a0.a (c64 1000) (c64 100000000000)) fun r1 => (bif r1 then bindP (F_spec_l00In a0.den (c64 1) (c64 1000000000000)) fun r2 => (bif r2 then (bif (decide (a0.num.val ≥ 0)) then (decide (a0.num.val ≤ (w64 (Int.tdiv a0.den.val 100)).val)) else false) else false) else false)

end Go.Proofs.YtclbkeejhnmeoaaGreat.Abs
