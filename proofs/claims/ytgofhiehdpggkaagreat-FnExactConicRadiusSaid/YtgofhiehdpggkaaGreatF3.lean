/- The functions, on numbers; part 3 (written by w.py). -/
import Derived.Test.YtgofhiehdpggkaaGreatF2
set_option linter.unusedVariables false
set_option linter.unusedSimpArgs false
namespace Go.Proofs.YtgofhiehdpggkaaGreat.Abs
open Go Go.RowKit

def F_impl_TanI (a0 : Iv) : Iv :=
  bindP (F_impl_areAngles a0) fun r1 => (bif (!r1) then bindP (F_impl_Whole) fun r3 => r3 else bindP (F_impl_turnsIn a0) fun r4 => F_impl_TanI_L0 (((r4.length : Nat) : Int).toNat + 1) r4 a0 (c64 0) (⟨(c64 0), (c64 0)⟩ : Iv))


def F_impl_WideSqrt_L0 : Nat → Wd → U64 → I64 → U64 × Bool
  | 0, _, _, _ => ((cu64 0), false)
  | fu + 1, a0, x_root, x_i => (bif (decide (x_i.val ≥ 0)) then bindP (F_bits_Mul64 (ior .u64 x_root.val (ishl .u64 1 x_i.val).val) (ior .u64 x_root.val (ishl .u64 1 x_i.val).val)) fun r3 => (bif (decide (r3.1.val < (wu64 a0.hi.val).val)) then F_impl_WideSqrt_L0 fu a0 (ior .u64 x_root.val (ishl .u64 1 x_i.val).val) (w64 (x_i.val - 1)) else (bif (r3.1.val == (wu64 a0.hi.val).val) then (bif (decide (r3.2.val ≤ a0.lo.val)) then F_impl_WideSqrt_L0 fu a0 (ior .u64 x_root.val (ishl .u64 1 x_i.val).val) (w64 (x_i.val - 1)) else F_impl_WideSqrt_L0 fu a0 x_root (w64 (x_i.val - 1))) else F_impl_WideSqrt_L0 fu a0 x_root (w64 (x_i.val - 1)))) else (x_root, true))

def F_impl_WideSqrt (a0 : Wd) : U64 × Bool :=
  (bif (decide (a0.hi.val < 0)) then ((cu64 0), false) else F_impl_WideSqrt_L0 65 a0 (cu64 0) (c64 63))

def F_impl_SqrtFloor (a0 : I64) (a1 : I64) : I64 × Bool :=
  (bif (decide (a0.val < 0)) then ((c64 0), false) else (bif (decide (a1.val < 0)) then ((c64 0), false) else bindP (F_impl_WideMul a0 a1) fun r1 => bindP (F_impl_WideSqrt r1) fun r2 => ((w64 r2.1.val), r2.2)))

def F_impl_SqrtDown (a0 : I64) : I64 × Bool :=
  bindP (F_impl_ValidFix a0) fun r1 => (bif (!r1) then ((c64 0), false) else bindP (F_impl_SqrtFloor a0 (c64 4294967296)) fun r2 => bindP (F_impl_fixed r2.1 r2.2) fun r3 => (r3.1, r3.2))

def F_impl_SqrtUp (a0 : I64) : I64 × Bool :=
  bindP (F_impl_SqrtDown a0) fun r1 => (bif r1.2 then bindP (F_impl_WideMul r1.1 r1.1) fun r2 => bindP (F_impl_WideMul a0 (c64 4294967296)) fun r3 => (bif (!((r2.hi.val == r3.hi.val) && (r2.lo.val == r3.lo.val))) then bindP (F_impl_fixed (w64 (r1.1.val + 1)) r1.2) fun r4 => (r4.1, r4.2) else bindP (F_impl_fixed r1.1 r1.2) fun r5 => (r5.1, r5.2)) else bindP (F_impl_fixed r1.1 r1.2) fun r6 => (r6.1, r6.2))

def F_impl_SqrtI (a0 : Iv) : Iv :=
  bindP (F_impl_IsWhole a0) fun r1 => (bif r1 then bindP (F_impl_Whole) fun r2 => r2 else (bif (decide (a0.lo.val < 0)) then bindP (F_impl_Whole) fun r3 => r3 else bindP (F_impl_SqrtDown a0.lo) fun r4 => bindP (F_impl_SqrtUp a0.hi) fun r5 => (bif r4.2 then bindP (F_impl_bounded r4.1 r5.1 r5.2) fun r6 => r6 else bindP (F_impl_bounded r4.1 r5.1 false) fun r7 => r7)))

def F_impl_AsinhI_1 (a0 : I64) : Iv :=
  (bif (decide (a0.val ≤ 35184372088832)) then bindP (F_impl_at a0) fun r1 => bindP (F_impl_at a0) fun r2 => bindP (F_impl_SqrI r2) fun r3 => bindP (F_impl_Integer (c64 1)) fun r4 => bindP (F_impl_AddI r3 r4) fun r5 => bindP (F_impl_SqrtI r5) fun r6 => bindP (F_impl_AddI r1 r6) fun r7 => bindP (F_impl_LogI r7) fun r8 => r8 else bindP (F_impl_LogTwoI (c64 1)) fun r9 => bindP (F_impl_LogAt a0) fun r10 => bindP (F_impl_AddI r9 r10) fun r11 => bindP (F_impl_AddI r11 (⟨(c64 0), (c64 16)⟩ : Iv)) fun r12 => r12)

def F_impl_odd_1__p_impl_AsinhI_1 (a0 : I64) : Iv :=
  (bif (decide (a0.val < 0)) then bindP (F_impl_AsinhI_1 (w64 (0 - a0.val))) fun r1 => bindP (F_impl_NegI r1) fun r2 => r2 else bindP (F_impl_AsinhI_1 a0) fun r3 => r3)

def F_impl_monotonic__impl_odd_1_p_impl_AsinhI_1 (a0 : Iv) : Iv :=
  bindP (F_impl_IsWhole a0) fun r1 => (bif r1 then bindP (F_impl_Whole) fun r2 => r2 else bindP (F_impl_odd_1__p_impl_AsinhI_1 a0.lo) fun r3 => bindP (F_impl_odd_1__p_impl_AsinhI_1 a0.hi) fun r4 => bindP (F_impl_areBounded r3 r4) fun r5 => (bif (!r5) then bindP (F_impl_Whole) fun r6 => r6 else bindP (F_impl_bounded r3.lo r4.hi true) fun r7 => r7))

def F_impl_AsinhI (a0 : Iv) : Iv :=
  bindP (F_impl_monotonic__impl_odd_1_p_impl_AsinhI_1 a0) fun r1 => r1

def F_impl_isometricSphere (a0 : Iv) : Iv :=
  bindP (F_impl_TanI a0) fun r1 => bindP (F_impl_AsinhI r1) fun r2 => r2

def F_impl_conic_cone__pCn (b0 : Cn) : Iv :=
  (bif (b0.p.kind.val == 10) then bindP (F_impl_SinI b0.a) fun r1 => bindP (F_impl_SinI b0.b) fun r2 => bindP (F_impl_AddI r1 r2) fun r3 => bindP (F_impl_HalfI r3) fun r4 => r4 else (bif (b0.p.lat1.val == b0.p.lat2.val) then bindP (F_impl_SinI b0.a) fun r5 => r5 else (bif (b0.p.kind.val == 11) then bindP (F_impl_CosI b0.a) fun r6 => bindP (F_impl_LogI r6) fun r7 => bindP (F_impl_CosI b0.b) fun r8 => bindP (F_impl_LogI r8) fun r9 => bindP (F_impl_SubI r7 r9) fun r10 => bindP (F_impl_isometricSphere b0.b) fun r11 => bindP (F_impl_isometricSphere b0.a) fun r12 => bindP (F_impl_SubI r11 r12) fun r13 => bindP (F_impl_DivI r10 r13) fun r14 => r14 else bindP (F_impl_CosI b0.a) fun r15 => bindP (F_impl_CosI b0.b) fun r16 => bindP (F_impl_SubI r15 r16) fun r17 => bindP (F_impl_SubI b0.b b0.a) fun r18 => bindP (F_impl_DivI r17 r18) fun r19 => r19)))

def F_impl_times (a0 : I64) (a1 : Iv) : Iv :=
  bindP (F_impl_Integer a0) fun r1 => bindP (F_impl_MulI r1 a1) fun r2 => r2

def F_impl_DoubleI (a0 : Iv) : Iv :=
  bindP (F_impl_AddI a0 a0) fun r1 => r1

def F_impl_scaled_L0 : Nat → I64 → Iv → Iv
  | 0, _, _ => (⟨(c64 0), (c64 0)⟩ : Iv)
  | fu + 1, x_k, y_0 => (bif (decide (x_k.val > 0)) then bindP (F_impl_DoubleI y_0) fun r2 => F_impl_scaled_L0 fu (w64 (x_k.val - 1)) r2 else bindP (F_impl_IsWhole y_0) fun r3 => (bif r3 then bindP (F_impl_Whole) fun r5 => r5 else (⟨(ishr y_0.lo (w64 (0 - x_k.val)).val), (w64 (0 - (ishr (w64 (0 - y_0.hi.val)) (w64 (0 - x_k.val)).val).val))⟩ : Iv)))

def F_impl_scaled (a0 : Iv) (a1 : I64) : Iv :=
  F_impl_scaled_L0 (a1.val.toNat + 1) a1 a0

def F_impl_ExpAt (a0 : I64) : Iv :=
  bindP (F_impl_ValidFix a0) fun r1 => (bif (!r1) then bindP (F_impl_Whole) fun r3 => r3 else (bif (decide (a0.val > 85899345920)) then bindP (F_impl_Whole) fun r5 => r5 else (bif (decide (a0.val < (-98784247808))) then (⟨(c64 0), (c64 1)⟩ : Iv) else (bif (decide ((w64 ((w64 ((w64 (Int.tdiv (w64 ((w64 (2 * a0.val)).val + 2977044472)).val 5954088944)).val * 2)).val * 2977044472)).val > (w64 ((w64 (2 * a0.val)).val + 2977044472)).val)) then bindP (F_impl_at a0) fun r8 => bindP (F_impl_LogTwoI (w64 ((w64 (Int.tdiv (w64 ((w64 (2 * a0.val)).val + 2977044472)).val 5954088944)).val - 1))) fun r9 => bindP (F_impl_SubI r8 r9) fun r10 => bindP (F_impl_Integer (c64 1)) fun r11 => bindP (F_impl_Integer (c64 1)) fun r12 => bindP (F_impl_MulI r10 r11) fun r13 => bindP (F_impl_Integer (c64 9)) fun r14 => bindP (F_impl_DivI r13 r14) fun r15 => bindP (F_impl_AddI r12 r15) fun r16 => bindP (F_impl_Integer (c64 1)) fun r17 => bindP (F_impl_MulI r10 r16) fun r18 => bindP (F_impl_Integer (c64 8)) fun r19 => bindP (F_impl_DivI r18 r19) fun r20 => bindP (F_impl_AddI r17 r20) fun r21 => bindP (F_impl_Integer (c64 1)) fun r22 => bindP (F_impl_MulI r10 r21) fun r23 => bindP (F_impl_Integer (c64 7)) fun r24 => bindP (F_impl_DivI r23 r24) fun r25 => bindP (F_impl_AddI r22 r25) fun r26 => bindP (F_impl_Integer (c64 1)) fun r27 => bindP (F_impl_MulI r10 r26) fun r28 => bindP (F_impl_Integer (c64 6)) fun r29 => bindP (F_impl_DivI r28 r29) fun r30 => bindP (F_impl_AddI r27 r30) fun r31 => bindP (F_impl_Integer (c64 1)) fun r32 => bindP (F_impl_MulI r10 r31) fun r33 => bindP (F_impl_Integer (c64 5)) fun r34 => bindP (F_impl_DivI r33 r34) fun r35 => bindP (F_impl_AddI r32 r35) fun r36 => bindP (F_impl_Integer (c64 1)) fun r37 => bindP (F_impl_MulI r10 r36) fun r38 => bindP (F_impl_Integer (c64 4)) fun r39 => bindP (F_impl_DivI r38 r39) fun r40 => bindP (F_impl_AddI r37 r40) fun r41 => bindP (F_impl_Integer (c64 1)) fun r42 => bindP (F_impl_MulI r10 r41) fun r43 => bindP (F_impl_Integer (c64 3)) fun r44 => bindP (F_impl_DivI r43 r44) fun r45 => bindP (F_impl_AddI r42 r45) fun r46 => bindP (F_impl_Integer (c64 1)) fun r47 => bindP (F_impl_MulI r10 r46) fun r48 => bindP (F_impl_Integer (c64 2)) fun r49 => bindP (F_impl_DivI r48 r49) fun r50 => bindP (F_impl_AddI r47 r50) fun r51 => bindP (F_impl_Integer (c64 1)) fun r52 => bindP (F_impl_MulI r10 r51) fun r53 => bindP (F_impl_Integer (c64 1)) fun r54 => bindP (F_impl_DivI r53 r54) fun r55 => bindP (F_impl_AddI r52 r55) fun r56 => bindP (F_impl_widened r56 (c64 1)) fun r57 => bindP (F_impl_scaled r57 (w64 ((w64 (Int.tdiv (w64 ((w64 (2 * a0.val)).val + 2977044472)).val 5954088944)).val - 1))) fun r58 => r58 else bindP (F_impl_at a0) fun r59 => bindP (F_impl_LogTwoI (w64 (Int.tdiv (w64 ((w64 (2 * a0.val)).val + 2977044472)).val 5954088944))) fun r60 => bindP (F_impl_SubI r59 r60) fun r61 => bindP (F_impl_Integer (c64 1)) fun r62 => bindP (F_impl_Integer (c64 1)) fun r63 => bindP (F_impl_MulI r61 r62) fun r64 => bindP (F_impl_Integer (c64 9)) fun r65 => bindP (F_impl_DivI r64 r65) fun r66 => bindP (F_impl_AddI r63 r66) fun r67 => bindP (F_impl_Integer (c64 1)) fun r68 => bindP (F_impl_MulI r61 r67) fun r69 => bindP (F_impl_Integer (c64 8)) fun r70 => bindP (F_impl_DivI r69 r70) fun r71 => bindP (F_impl_AddI r68 r71) fun r72 => bindP (F_impl_Integer (c64 1)) fun r73 => bindP (F_impl_MulI r61 r72) fun r74 => bindP (F_impl_Integer (c64 7)) fun r75 => bindP (F_impl_DivI r74 r75) fun r76 => bindP (F_impl_AddI r73 r76) fun r77 => bindP (F_impl_Integer (c64 1)) fun r78 => bindP (F_impl_MulI r61 r77) fun r79 => bindP (F_impl_Integer (c64 6)) fun r80 => bindP (F_impl_DivI r79 r80) fun r81 => bindP (F_impl_AddI r78 r81) fun r82 => bindP (F_impl_Integer (c64 1)) fun r83 => bindP (F_impl_MulI r61 r82) fun r84 => bindP (F_impl_Integer (c64 5)) fun r85 => bindP (F_impl_DivI r84 r85) fun r86 => bindP (F_impl_AddI r83 r86) fun r87 => bindP (F_impl_Integer (c64 1)) fun r88 => bindP (F_impl_MulI r61 r87) fun r89 => bindP (F_impl_Integer (c64 4)) fun r90 => bindP (F_impl_DivI r89 r90) fun r91 => bindP (F_impl_AddI r88 r91) fun r92 => bindP (F_impl_Integer (c64 1)) fun r93 => bindP (F_impl_MulI r61 r92) fun r94 => bindP (F_impl_Integer (c64 3)) fun r95 => bindP (F_impl_DivI r94 r95) fun r96 => bindP (F_impl_AddI r93 r96) fun r97 => bindP (F_impl_Integer (c64 1)) fun r98 => bindP (F_impl_MulI r61 r97) fun r99 => bindP (F_impl_Integer (c64 2)) fun r100 => bindP (F_impl_DivI r99 r100) fun r101 => bindP (F_impl_AddI r98 r101) fun r102 => bindP (F_impl_Integer (c64 1)) fun r103 => bindP (F_impl_MulI r61 r102) fun r104 => bindP (F_impl_Integer (c64 1)) fun r105 => bindP (F_impl_DivI r104 r105) fun r106 => bindP (F_impl_AddI r103 r106) fun r107 => bindP (F_impl_widened r107 (c64 1)) fun r108 => bindP (F_impl_scaled r108 (w64 (Int.tdiv (w64 ((w64 (2 * a0.val)).val + 2977044472)).val 5954088944))) fun r109 => r109))))

def F_impl_monotonic__impl_ExpAt (a0 : Iv) : Iv :=
  bindP (F_impl_IsWhole a0) fun r1 => (bif r1 then bindP (F_impl_Whole) fun r2 => r2 else bindP (F_impl_ExpAt a0.lo) fun r3 => bindP (F_impl_ExpAt a0.hi) fun r4 => bindP (F_impl_areBounded r3 r4) fun r5 => (bif (!r5) then bindP (F_impl_Whole) fun r6 => r6 else bindP (F_impl_bounded r3.lo r4.hi true) fun r7 => r7))

def F_impl_ExpI (a0 : Iv) : Iv :=
  bindP (F_impl_monotonic__impl_ExpAt a0) fun r1 => r1

def F_impl_conic_constant__pCn (b0 : Cn) : Iv :=
  (bif (b0.p.kind.val == 10) then bindP (F_impl_CosI b0.a) fun r1 => bindP (F_impl_SqrI r1) fun r2 => bindP (F_impl_times (c64 2) b0.n) fun r3 => bindP (F_impl_SinI b0.a) fun r4 => bindP (F_impl_MulI r3 r4) fun r5 => bindP (F_impl_AddI r2 r5) fun r6 => r6 else (bif (b0.p.kind.val == 11) then bindP (F_impl_CosI b0.a) fun r7 => bindP (F_impl_isometricSphere b0.a) fun r8 => bindP (F_impl_MulI b0.n r8) fun r9 => bindP (F_impl_ExpI r9) fun r10 => bindP (F_impl_MulI r7 r10) fun r11 => bindP (F_impl_DivI r11 b0.n) fun r12 => r12 else bindP (F_impl_CosI b0.a) fun r13 => bindP (F_impl_DivI r13 b0.n) fun r14 => bindP (F_impl_AddI r14 b0.a) fun r15 => r15))

def F_impl_newConic (a0 : Pj) : Cn × I64 :=
  bindP (F_impl_ValidProjection a0) fun r1 => (bif (!r1) then ((⟨(⟨(c64 0), (c64 0), (c64 0), (c64 0), (c64 0)⟩ : Pj), (⟨(c64 0), (c64 0)⟩ : Iv), (⟨(c64 0), (c64 0)⟩ : Iv), (⟨(c64 0), (c64 0)⟩ : Iv), (⟨(c64 0), (c64 0)⟩ : Iv), (⟨(c64 0), (c64 0)⟩ : Iv)⟩ : Cn), (c64 1)) else bindP (F_impl_isConic a0.kind) fun r3 => (bif (!r3) then ((⟨(⟨(c64 0), (c64 0), (c64 0), (c64 0), (c64 0)⟩ : Pj), (⟨(c64 0), (c64 0)⟩ : Iv), (⟨(c64 0), (c64 0)⟩ : Iv), (⟨(c64 0), (c64 0)⟩ : Iv), (⟨(c64 0), (c64 0)⟩ : Iv), (⟨(c64 0), (c64 0)⟩ : Iv)⟩ : Cn), (c64 1)) else bindP (F_impl_RadiansOf a0.lat1) fun r5 => bindP (F_impl_RadiansOf a0.lat2) fun r6 => bindP (F_impl_RadiansOf a0.lat0) fun r7 => bindP (F_impl_conic_cone__pCn (⟨a0, r5, r6, r7, (⟨(c64 0), (c64 0)⟩ : Iv), (⟨(c64 0), (c64 0)⟩ : Iv)⟩ : Cn)) fun r8 => bindP (F_impl_conic_constant__pCn (⟨a0, r5, r6, r7, r8, (⟨(c64 0), (c64 0)⟩ : Iv)⟩ : Cn)) fun r9 => ((⟨a0, r5, r6, r7, r8, r9⟩ : Cn), (c64 0))))

def F_impl_conic_radius__pCn (b0 : Cn) (a0 : Iv) : Iv :=
  (bif (b0.p.kind.val == 10) then bindP (F_impl_times (c64 2) b0.n) fun r1 => bindP (F_impl_SinI a0) fun r2 => bindP (F_impl_MulI r1 r2) fun r3 => bindP (F_impl_SubI b0.g r3) fun r4 => bindP (F_impl_SqrtI r4) fun r5 => bindP (F_impl_DivI r5 b0.n) fun r6 => r6 else (bif (b0.p.kind.val == 11) then bindP (F_impl_isometricSphere a0) fun r7 => bindP (F_impl_MulI b0.n r7) fun r8 => bindP (F_impl_NegI r8) fun r9 => bindP (F_impl_ExpI r9) fun r10 => bindP (F_impl_MulI b0.g r10) fun r11 => r11 else bindP (F_impl_SubI b0.g a0) fun r12 => r12))

def F_impl_conic_scale__pCn (b0 : Cn) (a0 : Iv) : Iv :=
  bindP (F_impl_conic_radius__pCn b0 a0) fun r1 => bindP (F_impl_MulI b0.n r1) fun r2 => bindP (F_impl_CosI a0) fun r3 => bindP (F_impl_DivI r2 r3) fun r4 => r4

def F_impl_pair (a0 : Iv) (a1 : Iv) : Iv × Iv × I64 :=
  bindP (F_impl_areBounded a0 a1) fun r1 => (bif (!r1) then ((⟨(c64 0), (c64 0)⟩ : Iv), (⟨(c64 0), (c64 0)⟩ : Iv), (c64 9)) else (a0, a1, (c64 0)))

def F_impl_StandardScales (a0 : Pj) : Iv × Iv × I64 :=
  bindP (F_impl_newConic a0) fun r1 => (bif (r1.2.val != 0) then ((⟨(c64 0), (c64 0)⟩ : Iv), (⟨(c64 0), (c64 0)⟩ : Iv), (c64 1)) else bindP (F_impl_conic_scale__pCn r1.1 r1.1.a) fun r2 => bindP (F_impl_conic_scale__pCn r1.1 r1.1.b) fun r3 => bindP (F_impl_pair r2 r3) fun r4 => (r4.1, r4.2.1, r4.2.2))

def F_laws_eqInterval (a0 : Iv) (a1 : Iv) : Bool :=
  (bif (a0.lo.val != a1.lo.val) then false else (bif (a0.hi.val != a1.hi.val) then false else true))

def F_laws_FnExactStandardScales (a0 : Pj) : Bool :=
  bindP (F_laws_toProjection a0) fun r1 => bindP (F_spec_StandardScales r1) fun r2 => bindP (F_laws_toProjection a0) fun r3 => bindP (F_impl_StandardScales r3) fun r4 => bindP (F_laws_eqInterval r4.1 r2.1) fun r5 => (bif (!r5) then false else bindP (F_laws_eqInterval r4.2.1 r2.2.1) fun r6 => (bif (!r6) then false else (bif (r4.2.2.val != r2.2.2.val) then false else true)))

def F_laws_toInterval (a0 : Iv) : Iv :=
  a0

def F_spec_l19Known (a0 : Iv) : Iv × I64 :=
  bindP (F_spec_l04Ok a0) fun r1 => (bif (!r1) then ((⟨(c64 0), (c64 0)⟩ : Iv), (c64 9)) else (a0, (c64 0)))

def F_spec_ConicRadius (a0 : Pj) (a1 : Iv) : Iv × I64 :=
  bindP (F_spec_l19Ok a0) fun r1 => (bif (!r1) then ((⟨(c64 0), (c64 0)⟩ : Iv), (c64 1)) else bindP (F_spec_l19Cone a0) fun r2 => bindP (F_spec_l19Constant a0 r2) fun r3 => bindP (F_spec_l19Radius a0.kind r2 r3 a1) fun r4 => bindP (F_spec_l19Known r4) fun r5 => (r5.1, r5.2))

def F_impl_knownI (a0 : Iv) : Iv × I64 :=
  bindP (F_impl_IsWhole a0) fun r1 => (bif r1 then ((⟨(c64 0), (c64 0)⟩ : Iv), (c64 9)) else (a0, (c64 0)))

def F_impl_ConicRadius (a0 : Pj) (a1 : Iv) : Iv × I64 :=
  bindP (F_impl_newConic a0) fun r1 => (bif (r1.2.val != 0) then ((⟨(c64 0), (c64 0)⟩ : Iv), (c64 1)) else bindP (F_impl_conic_radius__pCn r1.1 a1) fun r2 => bindP (F_impl_knownI r2) fun r3 => (r3.1, r3.2))

def F_laws_FnExactConicRadius (a0 : Pj) (a1 : Iv) : Bool :=
  bindP (F_laws_toProjection a0) fun r1 => bindP (F_laws_toInterval a1) fun r2 => bindP (F_spec_ConicRadius r1 r2) fun r3 => bindP (F_laws_toProjection a0) fun r4 => bindP (F_laws_toInterval a1) fun r5 => bindP (F_impl_ConicRadius r4 r5) fun r6 => bindP (F_laws_eqInterval r6.1 r3.1) fun r7 => (bif (!r7) then false else (bif (r6.2.val != r3.2.val) then false else true))

def F_laws_toPlanar (a0 : Pn) : Pn :=
  bindP (F_laws_toInterval a0.x) fun r1 => bindP (F_laws_toInterval a0.y) fun r2 => (⟨r1, r2⟩ : Pn)

def F_spec_ValidProjection (a0 : Pj) : Bool :=
  bindP (F_spec_l17Ok a0) fun r1 => r1

def F_spec_l21Ok__pPj (b0 : Pj) : Bool :=
  (bif (b0.kind.val == 16) then bindP (F_spec_ValidProjection b0) fun r1 => r1 else false)

def F_spec_AbsI (a0 : Iv) : Iv :=
  bindP (F_spec_l04Ok a0) fun r1 => (bif (!r1) then bindP (F_spec_l04Whole) fun r2 => r2 else bindP (F_spec_l04Ends a0) fun r3 => bindP (F_spec_l04Make r3.1 r3.2) fun r4 => r4)

def F_spec_l08Cosh (a0 : I64) : Iv :=
  bindP (F_spec_ExpAt a0) fun r1 => bindP (F_spec_ExpAt (w64 (0 - a0.val))) fun r2 => bindP (F_spec_AddI r1 r2) fun r3 => bindP (F_spec_HalfI r3) fun r4 => r4

def F_spec_CoshI (a0 : Iv) : Iv :=
  bindP (F_spec_l04Ok a0) fun r1 => (bif (!r1) then bindP (F_spec_l04Whole) fun r2 => r2 else bindP (F_spec_AbsI a0) fun r3 => bindP (F_spec_l08Cosh r3.lo) fun r4 => bindP (F_spec_l08Cosh r3.hi) fun r5 => bindP (F_spec_l08Ends r4 r5) fun r6 => r6)

def F_spec_WideMul (a0 : I64) (a1 : I64) : Wd :=
  bindP (F_spec_l02Mul a0 a1) fun r1 => r1

def F_spec_CircleAt (a0 : I64) : Iv :=
  bindP (F_spec_l00In a0 (c64 (-4294967296)) (c64 4294967296)) fun r1 => (bif (!r1) then bindP (F_spec_Whole) fun r2 => r2 else bindP (F_spec_SqrtFloor (w64 (4294967296 - a0.val)) (w64 (4294967296 + a0.val))) fun r3 => bindP (F_spec_WideMul r3.1 r3.1) fun r4 => bindP (F_spec_WideMul (w64 (4294967296 - a0.val)) (w64 (4294967296 + a0.val))) fun r5 => (bif (!((r4.hi.val == r5.hi.val) && (r4.lo.val == r5.lo.val))) then (⟨r3.1, (w64 (r3.1.val + 1))⟩ : Iv) else (⟨r3.1, r3.1⟩ : Iv)))

def F_spec_IsWhole (a0 : Iv) : Bool :=
  bindP (F_spec_l04Ok a0) fun r1 => (!r1)

def F_spec_l07Quarter : Iv :=
  bindP (F_spec_l05Turn (c64 1)) fun r1 => bindP (F_spec_l05Turn (c64 1)) fun r2 => (⟨(w64 (0 - r1.hi.val)), r2.hi⟩ : Iv)

def F_spec_l07Fix (a0 : I64) : Bool :=
  (bif (decide ((-1152921504606846976) < a0.val)) then (decide (a0.val < 1152921504606846976)) else false)

def F_spec_l07Halve (a0 : Iv) : Iv :=
  bindP (F_spec_Integer (c64 1)) fun r1 => bindP (F_spec_Integer (c64 1)) fun r2 => bindP (F_spec_SqrI a0) fun r3 => bindP (F_spec_AddI r2 r3) fun r4 => bindP (F_spec_SqrtI r4) fun r5 => bindP (F_spec_AddI r1 r5) fun r6 => bindP (F_spec_DivI a0 r6) fun r7 => r7

def F_spec_ArcSeries (a0 : Iv) : Iv :=
  bindP (F_spec_InsideI a0 (⟨(c64 (-1073741824)), (c64 1073741824)⟩ : Iv)) fun r1 => (bif (!r1) then bindP (F_spec_Whole) fun r2 => r2 else bindP (F_spec_SqrI a0) fun r3 => bindP (F_spec_Quotient (c64 1) (c64 21)) fun r4 => bindP (F_spec_Quotient (c64 1) (c64 19)) fun r5 => bindP (F_spec_MulI r3 r4) fun r6 => bindP (F_spec_SubI r5 r6) fun r7 => bindP (F_spec_Quotient (c64 1) (c64 17)) fun r8 => bindP (F_spec_MulI r3 r7) fun r9 => bindP (F_spec_SubI r8 r9) fun r10 => bindP (F_spec_Quotient (c64 1) (c64 15)) fun r11 => bindP (F_spec_MulI r3 r10) fun r12 => bindP (F_spec_SubI r11 r12) fun r13 => bindP (F_spec_Quotient (c64 1) (c64 13)) fun r14 => bindP (F_spec_MulI r3 r13) fun r15 => bindP (F_spec_SubI r14 r15) fun r16 => bindP (F_spec_Quotient (c64 1) (c64 11)) fun r17 => bindP (F_spec_MulI r3 r16) fun r18 => bindP (F_spec_SubI r17 r18) fun r19 => bindP (F_spec_Quotient (c64 1) (c64 9)) fun r20 => bindP (F_spec_MulI r3 r19) fun r21 => bindP (F_spec_SubI r20 r21) fun r22 => bindP (F_spec_Quotient (c64 1) (c64 7)) fun r23 => bindP (F_spec_MulI r3 r22) fun r24 => bindP (F_spec_SubI r23 r24) fun r25 => bindP (F_spec_Quotient (c64 1) (c64 5)) fun r26 => bindP (F_spec_MulI r3 r25) fun r27 => bindP (F_spec_SubI r26 r27) fun r28 => bindP (F_spec_Quotient (c64 1) (c64 3)) fun r29 => bindP (F_spec_MulI r3 r28) fun r30 => bindP (F_spec_SubI r29 r30) fun r31 => bindP (F_spec_Quotient (c64 1) (c64 1)) fun r32 => bindP (F_spec_MulI r3 r31) fun r33 => bindP (F_spec_SubI r32 r33) fun r34 => bindP (F_spec_MulI a0 r34) fun r35 => bindP (F_spec_l06Tiny) fun r36 => bindP (F_spec_AddI r35 r36) fun r37 => r37)

def F_spec_DoubleI (a0 : Iv) : Iv :=
  bindP (F_spec_l04Ok a0) fun r1 => (bif (!r1) then bindP (F_spec_l04Whole) fun r2 => r2 else bindP (F_spec_l04Make (w64 (2 * a0.lo.val)) (w64 (2 * a0.hi.val))) fun r3 => r3)

def F_spec_l07Core (a0 : Iv) : Iv :=
  bindP (F_spec_l07Halve a0) fun r1 => bindP (F_spec_l07Halve r1) fun r2 => bindP (F_spec_ArcSeries r2) fun r3 => bindP (F_spec_DoubleI r3) fun r4 => bindP (F_spec_DoubleI r4) fun r5 => r5

def F_spec_AtanAt_b (self : I64 → Iv) (a0 : I64) : Iv :=
  bindP (F_spec_l07Fix a0) fun r1 => (bif (!r1) then bindP (F_spec_l07Quarter) fun r3 => r3 else (bif (decide (a0.val < 0)) then bindP (self (w64 (0 - a0.val))) fun r5 => bindP (F_spec_NegI r5) fun r6 => r6 else (bif (decide (a0.val > 4294967296)) then bindP (F_spec_TurnI (c64 1)) fun r8 => bindP (F_spec_Integer (c64 1)) fun r9 => bindP (F_spec_l05At a0) fun r10 => bindP (F_spec_DivI r9 r10) fun r11 => bindP (F_spec_l07Core r11) fun r12 => bindP (F_spec_SubI r8 r12) fun r13 => r13 else bindP (F_spec_l05At a0) fun r14 => bindP (F_spec_l07Core r14) fun r15 => r15)))
def F_spec_AtanAt_r : Nat → I64 → Iv
  | 0, _ => (⟨(c64 0), (c64 0)⟩ : Iv)
  | fu + 1, a0 => F_spec_AtanAt_b (F_spec_AtanAt_r fu) a0
def F_spec_AtanAt (a0 : I64) : Iv := F_spec_AtanAt_r 2 a0

def F_spec_AtanI (a0 : Iv) : Iv :=
  bindP (F_spec_IsWhole a0) fun r1 => (bif r1 then bindP (F_spec_l07Quarter) fun r2 => r2 else bindP (F_spec_AtanAt a0.lo) fun r3 => bindP (F_spec_AtanAt a0.hi) fun r4 => bindP (F_spec_HullI r3 r4) fun r5 => r5)

def F_spec_AsinAt (a0 : I64) : Iv :=
  bindP (F_spec_l00In a0 (c64 (-4294967296)) (c64 4294967296)) fun r1 => (bif (!r1) then bindP (F_spec_Whole) fun r2 => r2 else bindP (F_spec_l05At a0) fun r3 => bindP (F_spec_Integer (c64 1)) fun r4 => bindP (F_spec_CircleAt a0) fun r5 => bindP (F_spec_AddI r4 r5) fun r6 => bindP (F_spec_DivI r3 r6) fun r7 => bindP (F_spec_AtanI r7) fun r8 => bindP (F_spec_DoubleI r8) fun r9 => bindP (F_spec_l07Quarter) fun r10 => bindP (F_spec_MeetI r9 r10) fun r11 => r11.1)

def F_spec_AsinI (a0 : Iv) : Iv :=
  bindP (F_spec_l06Ring) fun r1 => bindP (F_spec_MeetI a0 r1) fun r2 => (bif (!r2.2) then bindP (F_spec_Whole) fun r3 => r3 else bindP (F_spec_AsinAt r2.1.lo) fun r4 => bindP (F_spec_AsinAt r2.1.hi) fun r5 => bindP (F_spec_HullI r4 r5) fun r6 => r6)

def F_spec_l08Sinh (a0 : I64) : Iv :=
  bindP (F_spec_ExpAt a0) fun r1 => bindP (F_spec_ExpAt (w64 (0 - a0.val))) fun r2 => bindP (F_spec_SubI r1 r2) fun r3 => bindP (F_spec_HalfI r3) fun r4 => r4

def F_spec_SinhI (a0 : Iv) : Iv :=
  bindP (F_spec_l04Ok a0) fun r1 => (bif (!r1) then bindP (F_spec_l04Whole) fun r2 => r2 else bindP (F_spec_l08Sinh a0.lo) fun r3 => bindP (F_spec_l08Sinh a0.hi) fun r4 => bindP (F_spec_l08Ends r3 r4) fun r5 => r5)

def F_spec_HasI (a0 : Iv) (a1 : I64) : Bool :=
  bindP (F_spec_l04Ok a0) fun r1 => (bif (!r1) then true else bindP (F_spec_l04Has a0 a1) fun r2 => r2)

def F_spec_DirectionAt (a0 : I64) (a1 : I64) : Iv :=
  bindP (F_spec_l07Fix a0) fun r1 => (bif (!r1) then bindP (F_spec_Whole) fun r2 => r2 else bindP (F_spec_l07Fix a1) fun r3 => (bif (!r3) then bindP (F_spec_Whole) fun r4 => r4 else (bif (a1.val == 0) then (bif (a0.val == 0) then bindP (F_spec_Whole) fun r5 => r5 else (bif (decide (a0.val < 0)) then (bif (decide ((w64 (0 - a0.val)).val > a1.val)) then (bif (decide ((w64 (0 - a0.val)).val > (w64 (0 - a1.val)).val)) then (bif (decide (a0.val < 0)) then bindP (F_spec_TurnI (c64 (-1))) fun r6 => bindP (F_spec_l05At a1) fun r7 => bindP (F_spec_l05At a0) fun r8 => bindP (F_spec_DivI r7 r8) fun r9 => bindP (F_spec_AtanI r9) fun r10 => bindP (F_spec_SubI r6 r10) fun r11 => r11 else bindP (F_spec_TurnI (c64 1)) fun r12 => bindP (F_spec_l05At a1) fun r13 => bindP (F_spec_l05At a0) fun r14 => bindP (F_spec_DivI r13 r14) fun r15 => bindP (F_spec_AtanI r15) fun r16 => bindP (F_spec_SubI r12 r16) fun r17 => r17) else (bif (decide (a1.val > 0)) then bindP (F_spec_l05At a0) fun r18 => bindP (F_spec_l05At a1) fun r19 => bindP (F_spec_DivI r18 r19) fun r20 => bindP (F_spec_AtanI r20) fun r21 => r21 else (bif (decide (a0.val < 0)) then bindP (F_spec_l05At a0) fun r22 => bindP (F_spec_l05At a1) fun r23 => bindP (F_spec_DivI r22 r23) fun r24 => bindP (F_spec_AtanI r24) fun r25 => bindP (F_spec_TurnI (c64 (-2))) fun r26 => bindP (F_spec_AddI r25 r26) fun r27 => r27 else bindP (F_spec_l05At a0) fun r28 => bindP (F_spec_l05At a1) fun r29 => bindP (F_spec_DivI r28 r29) fun r30 => bindP (F_spec_AtanI r30) fun r31 => bindP (F_spec_TurnI (c64 2)) fun r32 => bindP (F_spec_AddI r31 r32) fun r33 => r33))) else (bif (decide (a1.val > 0)) then bindP (F_spec_l05At a0) fun r34 => bindP (F_spec_l05At a1) fun r35 => bindP (F_spec_DivI r34 r35) fun r36 => bindP (F_spec_AtanI r36) fun r37 => r37 else (bif (decide (a0.val < 0)) then bindP (F_spec_l05At a0) fun r38 => bindP (F_spec_l05At a1) fun r39 => bindP (F_spec_DivI r38 r39) fun r40 => bindP (F_spec_AtanI r40) fun r41 => bindP (F_spec_TurnI (c64 (-2))) fun r42 => bindP (F_spec_AddI r41 r42) fun r43 => r43 else bindP (F_spec_l05At a0) fun r44 => bindP (F_spec_l05At a1) fun r45 => bindP (F_spec_DivI r44 r45) fun r46 => bindP (F_spec_AtanI r46) fun r47 => bindP (F_spec_TurnI (c64 2)) fun r48 => bindP (F_spec_AddI r47 r48) fun r49 => r49))) else (bif (decide (a0.val > a1.val)) then (bif (decide (a0.val > (w64 (0 - a1.val)).val)) then (bif (decide (a0.val < 0)) then bindP (F_spec_TurnI (c64 (-1))) fun r50 => bindP (F_spec_l05At a1) fun r51 => bindP (F_spec_l05At a0) fun r52 => bindP (F_spec_DivI r51 r52) fun r53 => bindP (F_spec_AtanI r53) fun r54 => bindP (F_spec_SubI r50 r54) fun r55 => r55 else bindP (F_spec_TurnI (c64 1)) fun r56 => bindP (F_spec_l05At a1) fun r57 => bindP (F_spec_l05At a0) fun r58 => bindP (F_spec_DivI r57 r58) fun r59 => bindP (F_spec_AtanI r59) fun r60 => bindP (F_spec_SubI r56 r60) fun r61 => r61) else (bif (decide (a1.val > 0)) then bindP (F_spec_l05At a0) fun r62 => bindP (F_spec_l05At a1) fun r63 => bindP (F_spec_DivI r62 r63) fun r64 => bindP (F_spec_AtanI r64) fun r65 => r65 else (bif (decide (a0.val < 0)) then bindP (F_spec_l05At a0) fun r66 => bindP (F_spec_l05At a1) fun r67 => bindP (F_spec_DivI r66 r67) fun r68 => bindP (F_spec_AtanI r68) fun r69 => bindP (F_spec_TurnI (c64 (-2))) fun r70 => bindP (F_spec_AddI r69 r70) fun r71 => r71 else bindP (F_spec_l05At a0) fun r72 => bindP (F_spec_l05At a1) fun r73 => bindP (F_spec_DivI r72 r73) fun r74 => bindP (F_spec_AtanI r74) fun r75 => bindP (F_spec_TurnI (c64 2)) fun r76 => bindP (F_spec_AddI r75 r76) fun r77 => r77))) else (bif (decide (a1.val > 0)) then bindP (F_spec_l05At a0) fun r78 => bindP (F_spec_l05At a1) fun r79 => bindP (F_spec_DivI r78 r79) fun r80 => bindP (F_spec_AtanI r80) fun r81 => r81 else (bif (decide (a0.val < 0)) then bindP (F_spec_l05At a0) fun r82 => bindP (F_spec_l05At a1) fun r83 => bindP (F_spec_DivI r82 r83) fun r84 => bindP (F_spec_AtanI r84) fun r85 => bindP (F_spec_TurnI (c64 (-2))) fun r86 => bindP (F_spec_AddI r85 r86) fun r87 => r87 else bindP (F_spec_l05At a0) fun r88 => bindP (F_spec_l05At a1) fun r89 => bindP (F_spec_DivI r88 r89) fun r90 => bindP (F_spec_AtanI r90) fun r91 => bindP (F_spec_TurnI (c64 2)) fun r92 => bindP (F_spec_AddI r91 r92) fun r93 => r93))))) else (bif (decide (a0.val < 0)) then (bif (decide ((w64 (0 - a0.val)).val > a1.val)) then (bif (decide ((w64 (0 - a0.val)).val > (w64 (0 - a1.val)).val)) then (bif (decide (a0.val < 0)) then bindP (F_spec_TurnI (c64 (-1))) fun r94 => bindP (F_spec_l05At a1) fun r95 => bindP (F_spec_l05At a0) fun r96 => bindP (F_spec_DivI r95 r96) fun r97 => bindP (F_spec_AtanI r97) fun r98 => bindP (F_spec_SubI r94 r98) fun r99 => r99 else bindP (F_spec_TurnI (c64 1)) fun r100 => bindP (F_spec_l05At a1) fun r101 => bindP (F_spec_l05At a0) fun r102 => bindP (F_spec_DivI r101 r102) fun r103 => bindP (F_spec_AtanI r103) fun r104 => bindP (F_spec_SubI r100 r104) fun r105 => r105) else (bif (decide (a1.val > 0)) then bindP (F_spec_l05At a0) fun r106 => bindP (F_spec_l05At a1) fun r107 => bindP (F_spec_DivI r106 r107) fun r108 => bindP (F_spec_AtanI r108) fun r109 => r109 else (bif (decide (a0.val < 0)) then bindP (F_spec_l05At a0) fun r110 => bindP (F_spec_l05At a1) fun r111 => bindP (F_spec_DivI r110 r111) fun r112 => bindP (F_spec_AtanI r112) fun r113 => bindP (F_spec_TurnI (c64 (-2))) fun r114 => bindP (F_spec_AddI r113 r114) fun r115 => r115 else bindP (F_spec_l05At a0) fun r116 => bindP (F_spec_l05At a1) fun r117 => bindP (F_spec_DivI r116 r117) fun r118 => bindP (F_spec_AtanI r118) fun r119 => bindP (F_spec_TurnI (c64 2)) fun r120 => bindP (F_spec_AddI r119 r120) fun r121 => r121))) else (bif (decide (a1.val > 0)) then bindP (F_spec_l05At a0) fun r122 => bindP (F_spec_l05At a1) fun r123 => bindP (F_spec_DivI r122 r123) fun r124 => bindP (F_spec_AtanI r124) fun r125 => r125 else (bif (decide (a0.val < 0)) then bindP (F_spec_l05At a0) fun r126 => bindP (F_spec_l05At a1) fun r127 => bindP (F_spec_DivI r126 r127) fun r128 => bindP (F_spec_AtanI r128) fun r129 => bindP (F_spec_TurnI (c64 (-2))) fun r130 => bindP (F_spec_AddI r129 r130) fun r131 => r131 else bindP (F_spec_l05At a0) fun r132 => bindP (F_spec_l05At a1) fun r133 => bindP (F_spec_DivI r132 r133) fun r134 => bindP (F_spec_AtanI r134) fun r135 => bindP (F_spec_TurnI (c64 2)) fun r136 => bindP (F_spec_AddI r135 r136) fun r137 => r137))) else (bif (decide (a0.val > a1.val)) then (bif (decide (a0.val > (w64 (0 - a1.val)).val)) then (bif (decide (a0.val < 0)) then bindP (F_spec_TurnI (c64 (-1))) fun r138 => bindP (F_spec_l05At a1) fun r139 => bindP (F_spec_l05At a0) fun r140 => bindP (F_spec_DivI r139 r140) fun r141 => bindP (F_spec_AtanI r141) fun r142 => bindP (F_spec_SubI r138 r142) fun r143 => r143 else bindP (F_spec_TurnI (c64 1)) fun r144 => bindP (F_spec_l05At a1) fun r145 => bindP (F_spec_l05At a0) fun r146 => bindP (F_spec_DivI r145 r146) fun r147 => bindP (F_spec_AtanI r147) fun r148 => bindP (F_spec_SubI r144 r148) fun r149 => r149) else (bif (decide (a1.val > 0)) then bindP (F_spec_l05At a0) fun r150 => bindP (F_spec_l05At a1) fun r151 => bindP (F_spec_DivI r150 r151) fun r152 => bindP (F_spec_AtanI r152) fun r153 => r153 else (bif (decide (a0.val < 0)) then bindP (F_spec_l05At a0) fun r154 => bindP (F_spec_l05At a1) fun r155 => bindP (F_spec_DivI r154 r155) fun r156 => bindP (F_spec_AtanI r156) fun r157 => bindP (F_spec_TurnI (c64 (-2))) fun r158 => bindP (F_spec_AddI r157 r158) fun r159 => r159 else bindP (F_spec_l05At a0) fun r160 => bindP (F_spec_l05At a1) fun r161 => bindP (F_spec_DivI r160 r161) fun r162 => bindP (F_spec_AtanI r162) fun r163 => bindP (F_spec_TurnI (c64 2)) fun r164 => bindP (F_spec_AddI r163 r164) fun r165 => r165))) else (bif (decide (a1.val > 0)) then bindP (F_spec_l05At a0) fun r166 => bindP (F_spec_l05At a1) fun r167 => bindP (F_spec_DivI r166 r167) fun r168 => bindP (F_spec_AtanI r168) fun r169 => r169 else (bif (decide (a0.val < 0)) then bindP (F_spec_l05At a0) fun r170 => bindP (F_spec_l05At a1) fun r171 => bindP (F_spec_DivI r170 r171) fun r172 => bindP (F_spec_AtanI r172) fun r173 => bindP (F_spec_TurnI (c64 (-2))) fun r174 => bindP (F_spec_AddI r173 r174) fun r175 => r175 else bindP (F_spec_l05At a0) fun r176 => bindP (F_spec_l05At a1) fun r177 => bindP (F_spec_DivI r176 r177) fun r178 => bindP (F_spec_AtanI r178) fun r179 => bindP (F_spec_TurnI (c64 2)) fun r180 => bindP (F_spec_AddI r179 r180) fun r181 => r181)))))))

def F_spec_DirectionI (a0 : Iv) (a1 : Iv) : Iv :=
  bindP (F_spec_IsWhole a0) fun r1 => (bif r1 then bindP (F_spec_Whole) fun r2 => r2 else bindP (F_spec_IsWhole a1) fun r3 => (bif r3 then bindP (F_spec_Whole) fun r4 => r4 else bindP (F_spec_HasI a0 (c64 0)) fun r5 => (bif r5 then bindP (F_spec_HasI a1 (c64 0)) fun r6 => (bif r6 then bindP (F_spec_Whole) fun r7 => r7 else (bif (decide (a1.lo.val < 0)) then (bif (decide (a0.lo.val < 0)) then (bif (decide (a0.hi.val ≥ 0)) then bindP (F_spec_Whole) fun r8 => r8 else bindP (F_spec_DirectionAt a0.lo a1.lo) fun r9 => bindP (F_spec_DirectionAt a0.lo a1.hi) fun r10 => bindP (F_spec_HullI r9 r10) fun r11 => bindP (F_spec_DirectionAt a0.hi a1.lo) fun r12 => bindP (F_spec_DirectionAt a0.hi a1.hi) fun r13 => bindP (F_spec_HullI r12 r13) fun r14 => bindP (F_spec_HullI r11 r14) fun r15 => r15) else bindP (F_spec_DirectionAt a0.lo a1.lo) fun r16 => bindP (F_spec_DirectionAt a0.lo a1.hi) fun r17 => bindP (F_spec_HullI r16 r17) fun r18 => bindP (F_spec_DirectionAt a0.hi a1.lo) fun r19 => bindP (F_spec_DirectionAt a0.hi a1.hi) fun r20 => bindP (F_spec_HullI r19 r20) fun r21 => bindP (F_spec_HullI r18 r21) fun r22 => r22) else bindP (F_spec_DirectionAt a0.lo a1.lo) fun r23 => bindP (F_spec_DirectionAt a0.lo a1.hi) fun r24 => bindP (F_spec_HullI r23 r24) fun r25 => bindP (F_spec_DirectionAt a0.hi a1.lo) fun r26 => bindP (F_spec_DirectionAt a0.hi a1.hi) fun r27 => bindP (F_spec_HullI r26 r27) fun r28 => bindP (F_spec_HullI r25 r28) fun r29 => r29)) else (bif (decide (a1.lo.val < 0)) then (bif (decide (a0.lo.val < 0)) then (bif (decide (a0.hi.val ≥ 0)) then bindP (F_spec_Whole) fun r30 => r30 else bindP (F_spec_DirectionAt a0.lo a1.lo) fun r31 => bindP (F_spec_DirectionAt a0.lo a1.hi) fun r32 => bindP (F_spec_HullI r31 r32) fun r33 => bindP (F_spec_DirectionAt a0.hi a1.lo) fun r34 => bindP (F_spec_DirectionAt a0.hi a1.hi) fun r35 => bindP (F_spec_HullI r34 r35) fun r36 => bindP (F_spec_HullI r33 r36) fun r37 => r37) else bindP (F_spec_DirectionAt a0.lo a1.lo) fun r38 => bindP (F_spec_DirectionAt a0.lo a1.hi) fun r39 => bindP (F_spec_HullI r38 r39) fun r40 => bindP (F_spec_DirectionAt a0.hi a1.lo) fun r41 => bindP (F_spec_DirectionAt a0.hi a1.hi) fun r42 => bindP (F_spec_HullI r41 r42) fun r43 => bindP (F_spec_HullI r40 r43) fun r44 => r44) else bindP (F_spec_DirectionAt a0.lo a1.lo) fun r45 => bindP (F_spec_DirectionAt a0.lo a1.hi) fun r46 => bindP (F_spec_HullI r45 r46) fun r47 => bindP (F_spec_DirectionAt a0.hi a1.lo) fun r48 => bindP (F_spec_DirectionAt a0.hi a1.hi) fun r49 => bindP (F_spec_HullI r48 r49) fun r50 => bindP (F_spec_HullI r47 r50) fun r51 => r51))))

def F_spec_TransverseInverse (a0 : Pj) (a1 : Pn) : Iv × Iv × I64 :=
  bindP (F_spec_l21Ok__pPj a0) fun r1 => (bif (!r1) then ((⟨(c64 0), (c64 0)⟩ : Iv), (⟨(c64 0), (c64 0)⟩ : Iv), (c64 1)) else bindP (F_spec_RadiansOf a0.lat0) fun r2 => bindP (F_spec_AddI a1.y r2) fun r3 => bindP (F_spec_SinI r3) fun r4 => bindP (F_spec_CoshI a1.x) fun r5 => bindP (F_spec_DivI r4 r5) fun r6 => bindP (F_spec_AsinI r6) fun r7 => bindP (F_spec_IsWhole r3) fun r8 => (bif r8 then ((⟨(c64 0), (c64 0)⟩ : Iv), (⟨(c64 0), (c64 0)⟩ : Iv), (c64 9)) else bindP (F_spec_IsWhole r6) fun r9 => (bif r9 then ((⟨(c64 0), (c64 0)⟩ : Iv), (⟨(c64 0), (c64 0)⟩ : Iv), (c64 9)) else bindP (F_spec_IsWhole r7) fun r10 => (bif r10 then ((⟨(c64 0), (c64 0)⟩ : Iv), (⟨(c64 0), (c64 0)⟩ : Iv), (c64 9)) else bindP (F_spec_RadiansOf a0.lon0) fun r11 => bindP (F_spec_SinhI a1.x) fun r12 => bindP (F_spec_CosI r3) fun r13 => bindP (F_spec_DirectionI r12 r13) fun r14 => bindP (F_spec_AddI r11 r14) fun r15 => (r7, r15, (c64 0))))))

end Go.Proofs.YtgofhiehdpggkaaGreat.Abs
