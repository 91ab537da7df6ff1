/- The functions, on numbers; part 3 (written by w.py). -/
import Derived.Test.YtclbkeejhnmeoaaGreatF2
set_option linter.unusedVariables false
set_option linter.unusedSimpArgs false
namespace Go.Proofs.YtclbkeejhnmeoaaGreat.Abs
open Go Go.RowKit

def F_impl_FixFloor (a0 : I64) (a1 : I64) : I64 × Bool :=
  bindP (F_impl_MulDivFloor a0 (c64 4294967296) a1) fun r1 => bindP (F_impl_fixed r1.1 r1.2) fun r2 => (r2.1, r2.2)

def F_impl_mulDivCeil (a0 : I64) (a1 : I64) (a2 : I64) : I64 × Bool :=
  bindP (F_impl_WideMul a0 a1) fun r1 => bindP (F_impl_WideDiv r1 a2) fun r2 => (bif (!r2.2.2) then ((c64 0), false) else bindP (F_impl_WideInt r2.1) fun r3 => (bif (!r3.2) then ((c64 0), false) else (bif (decide (r2.2.1.val > 0)) then (bif (r3.1.val == 9223372036854775807) then ((c64 0), false) else (bif (decide (r2.2.1.val > 0)) then ((w64 (r3.1.val + 1)), true) else (r3.1, true))) else (bif (decide (r2.2.1.val > 0)) then ((w64 (r3.1.val + 1)), true) else (r3.1, true)))))

def F_impl_FixCeil (a0 : I64) (a1 : I64) : I64 × Bool :=
  bindP (F_impl_mulDivCeil a0 (c64 4294967296) a1) fun r1 => bindP (F_impl_fixed r1.1 r1.2) fun r2 => (r2.1, r2.2)

def F_impl_Quotient (a0 : I64) (a1 : I64) : Iv :=
  (bif (decide (a1.val < 0)) then (bif (decide ((w64 (0 - a1.val)).val < 0)) then bindP (F_impl_Whole) fun r1 => r1 else (bif ((w64 (0 - a0.val)).val == (-9223372036854775808)) then bindP (F_impl_Whole) fun r2 => r2 else bindP (F_impl_FixFloor (w64 (0 - a0.val)) (w64 (0 - a1.val))) fun r3 => bindP (F_impl_FixCeil (w64 (0 - a0.val)) (w64 (0 - a1.val))) fun r4 => (bif r3.2 then bindP (F_impl_bounded r3.1 r4.1 r4.2) fun r5 => r5 else bindP (F_impl_bounded r3.1 r4.1 false) fun r6 => r6))) else bindP (F_impl_FixFloor a0 a1) fun r7 => bindP (F_impl_FixCeil a0 a1) fun r8 => (bif r7.2 then bindP (F_impl_bounded r7.1 r8.1 r8.2) fun r9 => r9 else bindP (F_impl_bounded r7.1 r8.1 false) fun r10 => r10))

def F_impl_LogTwoI_b (self : I64 → Iv) (a0 : I64) : Iv :=
  bindP (F_impl_within a0 (c64 (-64)) (c64 64)) fun r1 => (bif (!r1) then bindP (F_impl_Whole) fun r3 => r3 else (bif (decide (a0.val < 0)) then bindP (self (w64 (0 - a0.val))) fun r5 => bindP (F_impl_NegI r5) fun r6 => r6 else bindP (F_impl_MulFloor a0 (c64 1598288580650331957) (c64 29)) fun r7 => bindP (F_impl_MulFloor (w64 (0 - a0.val)) (c64 1598288580650331958) (c64 29)) fun r8 => (⟨r7.1, (w64 (0 - r8.1.val))⟩ : Iv)))
def F_impl_LogTwoI_r : Nat → I64 → Iv
  | 0, _ => (⟨(c64 0), (c64 0)⟩ : Iv)
  | fu + 1, a0 => F_impl_LogTwoI_b (F_impl_LogTwoI_r fu) a0
def F_impl_LogTwoI (a0 : I64) : Iv := F_impl_LogTwoI_r 2 a0

def F_impl_widened (a0 : Iv) (a1 : I64) : Iv :=
  bindP (F_impl_ValidInterval a0) fun r1 => bindP (F_impl_bounded (w64 (a0.lo.val - a1.val)) (w64 (a0.hi.val + a1.val)) r1) fun r2 => r2

def F_impl_LogAt (a0 : I64) : Iv :=
  bindP (F_impl_ValidFix a0) fun r1 => (bif (!r1) then bindP (F_impl_Whole) fun r3 => r3 else (bif (decide (a0.val ≤ 0)) then bindP (F_impl_Whole) fun r5 => r5 else bindP (F_impl_twosOf a0) fun r6 => bindP (F_impl_at a0) fun r7 => (bif (decide (r6.val > 0)) then bindP (F_impl_Integer (c64 1)) fun r9 => bindP (F_impl_SubI (⟨(ishr a0 r6.val), (w64 (0 - (ishr (w64 (0 - a0.val)) r6.val).val))⟩ : Iv) r9) fun r10 => bindP (F_impl_Integer (c64 1)) fun r11 => bindP (F_impl_AddI (⟨(ishr a0 r6.val), (w64 (0 - (ishr (w64 (0 - a0.val)) r6.val).val))⟩ : Iv) r11) fun r12 => bindP (F_impl_DivI r10 r12) fun r13 => bindP (F_impl_SqrI r13) fun r14 => bindP (F_impl_Quotient (c64 1) (c64 11)) fun r15 => bindP (F_impl_Quotient (c64 1) (c64 9)) fun r16 => bindP (F_impl_MulI r14 r15) fun r17 => bindP (F_impl_AddI r16 r17) fun r18 => bindP (F_impl_Quotient (c64 1) (c64 7)) fun r19 => bindP (F_impl_MulI r14 r18) fun r20 => bindP (F_impl_AddI r19 r20) fun r21 => bindP (F_impl_Quotient (c64 1) (c64 5)) fun r22 => bindP (F_impl_MulI r14 r21) fun r23 => bindP (F_impl_AddI r22 r23) fun r24 => bindP (F_impl_Quotient (c64 1) (c64 3)) fun r25 => bindP (F_impl_MulI r14 r24) fun r26 => bindP (F_impl_AddI r25 r26) fun r27 => bindP (F_impl_Quotient (c64 1) (c64 1)) fun r28 => bindP (F_impl_MulI r14 r27) fun r29 => bindP (F_impl_AddI r28 r29) fun r30 => bindP (F_impl_LogTwoI r6) fun r31 => bindP (F_impl_Integer (c64 2)) fun r32 => bindP (F_impl_MulI r32 r13) fun r33 => bindP (F_impl_MulI r33 r30) fun r34 => bindP (F_impl_widened r34 (c64 1)) fun r35 => bindP (F_impl_AddI r31 r35) fun r36 => r36 else bindP (F_impl_at (ishl .i64 a0.val (w64 (0 - r6.val)).val)) fun r37 => bindP (F_impl_Integer (c64 1)) fun r38 => bindP (F_impl_SubI r37 r38) fun r39 => bindP (F_impl_Integer (c64 1)) fun r40 => bindP (F_impl_AddI r37 r40) fun r41 => bindP (F_impl_DivI r39 r41) fun r42 => bindP (F_impl_SqrI r42) fun r43 => bindP (F_impl_Quotient (c64 1) (c64 11)) fun r44 => bindP (F_impl_Quotient (c64 1) (c64 9)) fun r45 => bindP (F_impl_MulI r43 r44) fun r46 => bindP (F_impl_AddI r45 r46) fun r47 => bindP (F_impl_Quotient (c64 1) (c64 7)) fun r48 => bindP (F_impl_MulI r43 r47) fun r49 => bindP (F_impl_AddI r48 r49) fun r50 => bindP (F_impl_Quotient (c64 1) (c64 5)) fun r51 => bindP (F_impl_MulI r43 r50) fun r52 => bindP (F_impl_AddI r51 r52) fun r53 => bindP (F_impl_Quotient (c64 1) (c64 3)) fun r54 => bindP (F_impl_MulI r43 r53) fun r55 => bindP (F_impl_AddI r54 r55) fun r56 => bindP (F_impl_Quotient (c64 1) (c64 1)) fun r57 => bindP (F_impl_MulI r43 r56) fun r58 => bindP (F_impl_AddI r57 r58) fun r59 => bindP (F_impl_LogTwoI r6) fun r60 => bindP (F_impl_Integer (c64 2)) fun r61 => bindP (F_impl_MulI r61 r42) fun r62 => bindP (F_impl_MulI r62 r59) fun r63 => bindP (F_impl_widened r63 (c64 1)) fun r64 => bindP (F_impl_AddI r60 r64) fun r65 => r65)))

def F_impl_monotonic__impl_LogAt (a0 : Iv) : Iv :=
  bindP (F_impl_IsWhole a0) fun r1 => (bif r1 then bindP (F_impl_Whole) fun r2 => r2 else bindP (F_impl_LogAt a0.lo) fun r3 => bindP (F_impl_LogAt a0.hi) fun r4 => bindP (F_impl_areBounded r3 r4) fun r5 => (bif (!r5) then bindP (F_impl_Whole) fun r6 => r6 else bindP (F_impl_bounded r3.lo r4.hi true) fun r7 => r7))

def F_impl_LogI (a0 : Iv) : Iv :=
  bindP (F_impl_monotonic__impl_LogAt a0) fun r1 => r1

def F_impl_HalfI (a0 : Iv) : Iv :=
  bindP (F_impl_IsWhole a0) fun r1 => (bif r1 then bindP (F_impl_Whole) fun r2 => r2 else (⟨(ishr a0.lo 1), (ishr (w64 (a0.hi.val + 1)) 1)⟩ : Iv))

def F_impl_AtanhI_1 (a0 : I64) : Iv :=
  (bif (decide (a0.val ≥ 4294967296)) then bindP (F_impl_Whole) fun r1 => r1 else bindP (F_impl_at (w64 (4294967296 + a0.val))) fun r2 => bindP (F_impl_at (w64 (4294967296 - a0.val))) fun r3 => bindP (F_impl_DivI r2 r3) fun r4 => bindP (F_impl_LogI r4) fun r5 => bindP (F_impl_HalfI r5) fun r6 => r6)

def F_impl_odd_1__p_impl_AtanhI_1 (a0 : I64) : Iv :=
  (bif (decide (a0.val < 0)) then bindP (F_impl_AtanhI_1 (w64 (0 - a0.val))) fun r1 => bindP (F_impl_NegI r1) fun r2 => r2 else bindP (F_impl_AtanhI_1 a0) fun r3 => r3)

def F_impl_monotonic__impl_odd_1_p_impl_AtanhI_1 (a0 : Iv) : Iv :=
  bindP (F_impl_IsWhole a0) fun r1 => (bif r1 then bindP (F_impl_Whole) fun r2 => r2 else bindP (F_impl_odd_1__p_impl_AtanhI_1 a0.lo) fun r3 => bindP (F_impl_odd_1__p_impl_AtanhI_1 a0.hi) fun r4 => bindP (F_impl_areBounded r3 r4) fun r5 => (bif (!r5) then bindP (F_impl_Whole) fun r6 => r6 else bindP (F_impl_bounded r3.lo r4.hi true) fun r7 => r7))

def F_impl_AtanhI (a0 : Iv) : Iv :=
  bindP (F_impl_monotonic__impl_odd_1_p_impl_AtanhI_1 a0) fun r1 => r1

def F_impl_isOpen (a0 : I64) : Bool :=
  (bif (decide ((-1152921504606846976) < a0.val)) then (decide (a0.val < 1152921504606846976)) else false)

def F_impl_halfCircle : Iv :=
  bindP (F_impl_TurnI (c64 1)) fun r1 => bindP (F_impl_TurnI (c64 1)) fun r2 => (⟨(w64 (0 - r1.hi.val)), r2.hi⟩ : Iv)

def F_impl_WideSqrt_L0 : Nat → Wd → U64 → I64 → U64 × Bool
  | 0, _, _, _ => ((cu64 0), false)
  | fu + 1, a0, x_root, x_i => (bif (decide (x_i.val ≥ 0)) then bindP (F_bits_Mul64 (ior .u64 x_root.val (ishl .u64 1 x_i.val).val) (ior .u64 x_root.val (ishl .u64 1 x_i.val).val)) fun r3 => (bif (decide (r3.1.val < (wu64 a0.hi.val).val)) then F_impl_WideSqrt_L0 fu a0 (ior .u64 x_root.val (ishl .u64 1 x_i.val).val) (w64 (x_i.val - 1)) else (bif (r3.1.val == (wu64 a0.hi.val).val) then (bif (decide (r3.2.val ≤ a0.lo.val)) then F_impl_WideSqrt_L0 fu a0 (ior .u64 x_root.val (ishl .u64 1 x_i.val).val) (w64 (x_i.val - 1)) else F_impl_WideSqrt_L0 fu a0 x_root (w64 (x_i.val - 1))) else F_impl_WideSqrt_L0 fu a0 x_root (w64 (x_i.val - 1)))) else (x_root, true))

def F_impl_WideSqrt (a0 : Wd) : U64 × Bool :=
  (bif (decide (a0.hi.val < 0)) then ((cu64 0), false) else F_impl_WideSqrt_L0 65 a0 (cu64 0) (c64 63))

def F_impl_SqrtFloor (a0 : I64) (a1 : I64) : I64 × Bool :=
  (bif (decide (a0.val < 0)) then ((c64 0), false) else (bif (decide (a1.val < 0)) then ((c64 0), false) else bindP (F_impl_WideMul a0 a1) fun r1 => bindP (F_impl_WideSqrt r1) fun r2 => ((w64 r2.1.val), r2.2)))

def F_impl_SqrtDown (a0 : I64) : I64 × Bool :=
  bindP (F_impl_ValidFix a0) fun r1 => (bif (!r1) then ((c64 0), false) else bindP (F_impl_SqrtFloor a0 (c64 4294967296)) fun r2 => bindP (F_impl_fixed r2.1 r2.2) fun r3 => (r3.1, r3.2))

def F_impl_SqrtUp (a0 : I64) : I64 × Bool :=
  bindP (F_impl_SqrtDown a0) fun r1 => (bif r1.2 then bindP (F_impl_WideMul r1.1 r1.1) fun r2 => bindP (F_impl_WideMul a0 (c64 4294967296)) fun r3 => (bif (!((r2.hi.val == r3.hi.val) && (r2.lo.val == r3.lo.val))) then bindP (F_impl_fixed (w64 (r1.1.val + 1)) r1.2) fun r4 => (r4.1, r4.2) else bindP (F_impl_fixed r1.1 r1.2) fun r5 => (r5.1, r5.2)) else bindP (F_impl_fixed r1.1 r1.2) fun r6 => (r6.1, r6.2))

def F_impl_SqrtI (a0 : Iv) : Iv :=
  bindP (F_impl_IsWhole a0) fun r1 => (bif r1 then bindP (F_impl_Whole) fun r2 => r2 else (bif (decide (a0.lo.val < 0)) then bindP (F_impl_Whole) fun r3 => r3 else bindP (F_impl_SqrtDown a0.lo) fun r4 => bindP (F_impl_SqrtUp a0.hi) fun r5 => (bif r4.2 then bindP (F_impl_bounded r4.1 r5.1 r5.2) fun r6 => r6 else bindP (F_impl_bounded r4.1 r5.1 false) fun r7 => r7)))

def F_impl_halved (a0 : Iv) : Iv :=
  bindP (F_impl_Integer (c64 1)) fun r1 => bindP (F_impl_Integer (c64 1)) fun r2 => bindP (F_impl_SqrI a0) fun r3 => bindP (F_impl_AddI r2 r3) fun r4 => bindP (F_impl_SqrtI r4) fun r5 => bindP (F_impl_AddI r1 r5) fun r6 => bindP (F_impl_DivI a0 r6) fun r7 => r7

def F_impl_ArcSeries (a0 : Iv) : Iv :=
  bindP (F_impl_InsideI a0 (⟨(c64 (-1073741824)), (c64 1073741824)⟩ : Iv)) fun r1 => (bif (!r1) then bindP (F_impl_Whole) fun r2 => r2 else bindP (F_impl_SqrI a0) fun r3 => bindP (F_impl_Quotient (c64 1) (c64 21)) fun r4 => bindP (F_impl_Quotient (c64 1) (c64 19)) fun r5 => bindP (F_impl_MulI r3 r4) fun r6 => bindP (F_impl_SubI r5 r6) fun r7 => bindP (F_impl_Quotient (c64 1) (c64 17)) fun r8 => bindP (F_impl_MulI r3 r7) fun r9 => bindP (F_impl_SubI r8 r9) fun r10 => bindP (F_impl_Quotient (c64 1) (c64 15)) fun r11 => bindP (F_impl_MulI r3 r10) fun r12 => bindP (F_impl_SubI r11 r12) fun r13 => bindP (F_impl_Quotient (c64 1) (c64 13)) fun r14 => bindP (F_impl_MulI r3 r13) fun r15 => bindP (F_impl_SubI r14 r15) fun r16 => bindP (F_impl_Quotient (c64 1) (c64 11)) fun r17 => bindP (F_impl_MulI r3 r16) fun r18 => bindP (F_impl_SubI r17 r18) fun r19 => bindP (F_impl_Quotient (c64 1) (c64 9)) fun r20 => bindP (F_impl_MulI r3 r19) fun r21 => bindP (F_impl_SubI r20 r21) fun r22 => bindP (F_impl_Quotient (c64 1) (c64 7)) fun r23 => bindP (F_impl_MulI r3 r22) fun r24 => bindP (F_impl_SubI r23 r24) fun r25 => bindP (F_impl_Quotient (c64 1) (c64 5)) fun r26 => bindP (F_impl_MulI r3 r25) fun r27 => bindP (F_impl_SubI r26 r27) fun r28 => bindP (F_impl_Quotient (c64 1) (c64 3)) fun r29 => bindP (F_impl_MulI r3 r28) fun r30 => bindP (F_impl_SubI r29 r30) fun r31 => bindP (F_impl_Quotient (c64 1) (c64 1)) fun r32 => bindP (F_impl_MulI r3 r31) fun r33 => bindP (F_impl_SubI r32 r33) fun r34 => bindP (F_impl_MulI a0 r34) fun r35 => bindP (F_impl_tiny) fun r36 => bindP (F_impl_AddI r35 r36) fun r37 => r37)

def F_impl_DoubleI (a0 : Iv) : Iv :=
  bindP (F_impl_AddI a0 a0) fun r1 => r1

def F_impl_fourfold (a0 : Iv) : Iv :=
  bindP (F_impl_halved a0) fun r1 => bindP (F_impl_halved r1) fun r2 => bindP (F_impl_ArcSeries r2) fun r3 => bindP (F_impl_DoubleI r3) fun r4 => bindP (F_impl_DoubleI r4) fun r5 => r5

def F_impl_AtanAt_b (self : I64 → Iv) (a0 : I64) : Iv :=
  bindP (F_impl_isOpen a0) fun r1 => (bif (!r1) then bindP (F_impl_halfCircle) fun r3 => r3 else (bif (decide (a0.val < 0)) then bindP (self (w64 (0 - a0.val))) fun r5 => bindP (F_impl_NegI r5) fun r6 => r6 else (bif (decide (a0.val > 4294967296)) then bindP (F_impl_TurnI (c64 1)) fun r8 => bindP (F_impl_Integer (c64 1)) fun r9 => bindP (F_impl_at a0) fun r10 => bindP (F_impl_DivI r9 r10) fun r11 => bindP (F_impl_fourfold r11) fun r12 => bindP (F_impl_SubI r8 r12) fun r13 => r13 else bindP (F_impl_at a0) fun r14 => bindP (F_impl_fourfold r14) fun r15 => r15)))
def F_impl_AtanAt_r : Nat → I64 → Iv
  | 0, _ => (⟨(c64 0), (c64 0)⟩ : Iv)
  | fu + 1, a0 => F_impl_AtanAt_b (F_impl_AtanAt_r fu) a0
def F_impl_AtanAt (a0 : I64) : Iv := F_impl_AtanAt_r 2 a0

def F_impl_AtanI (a0 : Iv) : Iv :=
  bindP (F_impl_IsWhole a0) fun r1 => (bif r1 then bindP (F_impl_halfCircle) fun r2 => r2 else bindP (F_impl_AtanAt a0.lo) fun r3 => bindP (F_impl_AtanAt a0.hi) fun r4 => bindP (F_impl_HullI r3 r4) fun r5 => r5)

def F_impl_DirectionAt (a0 : I64) (a1 : I64) : Iv :=
  bindP (F_impl_isOpen a0) fun r1 => (bif (!r1) then bindP (F_impl_Whole) fun r2 => r2 else bindP (F_impl_isOpen a1) fun r3 => (bif (!r3) then bindP (F_impl_Whole) fun r4 => r4 else (bif (a0.val == 0) then (bif (a1.val == 0) then bindP (F_impl_Whole) fun r5 => r5 else bindP (F_impl_abs a0) fun r6 => bindP (F_impl_abs a1) fun r7 => (bif (decide (r6.val > r7.val)) then bindP (F_impl_TurnI (c64 1)) fun r8 => (bif (decide (a0.val < 0)) then bindP (F_impl_TurnI (c64 (-1))) fun r9 => bindP (F_impl_at a1) fun r10 => bindP (F_impl_at a0) fun r11 => bindP (F_impl_DivI r10 r11) fun r12 => bindP (F_impl_AtanI r12) fun r13 => bindP (F_impl_SubI r9 r13) fun r14 => r14 else bindP (F_impl_at a1) fun r15 => bindP (F_impl_at a0) fun r16 => bindP (F_impl_DivI r15 r16) fun r17 => bindP (F_impl_AtanI r17) fun r18 => bindP (F_impl_SubI r8 r18) fun r19 => r19) else bindP (F_impl_at a0) fun r20 => bindP (F_impl_at a1) fun r21 => bindP (F_impl_DivI r20 r21) fun r22 => bindP (F_impl_AtanI r22) fun r23 => (bif (decide (a1.val > 0)) then r23 else (bif (decide (a0.val < 0)) then bindP (F_impl_TurnI (c64 (-2))) fun r24 => bindP (F_impl_AddI r23 r24) fun r25 => r25 else bindP (F_impl_TurnI (c64 2)) fun r26 => bindP (F_impl_AddI r23 r26) fun r27 => r27)))) else bindP (F_impl_abs a0) fun r28 => bindP (F_impl_abs a1) fun r29 => (bif (decide (r28.val > r29.val)) then bindP (F_impl_TurnI (c64 1)) fun r30 => (bif (decide (a0.val < 0)) then bindP (F_impl_TurnI (c64 (-1))) fun r31 => bindP (F_impl_at a1) fun r32 => bindP (F_impl_at a0) fun r33 => bindP (F_impl_DivI r32 r33) fun r34 => bindP (F_impl_AtanI r34) fun r35 => bindP (F_impl_SubI r31 r35) fun r36 => r36 else bindP (F_impl_at a1) fun r37 => bindP (F_impl_at a0) fun r38 => bindP (F_impl_DivI r37 r38) fun r39 => bindP (F_impl_AtanI r39) fun r40 => bindP (F_impl_SubI r30 r40) fun r41 => r41) else bindP (F_impl_at a0) fun r42 => bindP (F_impl_at a1) fun r43 => bindP (F_impl_DivI r42 r43) fun r44 => bindP (F_impl_AtanI r44) fun r45 => (bif (decide (a1.val > 0)) then r45 else (bif (decide (a0.val < 0)) then bindP (F_impl_TurnI (c64 (-2))) fun r46 => bindP (F_impl_AddI r45 r46) fun r47 => r47 else bindP (F_impl_TurnI (c64 2)) fun r48 => bindP (F_impl_AddI r45 r48) fun r49 => r49))))))

def F_impl_DirectionI (a0 : Iv) (a1 : Iv) : Iv :=
  bindP (F_impl_areBounded a0 a1) fun r1 => (bif (!r1) then bindP (F_impl_Whole) fun r2 => r2 else bindP (F_impl_HasI a0 (c64 0)) fun r3 => (bif r3 then bindP (F_impl_HasI a1 (c64 0)) fun r4 => (bif r4 then bindP (F_impl_Whole) fun r5 => r5 else (bif (decide (a1.lo.val < 0)) then (bif (decide (a0.lo.val < 0)) then (bif (decide (a0.hi.val ≥ 0)) then bindP (F_impl_Whole) fun r6 => r6 else bindP (F_impl_DirectionAt a0.lo a1.lo) fun r7 => bindP (F_impl_DirectionAt a0.lo a1.hi) fun r8 => bindP (F_impl_HullI r7 r8) fun r9 => bindP (F_impl_DirectionAt a0.hi a1.lo) fun r10 => bindP (F_impl_DirectionAt a0.hi a1.hi) fun r11 => bindP (F_impl_HullI r10 r11) fun r12 => bindP (F_impl_HullI r9 r12) fun r13 => r13) else bindP (F_impl_DirectionAt a0.lo a1.lo) fun r14 => bindP (F_impl_DirectionAt a0.lo a1.hi) fun r15 => bindP (F_impl_HullI r14 r15) fun r16 => bindP (F_impl_DirectionAt a0.hi a1.lo) fun r17 => bindP (F_impl_DirectionAt a0.hi a1.hi) fun r18 => bindP (F_impl_HullI r17 r18) fun r19 => bindP (F_impl_HullI r16 r19) fun r20 => r20) else bindP (F_impl_DirectionAt a0.lo a1.lo) fun r21 => bindP (F_impl_DirectionAt a0.lo a1.hi) fun r22 => bindP (F_impl_HullI r21 r22) fun r23 => bindP (F_impl_DirectionAt a0.hi a1.lo) fun r24 => bindP (F_impl_DirectionAt a0.hi a1.hi) fun r25 => bindP (F_impl_HullI r24 r25) fun r26 => bindP (F_impl_HullI r23 r26) fun r27 => r27)) else (bif (decide (a1.lo.val < 0)) then (bif (decide (a0.lo.val < 0)) then (bif (decide (a0.hi.val ≥ 0)) then bindP (F_impl_Whole) fun r28 => r28 else bindP (F_impl_DirectionAt a0.lo a1.lo) fun r29 => bindP (F_impl_DirectionAt a0.lo a1.hi) fun r30 => bindP (F_impl_HullI r29 r30) fun r31 => bindP (F_impl_DirectionAt a0.hi a1.lo) fun r32 => bindP (F_impl_DirectionAt a0.hi a1.hi) fun r33 => bindP (F_impl_HullI r32 r33) fun r34 => bindP (F_impl_HullI r31 r34) fun r35 => r35) else bindP (F_impl_DirectionAt a0.lo a1.lo) fun r36 => bindP (F_impl_DirectionAt a0.lo a1.hi) fun r37 => bindP (F_impl_HullI r36 r37) fun r38 => bindP (F_impl_DirectionAt a0.hi a1.lo) fun r39 => bindP (F_impl_DirectionAt a0.hi a1.hi) fun r40 => bindP (F_impl_HullI r39 r40) fun r41 => bindP (F_impl_HullI r38 r41) fun r42 => r42) else bindP (F_impl_DirectionAt a0.lo a1.lo) fun r43 => bindP (F_impl_DirectionAt a0.lo a1.hi) fun r44 => bindP (F_impl_HullI r43 r44) fun r45 => bindP (F_impl_DirectionAt a0.hi a1.lo) fun r46 => bindP (F_impl_DirectionAt a0.hi a1.hi) fun r47 => bindP (F_impl_HullI r46 r47) fun r48 => bindP (F_impl_HullI r45 r48) fun r49 => r49)))

def F_impl_planar (a0 : Iv) (a1 : Iv) : Pn × I64 :=
  bindP (F_impl_areBounded a0 a1) fun r1 => (bif (!r1) then ((⟨(⟨(c64 0), (c64 0)⟩ : Iv), (⟨(c64 0), (c64 0)⟩ : Iv)⟩ : Pn), (c64 9)) else ((⟨a0, a1⟩ : Pn), (c64 0)))

def F_impl_TransverseForward (a0 : Pj) (a1 : Pt) : Pn × I64 :=
  bindP (F_impl_transverse a0 a1) fun r1 => (bif (r1.2.2.2.val != 0) then ((⟨(⟨(c64 0), (c64 0)⟩ : Iv), (⟨(c64 0), (c64 0)⟩ : Iv)⟩ : Pn), r1.2.2.2) else bindP (F_impl_AtanhI r1.2.2.1) fun r2 => bindP (F_impl_SinI r1.1) fun r3 => bindP (F_impl_CosI r1.1) fun r4 => bindP (F_impl_CosI r1.2.1) fun r5 => bindP (F_impl_MulI r4 r5) fun r6 => bindP (F_impl_DirectionI r3 r6) fun r7 => bindP (F_impl_RadiansOf a0.lat0) fun r8 => bindP (F_impl_SubI r7 r8) fun r9 => bindP (F_impl_planar r2 r9) fun r10 => (r10.1, r10.2))

def F_impl_ZoneForward (a0 : Pt) : I64 × Pn × I64 :=
  bindP (F_impl_ValidPoint a0) fun r1 => (bif (!r1) then ((c64 0), (⟨(⟨(c64 0), (c64 0)⟩ : Iv), (⟨(c64 0), (c64 0)⟩ : Iv)⟩ : Pn), (c64 1)) else bindP (F_impl_zoneOf a0) fun r2 => bindP (F_impl_ZoneProjection r2) fun r3 => bindP (F_impl_TransverseForward r3.1 a0) fun r4 => (bif (r4.2.val != 0) then ((c64 0), (⟨(⟨(c64 0), (c64 0)⟩ : Iv), (⟨(c64 0), (c64 0)⟩ : Iv)⟩ : Pn), r4.2) else (r2, r4.1, (c64 0))))

def F_laws_eqInterval (a0 : Iv) (a1 : Iv) : Bool :=
  (bif (a0.lo.val != a1.lo.val) then false else (bif (a0.hi.val != a1.hi.val) then false else true))

def F_laws_eqPlanar (a0 : Pn) (a1 : Pn) : Bool :=
  bindP (F_laws_eqInterval a0.x a1.x) fun r1 => (bif (!r1) then false else bindP (F_laws_eqInterval a0.y a1.y) fun r2 => (bif (!r2) then false else true))

def F_laws_FnExactZoneForward (a0 : Pt) : Bool :=
  bindP (F_laws_toPoint a0) fun r1 => bindP (F_spec_ZoneForward r1) fun r2 => bindP (F_laws_toPoint a0) fun r3 => bindP (F_impl_ZoneForward r3) fun r4 => (bif (r4.1.val != r2.1.val) then false else bindP (F_laws_eqPlanar r4.2.1 r2.2.1) fun r5 => (bif (!r5) then false else (bif (r4.2.2.val != r2.2.2.val) then false else true)))

def F_laws_toProjection (a0 : Pj) : Pj :=
  a0

def F_spec_l17Standard (a0 : I64) : Bool :=
  bindP (F_spec_l00In a0 (c64 (-890000000)) (c64 890000000)) fun r1 => r1

def F_spec_l17Ok (a0 : Pj) : Bool :=
  bindP (F_spec_l11Ok (⟨a0.lat0, a0.lon0⟩ : Pt)) fun r1 => (bif (!r1) then false else bindP (F_spec_l17Standard a0.lat1) fun r2 => (bif (!r2) then false else bindP (F_spec_l17Standard a0.lat2) fun r3 => (bif (!r3) then false else (bif (a0.kind.val == 1) then (bif (a0.lat0.val == 0) then (a0.lat2.val == 0) else false) else (bif (a0.kind.val == 3) then (bif (a0.lat0.val == 0) then (a0.lat2.val == 0) else false) else (bif (a0.kind.val == 2) then (bif (a0.lat0.val == 0) then (bif (a0.lat1.val == 0) then (a0.lat2.val == 0) else false) else false) else (bif (a0.kind.val == 4) then (bif (a0.lat0.val == 0) then (bif (a0.lat1.val == 0) then (a0.lat2.val == 0) else false) else false) else (bif (a0.kind.val == 13) then (bif (a0.lat0.val == 0) then (bif (a0.lat1.val == 0) then (a0.lat2.val == 0) else false) else false) else (bif (a0.kind.val == 14) then (bif (a0.lat0.val == 0) then (bif (a0.lat1.val == 0) then (a0.lat2.val == 0) else false) else false) else (bif (a0.kind.val == 15) then (bif (a0.lat0.val == 0) then (bif (a0.lat1.val == 0) then (a0.lat2.val == 0) else false) else false) else (bif (a0.kind.val == 5) then (bif (a0.lat1.val == 0) then (a0.lat2.val == 0) else false) else (bif (a0.kind.val == 6) then (bif (a0.lat1.val == 0) then (a0.lat2.val == 0) else false) else (bif (a0.kind.val == 7) then (bif (a0.lat1.val == 0) then (a0.lat2.val == 0) else false) else (bif (a0.kind.val == 8) then (bif (a0.lat1.val == 0) then (a0.lat2.val == 0) else false) else (bif (a0.kind.val == 9) then (bif (a0.lat1.val == 0) then (a0.lat2.val == 0) else false) else (bif (a0.kind.val == 16) then (bif (a0.lat1.val == 0) then (a0.lat2.val == 0) else false) else (bif (a0.kind.val == 10) then (bif (decide ((w64 (a0.lat1.val + a0.lat2.val)).val ≥ 10000000)) then true else (decide ((w64 (a0.lat1.val + a0.lat2.val)).val ≤ (-10000000)))) else (bif (a0.kind.val == 11) then (bif (decide ((w64 (a0.lat1.val + a0.lat2.val)).val ≥ 10000000)) then true else (decide ((w64 (a0.lat1.val + a0.lat2.val)).val ≤ (-10000000)))) else (bif (a0.kind.val == 12) then (bif (decide ((w64 (a0.lat1.val + a0.lat2.val)).val ≥ 10000000)) then true else (decide ((w64 (a0.lat1.val + a0.lat2.val)).val ≤ (-10000000)))) else false)))))))))))))))))))

def F_spec_l19Ok (a0 : Pj) : Bool :=
  bindP (F_spec_l00In a0.kind (c64 10) (c64 12)) fun r1 => (bif r1 then bindP (F_spec_l17Ok a0) fun r2 => r2 else false)

def F_spec_l11Pole (a0 : Pt) : Bool :=
  (bif (a0.lat.val == 900000000) then true else (a0.lat.val == (-900000000)))

def F_spec_SinAt (a0 : I64) : Iv :=
  bindP (F_spec_l06At a0 (c64 0)) fun r1 => r1

def F_spec_CosAt (a0 : I64) : Iv :=
  bindP (F_spec_l06At a0 (c64 1)) fun r1 => r1

def F_spec_TanI_L0 : Nat → Iv → I64 → Iv → Iv
  | 0, _, _, _ => (⟨(c64 0), (c64 0)⟩ : Iv)
  | fu + 1, a0, x_k, y_1 => bindP (F_spec_QuarterOf a0.hi) fun r5 => (bif (decide (x_k.val ≤ (w64 (r5.val + 1)).val)) then (bif ((iand .i64 x_k.val 1).val == 1) then bindP (F_spec_TurnI x_k) fun r8 => bindP (F_spec_OverlapI r8 a0) fun r9 => (bif r9 then bindP (F_spec_Whole) fun r11 => r11 else F_spec_TanI_L0 fu a0 (w64 (x_k.val + 1)) y_1) else F_spec_TanI_L0 fu a0 (w64 (x_k.val + 1)) y_1) else bindP (F_spec_SinAt a0.lo) fun r12 => bindP (F_spec_CosAt a0.lo) fun r13 => bindP (F_spec_DivI r12 r13) fun r14 => bindP (F_spec_SinAt a0.hi) fun r15 => bindP (F_spec_CosAt a0.hi) fun r16 => bindP (F_spec_DivI r15 r16) fun r17 => bindP (F_spec_HullI r14 r17) fun r18 => r18)

def F_spec_TanI (a0 : Iv) : Iv :=
  bindP (F_spec_l06Fits a0) fun r1 => (bif (!r1) then bindP (F_spec_Whole) fun r3 => r3 else bindP (F_spec_QuarterOf a0.lo) fun r4 => F_spec_TanI_L0 ((2000 - (w64 (r4.val - 1)).val).toNat + 1) a0 (w64 (r4.val - 1)) (⟨(c64 0), (c64 0)⟩ : Iv))

def F_spec_l08Asinh_b (self : I64 → Iv) (a0 : I64) : Iv :=
  (bif (decide (a0.val < 0)) then bindP (self (w64 (0 - a0.val))) fun r2 => bindP (F_spec_NegI r2) fun r3 => r3 else (bif (decide (a0.val ≤ 35184372088832)) then bindP (F_spec_l08At a0) fun r5 => bindP (F_spec_l08At a0) fun r6 => bindP (F_spec_SqrI r6) fun r7 => bindP (F_spec_l08One) fun r8 => bindP (F_spec_AddI r7 r8) fun r9 => bindP (F_spec_SqrtI r9) fun r10 => bindP (F_spec_AddI r5 r10) fun r11 => bindP (F_spec_LogI r11) fun r12 => r12 else bindP (F_spec_LogTwoI (c64 1)) fun r13 => bindP (F_spec_LogAt a0) fun r14 => bindP (F_spec_AddI r13 r14) fun r15 => bindP (F_spec_AddI r15 (⟨(c64 0), (c64 16)⟩ : Iv)) fun r16 => r16))
def F_spec_l08Asinh_r : Nat → I64 → Iv
  | 0, _ => (⟨(c64 0), (c64 0)⟩ : Iv)
  | fu + 1, a0 => F_spec_l08Asinh_b (F_spec_l08Asinh_r fu) a0
def F_spec_l08Asinh (a0 : I64) : Iv := F_spec_l08Asinh_r 2 a0

def F_spec_AsinhI (a0 : Iv) : Iv :=
  bindP (F_spec_l04Ok a0) fun r1 => (bif (!r1) then bindP (F_spec_l04Whole) fun r3 => r3 else bindP (F_spec_l08Asinh a0.lo) fun r4 => bindP (F_spec_l08Asinh a0.hi) fun r5 => bindP (F_spec_l08Ends r4 r5) fun r6 => r6)

def F_spec_l19Iso (a0 : Iv) : Iv :=
  bindP (F_spec_TanI a0) fun r1 => bindP (F_spec_AsinhI r1) fun r2 => r2

def F_spec_l19Cone (a0 : Pj) : Iv :=
  bindP (F_spec_RadiansOf a0.lat1) fun r1 => bindP (F_spec_RadiansOf a0.lat2) fun r2 => (bif (a0.kind.val == 10) then bindP (F_spec_SinI r1) fun r3 => bindP (F_spec_SinI r2) fun r4 => bindP (F_spec_AddI r3 r4) fun r5 => bindP (F_spec_HalfI r5) fun r6 => r6 else (bif (a0.lat1.val == a0.lat2.val) then bindP (F_spec_SinI r1) fun r7 => r7 else (bif (a0.kind.val == 11) then bindP (F_spec_CosI r1) fun r8 => bindP (F_spec_LogI r8) fun r9 => bindP (F_spec_CosI r2) fun r10 => bindP (F_spec_LogI r10) fun r11 => bindP (F_spec_SubI r9 r11) fun r12 => bindP (F_spec_l19Iso r2) fun r13 => bindP (F_spec_l19Iso r1) fun r14 => bindP (F_spec_SubI r13 r14) fun r15 => bindP (F_spec_DivI r12 r15) fun r16 => r16 else bindP (F_spec_CosI r1) fun r17 => bindP (F_spec_CosI r2) fun r18 => bindP (F_spec_SubI r17 r18) fun r19 => bindP (F_spec_SubI r2 r1) fun r20 => bindP (F_spec_DivI r19 r20) fun r21 => r21)))

def F_spec_l08Scale (a0 : Iv) (a1 : I64) : Iv :=
  (bif (decide (a1.val ≥ 0)) then bindP (F_spec_l04Make (ishl .i64 a0.lo.val (wu64 a1.val).val) (ishl .i64 a0.hi.val (wu64 a1.val).val)) fun r2 => r2 else bindP (F_spec_l04Make (ishr a0.lo (wu64 (w64 (0 - a1.val)).val).val) (w64 (0 - (ishr (w64 (0 - a0.hi.val)) (wu64 (w64 (0 - a1.val)).val).val).val))) fun r3 => r3)

def F_spec_ExpAt (a0 : I64) : Iv :=
  bindP (F_spec_l03Ok a0) fun r1 => (bif (!r1) then bindP (F_spec_l04Whole) fun r3 => r3 else (bif (decide (a0.val > 85899345920)) then bindP (F_spec_l04Whole) fun r5 => r5 else (bif (decide (a0.val < (-98784247808))) then (⟨(c64 0), (c64 1)⟩ : Iv) else (bif (decide ((imod (w64 ((w64 (2 * a0.val)).val + 2977044472)) 5954088944).val < 0)) then bindP (F_spec_l08At a0) fun r8 => bindP (F_spec_LogTwoI (w64 ((w64 (Int.tdiv (w64 ((w64 (2 * a0.val)).val + 2977044472)).val 5954088944)).val - 1))) fun r9 => bindP (F_spec_SubI r8 r9) fun r10 => bindP (F_spec_l08One) fun r11 => bindP (F_spec_l08One) fun r12 => bindP (F_spec_MulI r10 r11) fun r13 => bindP (F_spec_Integer (c64 9)) fun r14 => bindP (F_spec_DivI r13 r14) fun r15 => bindP (F_spec_AddI r12 r15) fun r16 => bindP (F_spec_l08One) fun r17 => bindP (F_spec_MulI r10 r16) fun r18 => bindP (F_spec_Integer (c64 8)) fun r19 => bindP (F_spec_DivI r18 r19) fun r20 => bindP (F_spec_AddI r17 r20) fun r21 => bindP (F_spec_l08One) fun r22 => bindP (F_spec_MulI r10 r21) fun r23 => bindP (F_spec_Integer (c64 7)) fun r24 => bindP (F_spec_DivI r23 r24) fun r25 => bindP (F_spec_AddI r22 r25) fun r26 => bindP (F_spec_l08One) fun r27 => bindP (F_spec_MulI r10 r26) fun r28 => bindP (F_spec_Integer (c64 6)) fun r29 => bindP (F_spec_DivI r28 r29) fun r30 => bindP (F_spec_AddI r27 r30) fun r31 => bindP (F_spec_l08One) fun r32 => bindP (F_spec_MulI r10 r31) fun r33 => bindP (F_spec_Integer (c64 5)) fun r34 => bindP (F_spec_DivI r33 r34) fun r35 => bindP (F_spec_AddI r32 r35) fun r36 => bindP (F_spec_l08One) fun r37 => bindP (F_spec_MulI r10 r36) fun r38 => bindP (F_spec_Integer (c64 4)) fun r39 => bindP (F_spec_DivI r38 r39) fun r40 => bindP (F_spec_AddI r37 r40) fun r41 => bindP (F_spec_l08One) fun r42 => bindP (F_spec_MulI r10 r41) fun r43 => bindP (F_spec_Integer (c64 3)) fun r44 => bindP (F_spec_DivI r43 r44) fun r45 => bindP (F_spec_AddI r42 r45) fun r46 => bindP (F_spec_l08One) fun r47 => bindP (F_spec_MulI r10 r46) fun r48 => bindP (F_spec_Integer (c64 2)) fun r49 => bindP (F_spec_DivI r48 r49) fun r50 => bindP (F_spec_AddI r47 r50) fun r51 => bindP (F_spec_l08One) fun r52 => bindP (F_spec_MulI r10 r51) fun r53 => bindP (F_spec_Integer (c64 1)) fun r54 => bindP (F_spec_DivI r53 r54) fun r55 => bindP (F_spec_AddI r52 r55) fun r56 => bindP (F_spec_l08Widen r56 (c64 1)) fun r57 => bindP (F_spec_l08Scale r57 (w64 ((w64 (Int.tdiv (w64 ((w64 (2 * a0.val)).val + 2977044472)).val 5954088944)).val - 1))) fun r58 => r58 else bindP (F_spec_l08At a0) fun r59 => bindP (F_spec_LogTwoI (w64 (Int.tdiv (w64 ((w64 (2 * a0.val)).val + 2977044472)).val 5954088944))) fun r60 => bindP (F_spec_SubI r59 r60) fun r61 => bindP (F_spec_l08One) fun r62 => bindP (F_spec_l08One) fun r63 => bindP (F_spec_MulI r61 r62) fun r64 => bindP (F_spec_Integer (c64 9)) fun r65 => bindP (F_spec_DivI r64 r65) fun r66 => bindP (F_spec_AddI r63 r66) fun r67 => bindP (F_spec_l08One) fun r68 => bindP (F_spec_MulI r61 r67) fun r69 => bindP (F_spec_Integer (c64 8)) fun r70 => bindP (F_spec_DivI r69 r70) fun r71 => bindP (F_spec_AddI r68 r71) fun r72 => bindP (F_spec_l08One) fun r73 => bindP (F_spec_MulI r61 r72) fun r74 => bindP (F_spec_Integer (c64 7)) fun r75 => bindP (F_spec_DivI r74 r75) fun r76 => bindP (F_spec_AddI r73 r76) fun r77 => bindP (F_spec_l08One) fun r78 => bindP (F_spec_MulI r61 r77) fun r79 => bindP (F_spec_Integer (c64 6)) fun r80 => bindP (F_spec_DivI r79 r80) fun r81 => bindP (F_spec_AddI r78 r81) fun r82 => bindP (F_spec_l08One) fun r83 => bindP (F_spec_MulI r61 r82) fun r84 => bindP (F_spec_Integer (c64 5)) fun r85 => bindP (F_spec_DivI r84 r85) fun r86 => bindP (F_spec_AddI r83 r86) fun r87 => bindP (F_spec_l08One) fun r88 => bindP (F_spec_MulI r61 r87) fun r89 => bindP (F_spec_Integer (c64 4)) fun r90 => bindP (F_spec_DivI r89 r90) fun r91 => bindP (F_spec_AddI r88 r91) fun r92 => bindP (F_spec_l08One) fun r93 => bindP (F_spec_MulI r61 r92) fun r94 => bindP (F_spec_Integer (c64 3)) fun r95 => bindP (F_spec_DivI r94 r95) fun r96 => bindP (F_spec_AddI r93 r96) fun r97 => bindP (F_spec_l08One) fun r98 => bindP (F_spec_MulI r61 r97) fun r99 => bindP (F_spec_Integer (c64 2)) fun r100 => bindP (F_spec_DivI r99 r100) fun r101 => bindP (F_spec_AddI r98 r101) fun r102 => bindP (F_spec_l08One) fun r103 => bindP (F_spec_MulI r61 r102) fun r104 => bindP (F_spec_Integer (c64 1)) fun r105 => bindP (F_spec_DivI r104 r105) fun r106 => bindP (F_spec_AddI r103 r106) fun r107 => bindP (F_spec_l08Widen r107 (c64 1)) fun r108 => bindP (F_spec_l08Scale r108 (w64 (Int.tdiv (w64 ((w64 (2 * a0.val)).val + 2977044472)).val 5954088944))) fun r109 => r109))))

def F_spec_ExpI (a0 : Iv) : Iv :=
  bindP (F_spec_l04Ok a0) fun r1 => (bif (!r1) then bindP (F_spec_l04Whole) fun r2 => r2 else bindP (F_spec_ExpAt a0.lo) fun r3 => bindP (F_spec_ExpAt a0.hi) fun r4 => bindP (F_spec_l08Ends r3 r4) fun r5 => r5)

def F_spec_l19Constant (a0 : Pj) (a1 : Iv) : Iv :=
  bindP (F_spec_RadiansOf a0.lat1) fun r1 => (bif (a0.kind.val == 10) then bindP (F_spec_CosI r1) fun r2 => bindP (F_spec_SqrI r2) fun r3 => bindP (F_spec_Integer (c64 2)) fun r4 => bindP (F_spec_MulI r4 a1) fun r5 => bindP (F_spec_SinI r1) fun r6 => bindP (F_spec_MulI r5 r6) fun r7 => bindP (F_spec_AddI r3 r7) fun r8 => r8 else (bif (a0.kind.val == 11) then bindP (F_spec_CosI r1) fun r9 => bindP (F_spec_l19Iso r1) fun r10 => bindP (F_spec_MulI a1 r10) fun r11 => bindP (F_spec_ExpI r11) fun r12 => bindP (F_spec_MulI r9 r12) fun r13 => bindP (F_spec_DivI r13 a1) fun r14 => r14 else bindP (F_spec_CosI r1) fun r15 => bindP (F_spec_DivI r15 a1) fun r16 => bindP (F_spec_AddI r16 r1) fun r17 => r17))

def F_spec_LatOf (a0 : Pt) : Iv :=
  bindP (F_spec_l11Ok a0) fun r1 => (bif (!r1) then bindP (F_spec_Whole) fun r2 => r2 else bindP (F_spec_RadiansOf a0.lat) fun r3 => r3)

def F_spec_l19Radius (a0 : I64) (a1 : Iv) (a2 : Iv) (a3 : Iv) : Iv :=
  (bif (a0.val == 10) then bindP (F_spec_Integer (c64 2)) fun r1 => bindP (F_spec_MulI r1 a1) fun r2 => bindP (F_spec_SinI a3) fun r3 => bindP (F_spec_MulI r2 r3) fun r4 => bindP (F_spec_SubI a2 r4) fun r5 => bindP (F_spec_SqrtI r5) fun r6 => bindP (F_spec_DivI r6 a1) fun r7 => r7 else (bif (a0.val == 11) then bindP (F_spec_l19Iso a3) fun r8 => bindP (F_spec_MulI a1 r8) fun r9 => bindP (F_spec_NegI r9) fun r10 => bindP (F_spec_ExpI r10) fun r11 => bindP (F_spec_MulI a2 r11) fun r12 => r12 else bindP (F_spec_SubI a2 a3) fun r13 => r13))

def F_spec_l17Lon (a0 : Pj) (a1 : Pt) : Iv :=
  bindP (F_spec_l11Wrap (w64 (a1.lon.val - a0.lon0.val))) fun r1 => bindP (F_spec_RadiansOf r1) fun r2 => r2

def F_spec_l17End (a0 : Iv) (a1 : Iv) : Pn × I64 :=
  bindP (F_spec_l04Ok a0) fun r1 => (bif (!r1) then ((⟨(⟨(c64 0), (c64 0)⟩ : Iv), (⟨(c64 0), (c64 0)⟩ : Iv)⟩ : Pn), (c64 9)) else bindP (F_spec_l04Ok a1) fun r2 => (bif (!r2) then ((⟨(⟨(c64 0), (c64 0)⟩ : Iv), (⟨(c64 0), (c64 0)⟩ : Iv)⟩ : Pn), (c64 9)) else ((⟨a0, a1⟩ : Pn), (c64 0))))

def F_spec_ConicForward (a0 : Pj) (a1 : Pt) : Pn × I64 :=
  bindP (F_spec_l19Ok a0) fun r1 => (bif (!r1) then ((⟨(⟨(c64 0), (c64 0)⟩ : Iv), (⟨(c64 0), (c64 0)⟩ : Iv)⟩ : Pn), (c64 1)) else bindP (F_spec_l11Ok a1) fun r2 => (bif (!r2) then ((⟨(⟨(c64 0), (c64 0)⟩ : Iv), (⟨(c64 0), (c64 0)⟩ : Iv)⟩ : Pn), (c64 1)) else (bif (a0.kind.val == 11) then bindP (F_spec_l11Pole a1) fun r3 => (bif r3 then ((⟨(⟨(c64 0), (c64 0)⟩ : Iv), (⟨(c64 0), (c64 0)⟩ : Iv)⟩ : Pn), (c64 8)) else bindP (F_spec_l19Cone a0) fun r4 => bindP (F_spec_l19Constant a0 r4) fun r5 => bindP (F_spec_LatOf a1) fun r6 => bindP (F_spec_l19Radius a0.kind r4 r5 r6) fun r7 => bindP (F_spec_RadiansOf a0.lat0) fun r8 => bindP (F_spec_l19Radius a0.kind r4 r5 r8) fun r9 => bindP (F_spec_l17Lon a0 a1) fun r10 => bindP (F_spec_MulI r4 r10) fun r11 => bindP (F_spec_SinI r11) fun r12 => bindP (F_spec_MulI r7 r12) fun r13 => bindP (F_spec_CosI r11) fun r14 => bindP (F_spec_MulI r7 r14) fun r15 => bindP (F_spec_SubI r9 r15) fun r16 => bindP (F_spec_l17End r13 r16) fun r17 => (r17.1, r17.2)) else bindP (F_spec_l19Cone a0) fun r18 => bindP (F_spec_l19Constant a0 r18) fun r19 => bindP (F_spec_LatOf a1) fun r20 => bindP (F_spec_l19Radius a0.kind r18 r19 r20) fun r21 => bindP (F_spec_RadiansOf a0.lat0) fun r22 => bindP (F_spec_l19Radius a0.kind r18 r19 r22) fun r23 => bindP (F_spec_l17Lon a0 a1) fun r24 => bindP (F_spec_MulI r18 r24) fun r25 => bindP (F_spec_SinI r25) fun r26 => bindP (F_spec_MulI r21 r26) fun r27 => bindP (F_spec_CosI r25) fun r28 => bindP (F_spec_MulI r21 r28) fun r29 => bindP (F_spec_SubI r23 r29) fun r30 => bindP (F_spec_l17End r27 r30) fun r31 => (r31.1, r31.2))))

def F_impl_SinAt (a0 : I64) : Iv :=
  bindP (F_impl_circleValue a0 (c64 0)) fun r1 => r1

def F_impl_CosAt (a0 : I64) : Iv :=
  bindP (F_impl_circleValue a0 (c64 1)) fun r1 => r1

end Go.Proofs.YtclbkeejhnmeoaaGreat.Abs
