/- The functions, on numbers; part 1 (written by w.py). -/
import Derived.Test.YtcdkepbgjgcjfaaGreatDsF0
set_option linter.unusedVariables false
set_option linter.unusedSimpArgs false
namespace Go.Proofs.YtcdkepbgjgcjfaaGreat.Abs
open Go Go.RowKit

def F_impl_combine__impl_MulDown__impl_MulUp (a0 : Iv) (a1 : Iv) : Iv :=
  bindP (F_impl_MulDown a0.lo a1.lo) fun r1 => bindP (F_impl_MulUp a0.lo a1.lo) fun r2 => (bif (!r1.2) then bindP (F_impl_Whole) fun r3 => r3 else (bif (!r2.2) then bindP (F_impl_Whole) fun r4 => r4 else bindP (F_impl_MulDown a0.lo a1.hi) fun r5 => bindP (F_impl_MulUp a0.lo a1.hi) fun r6 => (bif (!r5.2) then bindP (F_impl_Whole) fun r7 => r7 else (bif (!r6.2) then bindP (F_impl_Whole) fun r8 => r8 else bindP (F_impl_MulDown a0.hi a1.lo) fun r9 => bindP (F_impl_MulUp a0.hi a1.lo) fun r10 => (bif (!r9.2) then bindP (F_impl_Whole) fun r11 => r11 else (bif (!r10.2) then bindP (F_impl_Whole) fun r12 => r12 else bindP (F_impl_MulDown a0.hi a1.hi) fun r13 => bindP (F_impl_MulUp a0.hi a1.hi) fun r14 => (bif (!r13.2) then bindP (F_impl_Whole) fun r15 => r15 else (bif (!r14.2) then bindP (F_impl_Whole) fun r16 => r16 else bindP (F_impl_bounded (mn (mn (mn (mn r1.1 r1.1) r5.1) r9.1) r13.1) (mx (mx (mx (mx r2.1 r2.1) r6.1) r10.1) r14.1) true) fun r17 => r17))))))))

def F_impl_MulI (a0 : Iv) (a1 : Iv) : Iv :=
  bindP (F_impl_areBounded a0 a1) fun r1 => (bif (!r1) then bindP (F_impl_Whole) fun r2 => r2 else bindP (F_impl_combine__impl_MulDown__impl_MulUp a0 a1) fun r3 => r3)

def F_impl_series (a0 : Iv) (a1 : I64) : Iv :=
  bindP (F_impl_Integer (c64 1)) fun r1 => bindP (F_impl_Integer (c64 1)) fun r2 => bindP (F_impl_Integer (w64 ((w64 (a1.val + 14)).val * (w64 ((w64 (a1.val + 14)).val + 1)).val))) fun r3 => bindP (F_impl_DivI a0 r3) fun r4 => bindP (F_impl_MulI r4 r1) fun r5 => bindP (F_impl_SubI r2 r5) fun r6 => bindP (F_impl_Integer (c64 1)) fun r7 => bindP (F_impl_Integer (w64 ((w64 (a1.val + 12)).val * (w64 ((w64 (a1.val + 12)).val + 1)).val))) fun r8 => bindP (F_impl_DivI a0 r8) fun r9 => bindP (F_impl_MulI r9 r6) fun r10 => bindP (F_impl_SubI r7 r10) fun r11 => bindP (F_impl_Integer (c64 1)) fun r12 => bindP (F_impl_Integer (w64 ((w64 (a1.val + 10)).val * (w64 ((w64 (a1.val + 10)).val + 1)).val))) fun r13 => bindP (F_impl_DivI a0 r13) fun r14 => bindP (F_impl_MulI r14 r11) fun r15 => bindP (F_impl_SubI r12 r15) fun r16 => bindP (F_impl_Integer (c64 1)) fun r17 => bindP (F_impl_Integer (w64 ((w64 (a1.val + 8)).val * (w64 ((w64 (a1.val + 8)).val + 1)).val))) fun r18 => bindP (F_impl_DivI a0 r18) fun r19 => bindP (F_impl_MulI r19 r16) fun r20 => bindP (F_impl_SubI r17 r20) fun r21 => bindP (F_impl_Integer (c64 1)) fun r22 => bindP (F_impl_Integer (w64 ((w64 (a1.val + 6)).val * (w64 ((w64 (a1.val + 6)).val + 1)).val))) fun r23 => bindP (F_impl_DivI a0 r23) fun r24 => bindP (F_impl_MulI r24 r21) fun r25 => bindP (F_impl_SubI r22 r25) fun r26 => bindP (F_impl_Integer (c64 1)) fun r27 => bindP (F_impl_Integer (w64 ((w64 (a1.val + 4)).val * (w64 ((w64 (a1.val + 4)).val + 1)).val))) fun r28 => bindP (F_impl_DivI a0 r28) fun r29 => bindP (F_impl_MulI r29 r26) fun r30 => bindP (F_impl_SubI r27 r30) fun r31 => bindP (F_impl_Integer (c64 1)) fun r32 => bindP (F_impl_Integer (w64 ((w64 (a1.val + 2)).val * (w64 ((w64 (a1.val + 2)).val + 1)).val))) fun r33 => bindP (F_impl_DivI a0 r33) fun r34 => bindP (F_impl_MulI r34 r31) fun r35 => bindP (F_impl_SubI r32 r35) fun r36 => bindP (F_impl_Integer (c64 1)) fun r37 => bindP (F_impl_Integer (w64 ((w64 (a1.val + 0)).val * (w64 ((w64 (a1.val + 0)).val + 1)).val))) fun r38 => bindP (F_impl_DivI a0 r38) fun r39 => bindP (F_impl_MulI r39 r36) fun r40 => bindP (F_impl_SubI r37 r40) fun r41 => r41

def F_impl_tiny : Iv :=
  (⟨(c64 (-1)), (c64 1)⟩ : Iv)

def F_impl_SinSeries (a0 : Iv) : Iv :=
  bindP (F_impl_ring) fun r1 => bindP (F_impl_InsideI a0 r1) fun r2 => (bif (!r2) then bindP (F_impl_Whole) fun r3 => r3 else bindP (F_impl_SqrI a0) fun r4 => bindP (F_impl_series r4 (c64 2)) fun r5 => bindP (F_impl_MulI a0 r5) fun r6 => bindP (F_impl_tiny) fun r7 => bindP (F_impl_AddI r6 r7) fun r8 => r8)

def F_impl_MeetI (a0 : Iv) (a1 : Iv) : Iv × Bool :=
  bindP (F_impl_IsWhole a0) fun r1 => (bif r1 then bindP (F_impl_IsWhole a1) fun r2 => (bif r2 then bindP (F_impl_Whole) fun r3 => (r3, true) else bindP (F_impl_IsWhole a0) fun r4 => (bif r4 then (a1, true) else bindP (F_impl_IsWhole a1) fun r5 => (bif r5 then (a0, true) else (bif (decide ((mx a0.lo a1.lo).val > (mn a0.hi a1.hi).val)) then ((⟨(c64 0), (c64 0)⟩ : Iv), false) else ((⟨(mx a0.lo a1.lo), (mn a0.hi a1.hi)⟩ : Iv), true))))) else bindP (F_impl_IsWhole a0) fun r6 => (bif r6 then (a1, true) else bindP (F_impl_IsWhole a1) fun r7 => (bif r7 then (a0, true) else (bif (decide ((mx a0.lo a1.lo).val > (mn a0.hi a1.hi).val)) then ((⟨(c64 0), (c64 0)⟩ : Iv), false) else ((⟨(mx a0.lo a1.lo), (mn a0.hi a1.hi)⟩ : Iv), true)))))

def F_impl_inRing (a0 : Iv) : Iv :=
  bindP (F_impl_ring) fun r1 => bindP (F_impl_MeetI a0 r1) fun r2 => r2.1

def F_impl_CosSeries (a0 : Iv) : Iv :=
  bindP (F_impl_ring) fun r1 => bindP (F_impl_InsideI a0 r1) fun r2 => (bif (!r2) then bindP (F_impl_Whole) fun r3 => r3 else bindP (F_impl_SqrI a0) fun r4 => bindP (F_impl_series r4 (c64 1)) fun r5 => bindP (F_impl_tiny) fun r6 => bindP (F_impl_AddI r5 r6) fun r7 => r7)

def F_impl_circleValue (a0 : I64) (a1 : I64) : Iv :=
  bindP (F_impl_isAngle a0) fun r1 => (bif (!r1) then bindP (F_impl_ring) fun r2 => r2 else bindP (F_impl_QuarterOf a0) fun r3 => bindP (F_impl_at a0) fun r4 => bindP (F_impl_TurnI r3) fun r5 => bindP (F_impl_SubI r4 r5) fun r6 => (bif ((iand .i64 (w64 (r3.val + a1.val)).val 3).val == 0) then bindP (F_impl_SinSeries r6) fun r7 => bindP (F_impl_inRing r7) fun r8 => r8 else (bif ((iand .i64 (w64 (r3.val + a1.val)).val 3).val == 1) then bindP (F_impl_CosSeries r6) fun r9 => bindP (F_impl_inRing r9) fun r10 => r10 else (bif ((iand .i64 (w64 (r3.val + a1.val)).val 3).val == 2) then bindP (F_impl_SinSeries r6) fun r11 => bindP (F_impl_NegI r11) fun r12 => bindP (F_impl_inRing r12) fun r13 => r13 else bindP (F_impl_CosSeries r6) fun r14 => bindP (F_impl_NegI r14) fun r15 => bindP (F_impl_inRing r15) fun r16 => r16))))

def F_impl_HullI (a0 : Iv) (a1 : Iv) : Iv :=
  bindP (F_impl_areBounded a0 a1) fun r1 => (bif (!r1) then bindP (F_impl_Whole) fun r2 => r2 else (⟨(mn a0.lo a1.lo), (mx a0.hi a1.hi)⟩ : Iv))

def F_impl_OverlapI (a0 : Iv) (a1 : Iv) : Bool :=
  bindP (F_impl_MeetI a0 a1) fun r1 => r1.2

def F_impl_turnsIn_L0 : Nat → Iv → I64 → List I64 → List I64
  | 0, _, _, acc => acc
  | fu + 1, a0, x_k, acc => bindP (F_impl_QuarterOf a0.hi) fun r1 => (bif (decide (x_k.val ≤ (w64 (r1.val + 1)).val)) then bindP (F_impl_TurnI x_k) fun r2 => bindP (F_impl_OverlapI r2 a0) fun r3 => (bif r3 then F_impl_turnsIn_L0 fu a0 (w64 (x_k.val + 1)) (acc ++ [x_k]) else F_impl_turnsIn_L0 fu a0 (w64 (x_k.val + 1)) acc) else acc)
def F_impl_turnsIn (a0 : Iv) : List I64 := bindP (F_impl_QuarterOf a0.lo) fun r1 => F_impl_turnsIn_L0 ((2000 - (w64 (r1.val - 1)).val).toNat + 1) a0 (w64 (r1.val - 1)) []

def F_impl_circleHull_L0 : Nat → I64 → List I64 → Iv → I64 → Iv → Iv
  | 0, _, _, _, _, _ => (⟨(c64 0), (c64 0)⟩ : Iv)
  | fu + 1, a1, r7, a0, x_24, y_2 => (bif (decide (x_24.val < (((r7.length : Nat) : Int)))) then (bif ((iand .i64 (w64 ((listAt r7 x_24).val + a1.val)).val 3).val == 1) then bindP (F_impl_Integer (c64 1)) fun r10 => bindP (F_impl_HullI y_2 r10) fun r11 => F_impl_circleHull_L0 fu a1 r7 a0 (w64 (x_24.val + 1)) r11 else (bif ((iand .i64 (w64 ((listAt r7 x_24).val + a1.val)).val 3).val == 3) then bindP (F_impl_Integer (c64 (-1))) fun r13 => bindP (F_impl_HullI y_2 r13) fun r14 => F_impl_circleHull_L0 fu a1 r7 a0 (w64 (x_24.val + 1)) r14 else F_impl_circleHull_L0 fu a1 r7 a0 (w64 (x_24.val + 1)) y_2)) else y_2)

def F_impl_circleHull (a0 : Iv) (a1 : I64) : Iv :=
  bindP (F_impl_areAngles a0) fun r1 => (bif (!r1) then bindP (F_impl_ring) fun r3 => r3 else bindP (F_impl_circleValue a0.lo a1) fun r4 => bindP (F_impl_circleValue a0.hi a1) fun r5 => bindP (F_impl_HullI r4 r5) fun r6 => bindP (F_impl_turnsIn a0) fun r7 => F_impl_circleHull_L0 (((r7.length : Nat) : Int).toNat + 1) a1 r7 a0 (c64 0) r6)

def F_impl_CosI (a0 : Iv) : Iv :=
  bindP (F_impl_circleHull a0 (c64 1)) fun r1 => r1

def F_impl_SinI (a0 : Iv) : Iv :=
  bindP (F_impl_circleHull a0 (c64 0)) fun r1 => r1

def F_impl_localOf (a0 : Iv) (a1 : Iv) (a2 : Iv) : Vc :=
  bindP (F_impl_CosI a1) fun r1 => bindP (F_impl_SinI a2) fun r2 => bindP (F_impl_MulI r1 r2) fun r3 => bindP (F_impl_CosI a0) fun r4 => bindP (F_impl_SinI a1) fun r5 => bindP (F_impl_MulI r4 r5) fun r6 => bindP (F_impl_SinI a0) fun r7 => bindP (F_impl_CosI a1) fun r8 => bindP (F_impl_MulI r7 r8) fun r9 => bindP (F_impl_CosI a2) fun r10 => bindP (F_impl_MulI r9 r10) fun r11 => bindP (F_impl_SubI r6 r11) fun r12 => bindP (F_impl_SinI a0) fun r13 => bindP (F_impl_SinI a1) fun r14 => bindP (F_impl_MulI r13 r14) fun r15 => bindP (F_impl_CosI a0) fun r16 => bindP (F_impl_CosI a1) fun r17 => bindP (F_impl_MulI r16 r17) fun r18 => bindP (F_impl_CosI a2) fun r19 => bindP (F_impl_MulI r18 r19) fun r20 => bindP (F_impl_AddI r15 r20) fun r21 => (⟨r3, r12, r21⟩ : Vc)

def F_impl_isOpen (a0 : I64) : Bool :=
  (bif (decide ((-1152921504606846976) < a0.val)) then (decide (a0.val < 1152921504606846976)) else false)

def F_impl_halfCircle : Iv :=
  bindP (F_impl_TurnI (c64 1)) fun r1 => bindP (F_impl_TurnI (c64 1)) fun r2 => (⟨(w64 (0 - r1.hi.val)), r2.hi⟩ : Iv)

def F_impl_WideSqrt_L0 : Nat → Wd → U64 → I64 → U64 × Bool
  | 0, _, _, _ => ((cu64 0), false)
  | fu + 1, a0, x_root, x_i => (bif (decide (x_i.val ≥ 0)) then bindP (F_bits_Mul64 (ior .u64 x_root.val (ishl .u64 1 x_i.val).val) (ior .u64 x_root.val (ishl .u64 1 x_i.val).val)) fun r3 => (bif (decide (r3.1.val < (wu64 a0.hi.val).val)) then F_impl_WideSqrt_L0 fu a0 (ior .u64 x_root.val (ishl .u64 1 x_i.val).val) (w64 (x_i.val - 1)) else (bif (r3.1.val == (wu64 a0.hi.val).val) then (bif (decide (r3.2.val ≤ a0.lo.val)) then F_impl_WideSqrt_L0 fu a0 (ior .u64 x_root.val (ishl .u64 1 x_i.val).val) (w64 (x_i.val - 1)) else F_impl_WideSqrt_L0 fu a0 x_root (w64 (x_i.val - 1))) else F_impl_WideSqrt_L0 fu a0 x_root (w64 (x_i.val - 1)))) else (x_root, true))

def F_impl_WideSqrt (a0 : Wd) : U64 × Bool :=
  (bif (decide (a0.hi.val < 0)) then ((cu64 0), false) else F_impl_WideSqrt_L0 65 a0 (cu64 0) (c64 63))

def F_impl_SqrtFloor (a0 : I64) (a1 : I64) : I64 × Bool :=
  (bif (decide (a0.val < 0)) then ((c64 0), false) else (bif (decide (a1.val < 0)) then ((c64 0), false) else bindP (F_impl_WideMul a0 a1) fun r1 => bindP (F_impl_WideSqrt r1) fun r2 => ((w64 r2.1.val), r2.2)))

def F_impl_SqrtDown (a0 : I64) : I64 × Bool :=
  bindP (F_impl_ValidFix a0) fun r1 => (bif (!r1) then ((c64 0), false) else bindP (F_impl_SqrtFloor a0 (c64 4294967296)) fun r2 => bindP (F_impl_fixed r2.1 r2.2) fun r3 => (r3.1, r3.2))

def F_impl_SqrtUp (a0 : I64) : I64 × Bool :=
  bindP (F_impl_SqrtDown a0) fun r1 => (bif r1.2 then bindP (F_impl_WideMul r1.1 r1.1) fun r2 => bindP (F_impl_WideMul a0 (c64 4294967296)) fun r3 => (bif (!((r2.hi.val == r3.hi.val) && (r2.lo.val == r3.lo.val))) then bindP (F_impl_fixed (w64 (r1.1.val + 1)) r1.2) fun r4 => (r4.1, r4.2) else bindP (F_impl_fixed r1.1 r1.2) fun r5 => (r5.1, r5.2)) else bindP (F_impl_fixed r1.1 r1.2) fun r6 => (r6.1, r6.2))

def F_impl_SqrtI (a0 : Iv) : Iv :=
  bindP (F_impl_IsWhole a0) fun r1 => (bif r1 then bindP (F_impl_Whole) fun r2 => r2 else (bif (decide (a0.lo.val < 0)) then bindP (F_impl_Whole) fun r3 => r3 else bindP (F_impl_SqrtDown a0.lo) fun r4 => bindP (F_impl_SqrtUp a0.hi) fun r5 => (bif r4.2 then bindP (F_impl_bounded r4.1 r5.1 r5.2) fun r6 => r6 else bindP (F_impl_bounded r4.1 r5.1 false) fun r7 => r7)))

def F_impl_halved (a0 : Iv) : Iv :=
  bindP (F_impl_Integer (c64 1)) fun r1 => bindP (F_impl_Integer (c64 1)) fun r2 => bindP (F_impl_SqrI a0) fun r3 => bindP (F_impl_AddI r2 r3) fun r4 => bindP (F_impl_SqrtI r4) fun r5 => bindP (F_impl_AddI r1 r5) fun r6 => bindP (F_impl_DivI a0 r6) fun r7 => r7

def F_impl_FixFloor (a0 : I64) (a1 : I64) : I64 × Bool :=
  bindP (F_impl_MulDivFloor a0 (c64 4294967296) a1) fun r1 => bindP (F_impl_fixed r1.1 r1.2) fun r2 => (r2.1, r2.2)

def F_impl_mulDivCeil (a0 : I64) (a1 : I64) (a2 : I64) : I64 × Bool :=
  bindP (F_impl_WideMul a0 a1) fun r1 => bindP (F_impl_WideDiv r1 a2) fun r2 => (bif (!r2.2.2) then ((c64 0), false) else bindP (F_impl_WideInt r2.1) fun r3 => (bif (!r3.2) then ((c64 0), false) else (bif (decide (r2.2.1.val > 0)) then (bif (r3.1.val == 9223372036854775807) then ((c64 0), false) else (bif (decide (r2.2.1.val > 0)) then ((w64 (r3.1.val + 1)), true) else (r3.1, true))) else (bif (decide (r2.2.1.val > 0)) then ((w64 (r3.1.val + 1)), true) else (r3.1, true)))))

def F_impl_FixCeil (a0 : I64) (a1 : I64) : I64 × Bool :=
  bindP (F_impl_mulDivCeil a0 (c64 4294967296) a1) fun r1 => bindP (F_impl_fixed r1.1 r1.2) fun r2 => (r2.1, r2.2)

def F_impl_Quotient (a0 : I64) (a1 : I64) : Iv :=
  (bif (decide (a1.val < 0)) then (bif (decide ((w64 (0 - a1.val)).val < 0)) then bindP (F_impl_Whole) fun r1 => r1 else (bif ((w64 (0 - a0.val)).val == (-9223372036854775808)) then bindP (F_impl_Whole) fun r2 => r2 else bindP (F_impl_FixFloor (w64 (0 - a0.val)) (w64 (0 - a1.val))) fun r3 => bindP (F_impl_FixCeil (w64 (0 - a0.val)) (w64 (0 - a1.val))) fun r4 => (bif r3.2 then bindP (F_impl_bounded r3.1 r4.1 r4.2) fun r5 => r5 else bindP (F_impl_bounded r3.1 r4.1 false) fun r6 => r6))) else bindP (F_impl_FixFloor a0 a1) fun r7 => bindP (F_impl_FixCeil a0 a1) fun r8 => (bif r7.2 then bindP (F_impl_bounded r7.1 r8.1 r8.2) fun r9 => r9 else bindP (F_impl_bounded r7.1 r8.1 false) fun r10 => r10))

def F_impl_ArcSeries (a0 : Iv) : Iv :=
  bindP (F_impl_InsideI a0 (⟨(c64 (-1073741824)), (c64 1073741824)⟩ : Iv)) fun r1 => (bif (!r1) then bindP (F_impl_Whole) fun r2 => r2 else bindP (F_impl_SqrI a0) fun r3 => bindP (F_impl_Quotient (c64 1) (c64 21)) fun r4 => bindP (F_impl_Quotient (c64 1) (c64 19)) fun r5 => bindP (F_impl_MulI r3 r4) fun r6 => bindP (F_impl_SubI r5 r6) fun r7 => bindP (F_impl_Quotient (c64 1) (c64 17)) fun r8 => bindP (F_impl_MulI r3 r7) fun r9 => bindP (F_impl_SubI r8 r9) fun r10 => bindP (F_impl_Quotient (c64 1) (c64 15)) fun r11 => bindP (F_impl_MulI r3 r10) fun r12 => bindP (F_impl_SubI r11 r12) fun r13 => bindP (F_impl_Quotient (c64 1) (c64 13)) fun r14 => bindP (F_impl_MulI r3 r13) fun r15 => bindP (F_impl_SubI r14 r15) fun r16 => bindP (F_impl_Quotient (c64 1) (c64 11)) fun r17 => bindP (F_impl_MulI r3 r16) fun r18 => bindP (F_impl_SubI r17 r18) fun r19 => bindP (F_impl_Quotient (c64 1) (c64 9)) fun r20 => bindP (F_impl_MulI r3 r19) fun r21 => bindP (F_impl_SubI r20 r21) fun r22 => bindP (F_impl_Quotient (c64 1) (c64 7)) fun r23 => bindP (F_impl_MulI r3 r22) fun r24 => bindP (F_impl_SubI r23 r24) fun r25 => bindP (F_impl_Quotient (c64 1) (c64 5)) fun r26 => bindP (F_impl_MulI r3 r25) fun r27 => bindP (F_impl_SubI r26 r27) fun r28 => bindP (F_impl_Quotient (c64 1) (c64 3)) fun r29 => bindP (F_impl_MulI r3 r28) fun r30 => bindP (F_impl_SubI r29 r30) fun r31 => bindP (F_impl_Quotient (c64 1) (c64 1)) fun r32 => bindP (F_impl_MulI r3 r31) fun r33 => bindP (F_impl_SubI r32 r33) fun r34 => bindP (F_impl_MulI a0 r34) fun r35 => bindP (F_impl_tiny) fun r36 => bindP (F_impl_AddI r35 r36) fun r37 => r37)

def F_impl_DoubleI (a0 : Iv) : Iv :=
  bindP (F_impl_AddI a0 a0) fun r1 => r1

def F_impl_fourfold (a0 : Iv) : Iv :=
  bindP (F_impl_halved a0) fun r1 => bindP (F_impl_halved r1) fun r2 => bindP (F_impl_ArcSeries r2) fun r3 => bindP (F_impl_DoubleI r3) fun r4 => bindP (F_impl_DoubleI r4) fun r5 => r5

def F_impl_AtanAt_b (self : I64 → Iv) (a0 : I64) : Iv :=
  bindP (F_impl_isOpen a0) fun r1 => (bif (!r1) then bindP (F_impl_halfCircle) fun r3 => r3 else (bif (decide (a0.val < 0)) then bindP (self (w64 (0 - a0.val))) fun r5 => bindP (F_impl_NegI r5) fun r6 => r6 else (bif (decide (a0.val > 4294967296)) then bindP (F_impl_TurnI (c64 1)) fun r8 => bindP (F_impl_Integer (c64 1)) fun r9 => bindP (F_impl_at a0) fun r10 => bindP (F_impl_DivI r9 r10) fun r11 => bindP (F_impl_fourfold r11) fun r12 => bindP (F_impl_SubI r8 r12) fun r13 => r13 else bindP (F_impl_at a0) fun r14 => bindP (F_impl_fourfold r14) fun r15 => r15)))
def F_impl_AtanAt_r : Nat → I64 → Iv
  | 0, _ => (⟨(c64 0), (c64 0)⟩ : Iv)
  | fu + 1, a0 => F_impl_AtanAt_b (F_impl_AtanAt_r fu) a0
def F_impl_AtanAt (a0 : I64) : Iv := F_impl_AtanAt_r 2 a0

def F_impl_AtanI (a0 : Iv) : Iv :=
  bindP (F_impl_IsWhole a0) fun r1 => (bif r1 then bindP (F_impl_halfCircle) fun r2 => r2 else bindP (F_impl_AtanAt a0.lo) fun r3 => bindP (F_impl_AtanAt a0.hi) fun r4 => bindP (F_impl_HullI r3 r4) fun r5 => r5)

def F_impl_DirectionAt (a0 : I64) (a1 : I64) : Iv :=
  bindP (F_impl_isOpen a0) fun r1 => (bif (!r1) then bindP (F_impl_Whole) fun r2 => r2 else bindP (F_impl_isOpen a1) fun r3 => (bif (!r3) then bindP (F_impl_Whole) fun r4 => r4 else (bif (a0.val == 0) then (bif (a1.val == 0) then bindP (F_impl_Whole) fun r5 => r5 else bindP (F_impl_abs a0) fun r6 => bindP (F_impl_abs a1) fun r7 => (bif (decide (r6.val > r7.val)) then bindP (F_impl_TurnI (c64 1)) fun r8 => (bif (decide (a0.val < 0)) then bindP (F_impl_TurnI (c64 (-1))) fun r9 => bindP (F_impl_at a1) fun r10 => bindP (F_impl_at a0) fun r11 => bindP (F_impl_DivI r10 r11) fun r12 => bindP (F_impl_AtanI r12) fun r13 => bindP (F_impl_SubI r9 r13) fun r14 => r14 else bindP (F_impl_at a1) fun r15 => bindP (F_impl_at a0) fun r16 => bindP (F_impl_DivI r15 r16) fun r17 => bindP (F_impl_AtanI r17) fun r18 => bindP (F_impl_SubI r8 r18) fun r19 => r19) else bindP (F_impl_at a0) fun r20 => bindP (F_impl_at a1) fun r21 => bindP (F_impl_DivI r20 r21) fun r22 => bindP (F_impl_AtanI r22) fun r23 => (bif (decide (a1.val > 0)) then r23 else (bif (decide (a0.val < 0)) then bindP (F_impl_TurnI (c64 (-2))) fun r24 => bindP (F_impl_AddI r23 r24) fun r25 => r25 else bindP (F_impl_TurnI (c64 2)) fun r26 => bindP (F_impl_AddI r23 r26) fun r27 => r27)))) else bindP (F_impl_abs a0) fun r28 => bindP (F_impl_abs a1) fun r29 => (bif (decide (r28.val > r29.val)) then bindP (F_impl_TurnI (c64 1)) fun r30 => (bif (decide (a0.val < 0)) then bindP (F_impl_TurnI (c64 (-1))) fun r31 => bindP (F_impl_at a1) fun r32 => bindP (F_impl_at a0) fun r33 => bindP (F_impl_DivI r32 r33) fun r34 => bindP (F_impl_AtanI r34) fun r35 => bindP (F_impl_SubI r31 r35) fun r36 => r36 else bindP (F_impl_at a1) fun r37 => bindP (F_impl_at a0) fun r38 => bindP (F_impl_DivI r37 r38) fun r39 => bindP (F_impl_AtanI r39) fun r40 => bindP (F_impl_SubI r30 r40) fun r41 => r41) else bindP (F_impl_at a0) fun r42 => bindP (F_impl_at a1) fun r43 => bindP (F_impl_DivI r42 r43) fun r44 => bindP (F_impl_AtanI r44) fun r45 => (bif (decide (a1.val > 0)) then r45 else (bif (decide (a0.val < 0)) then bindP (F_impl_TurnI (c64 (-2))) fun r46 => bindP (F_impl_AddI r45 r46) fun r47 => r47 else bindP (F_impl_TurnI (c64 2)) fun r48 => bindP (F_impl_AddI r45 r48) fun r49 => r49))))))

def F_impl_DirectionI (a0 : Iv) (a1 : Iv) : Iv :=
  bindP (F_impl_areBounded a0 a1) fun r1 => (bif (!r1) then bindP (F_impl_Whole) fun r2 => r2 else bindP (F_impl_HasI a0 (c64 0)) fun r3 => (bif r3 then bindP (F_impl_HasI a1 (c64 0)) fun r4 => (bif r4 then bindP (F_impl_Whole) fun r5 => r5 else (bif (decide (a1.lo.val < 0)) then (bif (decide (a0.lo.val < 0)) then (bif (decide (a0.hi.val ≥ 0)) then bindP (F_impl_Whole) fun r6 => r6 else bindP (F_impl_DirectionAt a0.lo a1.lo) fun r7 => bindP (F_impl_DirectionAt a0.lo a1.hi) fun r8 => bindP (F_impl_HullI r7 r8) fun r9 => bindP (F_impl_DirectionAt a0.hi a1.lo) fun r10 => bindP (F_impl_DirectionAt a0.hi a1.hi) fun r11 => bindP (F_impl_HullI r10 r11) fun r12 => bindP (F_impl_HullI r9 r12) fun r13 => r13) else bindP (F_impl_DirectionAt a0.lo a1.lo) fun r14 => bindP (F_impl_DirectionAt a0.lo a1.hi) fun r15 => bindP (F_impl_HullI r14 r15) fun r16 => bindP (F_impl_DirectionAt a0.hi a1.lo) fun r17 => bindP (F_impl_DirectionAt a0.hi a1.hi) fun r18 => bindP (F_impl_HullI r17 r18) fun r19 => bindP (F_impl_HullI r16 r19) fun r20 => r20) else bindP (F_impl_DirectionAt a0.lo a1.lo) fun r21 => bindP (F_impl_DirectionAt a0.lo a1.hi) fun r22 => bindP (F_impl_HullI r21 r22) fun r23 => bindP (F_impl_DirectionAt a0.hi a1.lo) fun r24 => bindP (F_impl_DirectionAt a0.hi a1.hi) fun r25 => bindP (F_impl_HullI r24 r25) fun r26 => bindP (F_impl_HullI r23 r26) fun r27 => r27)) else (bif (decide (a1.lo.val < 0)) then (bif (decide (a0.lo.val < 0)) then (bif (decide (a0.hi.val ≥ 0)) then bindP (F_impl_Whole) fun r28 => r28 else bindP (F_impl_DirectionAt a0.lo a1.lo) fun r29 => bindP (F_impl_DirectionAt a0.lo a1.hi) fun r30 => bindP (F_impl_HullI r29 r30) fun r31 => bindP (F_impl_DirectionAt a0.hi a1.lo) fun r32 => bindP (F_impl_DirectionAt a0.hi a1.hi) fun r33 => bindP (F_impl_HullI r32 r33) fun r34 => bindP (F_impl_HullI r31 r34) fun r35 => r35) else bindP (F_impl_DirectionAt a0.lo a1.lo) fun r36 => bindP (F_impl_DirectionAt a0.lo a1.hi) fun r37 => bindP (F_impl_HullI r36 r37) fun r38 => bindP (F_impl_DirectionAt a0.hi a1.lo) fun r39 => bindP (F_impl_DirectionAt a0.hi a1.hi) fun r40 => bindP (F_impl_HullI r39 r40) fun r41 => bindP (F_impl_HullI r38 r41) fun r42 => r42) else bindP (F_impl_DirectionAt a0.lo a1.lo) fun r43 => bindP (F_impl_DirectionAt a0.lo a1.hi) fun r44 => bindP (F_impl_HullI r43 r44) fun r45 => bindP (F_impl_DirectionAt a0.hi a1.lo) fun r46 => bindP (F_impl_DirectionAt a0.hi a1.hi) fun r47 => bindP (F_impl_HullI r46 r47) fun r48 => bindP (F_impl_HullI r45 r48) fun r49 => r49)))

def F_impl_knownI (a0 : Iv) : Iv × I64 :=
  bindP (F_impl_IsWhole a0) fun r1 => (bif r1 then ((⟨(c64 0), (c64 0)⟩ : Iv), (c64 9)) else (a0, (c64 0)))

def F_impl_AzimuthTo (a0 : Pt) (a1 : Pt) : Iv × I64 :=
  bindP (F_impl_areValid a0 a1) fun r1 => (bif (!r1) then ((⟨(c64 0), (c64 0)⟩ : Iv), (c64 1)) else bindP (F_impl_LatOf a0) fun r2 => bindP (F_impl_LatOf a1) fun r3 => bindP (F_impl_differenceOf a0 a1) fun r4 => bindP (F_impl_localOf r2 r3 r4) fun r5 => bindP (F_impl_DirectionI r5.x r5.y) fun r6 => bindP (F_impl_knownI r6) fun r7 => (r7.1, r7.2))

def F_impl_LonOf (a0 : Pt) : Iv :=
  bindP (F_impl_ValidPoint a0) fun r1 => (bif (!r1) then bindP (F_impl_Whole) fun r2 => r2 else bindP (F_impl_RadiansOf a0.lon) fun r3 => r3)

def F_impl_vectorOf (a0 : Pt) : Vc :=
  bindP (F_impl_LatOf a0) fun r1 => bindP (F_impl_LonOf a0) fun r2 => bindP (F_impl_CosI r1) fun r3 => bindP (F_impl_CosI r2) fun r4 => bindP (F_impl_MulI r3 r4) fun r5 => bindP (F_impl_CosI r1) fun r6 => bindP (F_impl_SinI r2) fun r7 => bindP (F_impl_MulI r6 r7) fun r8 => bindP (F_impl_SinI r1) fun r9 => (⟨r5, r8, r9⟩ : Vc)

def F_impl_CrossV (a0 : Vc) (a1 : Vc) : Vc :=
  bindP (F_impl_MulI a0.y a1.z) fun r1 => bindP (F_impl_MulI a0.z a1.y) fun r2 => bindP (F_impl_SubI r1 r2) fun r3 => bindP (F_impl_MulI a0.z a1.x) fun r4 => bindP (F_impl_MulI a0.x a1.z) fun r5 => bindP (F_impl_SubI r4 r5) fun r6 => bindP (F_impl_MulI a0.x a1.y) fun r7 => bindP (F_impl_MulI a0.y a1.x) fun r8 => bindP (F_impl_SubI r7 r8) fun r9 => (⟨r3, r6, r9⟩ : Vc)

def F_impl_WideAdd (a0 : Wd) (a1 : Wd) : Wd × Bool :=
  (bif (decide ((iand .i64 (ixor .i64 a0.hi.val (w64 (adc_lo (wu64 a0.hi.val) (wu64 a1.hi.val) (adc_hi a0.lo a1.lo (cu64 0))).val).val).val (ixor .i64 a1.hi.val (w64 (adc_lo (wu64 a0.hi.val) (wu64 a1.hi.val) (adc_hi a0.lo a1.lo (cu64 0))).val).val).val).val < 0)) then ((⟨(c64 0), (cu64 0)⟩ : Wd), false) else ((⟨(w64 (adc_lo (wu64 a0.hi.val) (wu64 a1.hi.val) (adc_hi a0.lo a1.lo (cu64 0))).val), (adc_lo a0.lo a1.lo (cu64 0))⟩ : Wd), true))

def F_impl_rootOfSquares (a0 : I64) (a1 : I64) (a2 : I64) : I64 × I64 :=
  bindP (F_impl_WideMul a0 a0) fun r1 => bindP (F_impl_WideMul a1 a1) fun r2 => bindP (F_impl_WideAdd r1 r2) fun r3 => bindP (F_impl_WideMul a2 a2) fun r4 => bindP (F_impl_WideAdd r3.1 r4) fun r5 => bindP (F_impl_WideSqrt r5.1) fun r6 => bindP (F_impl_WideMul (w64 r6.1.val) (w64 r6.1.val)) fun r7 => (bif (!((r7.hi.val == r5.1.hi.val) && (r7.lo.val == r5.1.lo.val))) then ((w64 r6.1.val), (w64 ((w64 r6.1.val).val + 1))) else ((w64 r6.1.val), (w64 r6.1.val)))

def F_impl_NormV (a0 : Vc) : Iv :=
  bindP (F_impl_areBounded a0.x a0.y) fun r1 => (bif (!r1) then bindP (F_impl_Whole) fun r2 => r2 else bindP (F_impl_IsWhole a0.z) fun r3 => (bif r3 then bindP (F_impl_Whole) fun r4 => r4 else bindP (F_impl_AbsI a0.x) fun r5 => bindP (F_impl_AbsI a0.y) fun r6 => bindP (F_impl_AbsI a0.z) fun r7 => bindP (F_impl_rootOfSquares r5.lo r6.lo r7.lo) fun r8 => bindP (F_impl_rootOfSquares r5.hi r6.hi r7.hi) fun r9 => bindP (F_impl_bounded r8.1 r9.2 true) fun r10 => r10))

def F_impl_DotV (a0 : Vc) (a1 : Vc) : Iv :=
  bindP (F_impl_MulI a0.x a1.x) fun r1 => bindP (F_impl_MulI a0.y a1.y) fun r2 => bindP (F_impl_AddI r1 r2) fun r3 => bindP (F_impl_MulI a0.z a1.z) fun r4 => bindP (F_impl_AddI r3 r4) fun r5 => r5

def F_impl_AngleBetween (a0 : Pt) (a1 : Pt) : Iv × I64 :=
  bindP (F_impl_areValid a0 a1) fun r1 => (bif (!r1) then ((⟨(c64 0), (c64 0)⟩ : Iv), (c64 1)) else bindP (F_impl_vectorOf a0) fun r2 => bindP (F_impl_vectorOf a1) fun r3 => bindP (F_impl_CrossV r2 r3) fun r4 => bindP (F_impl_NormV r4) fun r5 => bindP (F_impl_DotV r2 r3) fun r6 => bindP (F_impl_DirectionI r5 r6) fun r7 => bindP (F_impl_knownI r7) fun r8 => (r8.1, r8.2))

def F_spec_l00In (a0 : I64) (a1 : I64) (a2 : I64) : Bool :=
  (bif (decide (a0.val ≥ a1.val)) then (decide (a0.val ≤ a2.val)) else false)

def F_spec_l11Ok (a0 : Pt) : Bool :=
  bindP (F_spec_l00In a0.lat (c64 (-900000000)) (c64 900000000)) fun r1 => (bif r1 then bindP (F_spec_l00In a0.lon (c64 (-1799999999)) (c64 1800000000)) fun r2 => r2 else false)

def F_spec_l04Whole : Iv :=
  (⟨(c64 (-1152921504606846976)), (c64 1152921504606846976)⟩ : Iv)

def F_spec_Whole : Iv :=
  bindP (F_spec_l04Whole) fun r1 => r1

def F_spec_l04Ok (a0 : Iv) : Bool :=
  (bif (decide ((-1152921504606846976) < a0.lo.val)) then (bif (decide (a0.lo.val ≤ a0.hi.val)) then (decide (a0.hi.val < 1152921504606846976)) else false) else false)

def F_spec_l04Make (a0 : I64) (a1 : I64) : Iv :=
  bindP (F_spec_l04Ok (⟨a0, a1⟩ : Iv)) fun r1 => (bif (!r1) then bindP (F_spec_l04Whole) fun r2 => r2 else (⟨a0, a1⟩ : Iv))

def F_spec_NegI (a0 : Iv) : Iv :=
  bindP (F_spec_l04Ok a0) fun r1 => (bif (!r1) then bindP (F_spec_l04Whole) fun r2 => r2 else bindP (F_spec_l04Make (w64 (0 - a0.hi.val)) (w64 (0 - a0.lo.val))) fun r3 => r3)

def F_spec_l02Size (a0 : I64) : U64 :=
  (bif (decide (a0.val < 0)) then (wu64 (0 - (wu64 a0.val).val)) else (wu64 a0.val))

def F_spec_l02Times (a0 : U64) (a1 : U64) : U64 × U64 :=
  ((wu64 ((wu64 ((wu64 ((ishr a0 32).val * (ishr a1 32).val)).val + (ishr (wu64 ((wu64 ((ishr a0 32).val * (iand .u64 a1.val 4294967295).val)).val + (ishr (wu64 ((iand .u64 a0.val 4294967295).val * (iand .u64 a1.val 4294967295).val)) 32).val)) 32).val)).val + (ishr (wu64 ((wu64 ((iand .u64 a0.val 4294967295).val * (ishr a1 32).val)).val + (iand .u64 (wu64 ((wu64 ((ishr a0 32).val * (iand .u64 a1.val 4294967295).val)).val + (ishr (wu64 ((iand .u64 a0.val 4294967295).val * (iand .u64 a1.val 4294967295).val)) 32).val)).val 4294967295).val)) 32).val)), (wu64 (a0.val * a1.val)))

def F_spec_l02Minus (a0 : Wd) : Wd :=
  (bif (a0.lo.val == 0) then (⟨(w64 (0 - a0.hi.val)), (wu64 (0 - a0.lo.val))⟩ : Wd) else (⟨(inot .i64 a0.hi.val), (wu64 (0 - a0.lo.val))⟩ : Wd))

def F_spec_l02Mul (a0 : I64) (a1 : I64) : Wd :=
  bindP (F_spec_l02Size a0) fun r1 => bindP (F_spec_l02Size a1) fun r2 => bindP (F_spec_l02Times r1 r2) fun r3 => (bif (!((decide (a0.val < 0)) == (decide (a1.val < 0)))) then bindP (F_spec_l02Minus (⟨(w64 r3.1.val), r3.2⟩ : Wd)) fun r4 => r4 else (⟨(w64 r3.1.val), r3.2⟩ : Wd))

def F_spec_l02Divide_L0 : Nat → U64 → U64 → U64 → U64 → U64 → I64 → U64 × U64 × U64
  | 0, _, _, _, _, _, _ => ((cu64 0), (cu64 0), (cu64 0))
  | fu + 1, a1, a2, x_qhi, x_rest, x_q, x_i => (bif (decide (x_i.val ≥ 0)) then (bif ((ishr x_rest 63).val == 1) then F_spec_l02Divide_L0 fu a1 a2 x_qhi (wu64 ((ior .u64 (ishl .u64 x_rest.val 1).val (iand .u64 (ishr a1 (wu64 x_i.val).val).val 1).val).val - a2.val)) (ior .u64 (ishl .u64 x_q.val 1).val 1) (w64 (x_i.val - 1)) else (bif (decide ((ior .u64 (ishl .u64 x_rest.val 1).val (iand .u64 (ishr a1 (wu64 x_i.val).val).val 1).val).val ≥ a2.val)) then F_spec_l02Divide_L0 fu a1 a2 x_qhi (wu64 ((ior .u64 (ishl .u64 x_rest.val 1).val (iand .u64 (ishr a1 (wu64 x_i.val).val).val 1).val).val - a2.val)) (ior .u64 (ishl .u64 x_q.val 1).val 1) (w64 (x_i.val - 1)) else F_spec_l02Divide_L0 fu a1 a2 x_qhi (ior .u64 (ishl .u64 x_rest.val 1).val (iand .u64 (ishr a1 (wu64 x_i.val).val).val 1).val) (ishl .u64 x_q.val 1) (w64 (x_i.val - 1)))) else (x_qhi, x_q, x_rest))

def F_spec_l02Divide (a0 : U64) (a1 : U64) (a2 : U64) : U64 × U64 × U64 :=
  F_spec_l02Divide_L0 65 a1 a2 (wu64 (Int.tdiv a0.val a2.val)) (imod a0 a2.val) (cu64 0) (c64 63)

end Go.Proofs.YtcdkepbgjgcjfaaGreat.Abs
