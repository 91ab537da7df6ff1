/- The functions, on numbers; part 1 (written by w.py). -/
import Derived.Test.YtcdkepbgjgcjfaaGreatPsF0
set_option linter.unusedVariables false
set_option linter.unusedSimpArgs false
namespace Go.Proofs.YtcdkepbgjgcjfaaGreat.Abs
open Go Go.RowKit

def F_impl_fixed (a0 : I64) (a1 : Bool) : I64 × Bool :=
  (bif (!a1) then ((c64 0), false) else bindP (F_impl_ValidFix a0) fun r1 => (bif (!r1) then ((c64 0), false) else (a0, true)))

def F_impl_MulDown (a0 : I64) (a1 : I64) : I64 × Bool :=
  bindP (F_impl_ValidFix a0) fun r1 => (bif (!r1) then ((c64 0), false) else bindP (F_impl_ValidFix a1) fun r2 => (bif (!r2) then ((c64 0), false) else bindP (F_impl_MulFloor a0 a1 (c64 32)) fun r3 => bindP (F_impl_fixed r3.1 r3.2) fun r4 => (r4.1, r4.2)))

def F_impl_MulUp (a0 : I64) (a1 : I64) : I64 × Bool :=
  bindP (F_impl_ValidFix a0) fun r1 => (bif (!r1) then ((c64 0), false) else bindP (F_impl_ValidFix a1) fun r2 => (bif (!r2) then ((c64 0), false) else bindP (F_impl_MulDown (w64 (0 - a0.val)) a1) fun r3 => ((w64 (0 - r3.1.val)), r3.2)))

def F_impl_SqrI (a0 : Iv) : Iv :=
  bindP (F_impl_IsWhole a0) fun r1 => (bif r1 then bindP (F_impl_Whole) fun r2 => r2 else bindP (F_impl_AbsI a0) fun r3 => bindP (F_impl_MulDown r3.lo r3.lo) fun r4 => bindP (F_impl_MulUp r3.hi r3.hi) fun r5 => (bif r4.2 then bindP (F_impl_bounded r4.1 r5.1 r5.2) fun r6 => r6 else bindP (F_impl_bounded r4.1 r5.1 false) fun r7 => r7))

def F_impl_DivDown (a0 : I64) (a1 : I64) : I64 × Bool :=
  bindP (F_impl_ValidFix a0) fun r1 => (bif (!r1) then ((c64 0), false) else bindP (F_impl_ValidFix a1) fun r2 => (bif (!r2) then ((c64 0), false) else (bif (decide (a1.val < 0)) then bindP (F_impl_MulDivFloor (w64 (0 - a0.val)) (c64 4294967296) (w64 (0 - a1.val))) fun r3 => bindP (F_impl_fixed r3.1 r3.2) fun r4 => (r4.1, r4.2) else bindP (F_impl_MulDivFloor a0 (c64 4294967296) a1) fun r5 => bindP (F_impl_fixed r5.1 r5.2) fun r6 => (r6.1, r6.2))))

def F_impl_DivUp (a0 : I64) (a1 : I64) : I64 × Bool :=
  bindP (F_impl_ValidFix a0) fun r1 => (bif (!r1) then ((c64 0), false) else bindP (F_impl_ValidFix a1) fun r2 => (bif (!r2) then ((c64 0), false) else bindP (F_impl_DivDown (w64 (0 - a0.val)) a1) fun r3 => ((w64 (0 - r3.1.val)), r3.2)))

def F_impl_combine__impl_DivDown__impl_DivUp (a0 : Iv) (a1 : Iv) : Iv :=
  bindP (F_impl_DivDown a0.lo a1.lo) fun r1 => bindP (F_impl_DivUp a0.lo a1.lo) fun r2 => (bif (!r1.2) then bindP (F_impl_Whole) fun r3 => r3 else (bif (!r2.2) then bindP (F_impl_Whole) fun r4 => r4 else bindP (F_impl_DivDown a0.lo a1.hi) fun r5 => bindP (F_impl_DivUp a0.lo a1.hi) fun r6 => (bif (!r5.2) then bindP (F_impl_Whole) fun r7 => r7 else (bif (!r6.2) then bindP (F_impl_Whole) fun r8 => r8 else bindP (F_impl_DivDown a0.hi a1.lo) fun r9 => bindP (F_impl_DivUp a0.hi a1.lo) fun r10 => (bif (!r9.2) then bindP (F_impl_Whole) fun r11 => r11 else (bif (!r10.2) then bindP (F_impl_Whole) fun r12 => r12 else bindP (F_impl_DivDown a0.hi a1.hi) fun r13 => bindP (F_impl_DivUp a0.hi a1.hi) fun r14 => (bif (!r13.2) then bindP (F_impl_Whole) fun r15 => r15 else (bif (!r14.2) then bindP (F_impl_Whole) fun r16 => r16 else bindP (F_impl_bounded (mn (mn (mn (mn r1.1 r1.1) r5.1) r9.1) r13.1) (mx (mx (mx (mx r2.1 r2.1) r6.1) r10.1) r14.1) true) fun r17 => r17))))))))

def F_impl_DivI (a0 : Iv) (a1 : Iv) : Iv :=
  bindP (F_impl_areBounded a0 a1) fun r1 => (bif (!r1) then bindP (F_impl_Whole) fun r2 => r2 else bindP (F_impl_HasI a1 (c64 0)) fun r3 => (bif r3 then bindP (F_impl_Whole) fun r4 => r4 else bindP (F_impl_combine__impl_DivDown__impl_DivUp a0 a1) fun r5 => r5))

def F_impl_combine__impl_MulDown__impl_MulUp (a0 : Iv) (a1 : Iv) : Iv :=
  bindP (F_impl_MulDown a0.lo a1.lo) fun r1 => bindP (F_impl_MulUp a0.lo a1.lo) fun r2 => (bif (!r1.2) then bindP (F_impl_Whole) fun r3 => r3 else (bif (!r2.2) then bindP (F_impl_Whole) fun r4 => r4 else bindP (F_impl_MulDown a0.lo a1.hi) fun r5 => bindP (F_impl_MulUp a0.lo a1.hi) fun r6 => (bif (!r5.2) then bindP (F_impl_Whole) fun r7 => r7 else (bif (!r6.2) then bindP (F_impl_Whole) fun r8 => r8 else bindP (F_impl_MulDown a0.hi a1.lo) fun r9 => bindP (F_impl_MulUp a0.hi a1.lo) fun r10 => (bif (!r9.2) then bindP (F_impl_Whole) fun r11 => r11 else (bif (!r10.2) then bindP (F_impl_Whole) fun r12 => r12 else bindP (F_impl_MulDown a0.hi a1.hi) fun r13 => bindP (F_impl_MulUp a0.hi a1.hi) fun r14 => (bif (!r13.2) then bindP (F_impl_Whole) fun r15 => r15 else (bif (!r14.2) then bindP (F_impl_Whole) fun r16 => r16 else bindP (F_impl_bounded (mn (mn (mn (mn r1.1 r1.1) r5.1) r9.1) r13.1) (mx (mx (mx (mx r2.1 r2.1) r6.1) r10.1) r14.1) true) fun r17 => r17))))))))

def F_impl_MulI (a0 : Iv) (a1 : Iv) : Iv :=
  bindP (F_impl_areBounded a0 a1) fun r1 => (bif (!r1) then bindP (F_impl_Whole) fun r2 => r2 else bindP (F_impl_combine__impl_MulDown__impl_MulUp a0 a1) fun r3 => r3)

def F_impl_series (a0 : Iv) (a1 : I64) : Iv :=
  bindP (F_impl_Integer (c64 1)) fun r1 => bindP (F_impl_Integer (c64 1)) fun r2 => bindP (F_impl_Integer (w64 ((w64 (a1.val + 14)).val * (w64 ((w64 (a1.val + 14)).val + 1)).val))) fun r3 => bindP (F_impl_DivI a0 r3) fun r4 => bindP (F_impl_MulI r4 r1) fun r5 => bindP (F_impl_SubI r2 r5) fun r6 => bindP (F_impl_Integer (c64 1)) fun r7 => bindP (F_impl_Integer (w64 ((w64 (a1.val + 12)).val * (w64 ((w64 (a1.val + 12)).val + 1)).val))) fun r8 => bindP (F_impl_DivI a0 r8) fun r9 => bindP (F_impl_MulI r9 r6) fun r10 => bindP (F_impl_SubI r7 r10) fun r11 => bindP (F_impl_Integer (c64 1)) fun r12 => bindP (F_impl_Integer (w64 ((w64 (a1.val + 10)).val * (w64 ((w64 (a1.val + 10)).val + 1)).val))) fun r13 => bindP (F_impl_DivI a0 r13) fun r14 => bindP (F_impl_MulI r14 r11) fun r15 => bindP (F_impl_SubI r12 r15) fun r16 => bindP (F_impl_Integer (c64 1)) fun r17 => bindP (F_impl_Integer (w64 ((w64 (a1.val + 8)).val * (w64 ((w64 (a1.val + 8)).val + 1)).val))) fun r18 => bindP (F_impl_DivI a0 r18) fun r19 => bindP (F_impl_MulI r19 r16) fun r20 => bindP (F_impl_SubI r17 r20) fun r21 => bindP (F_impl_Integer (c64 1)) fun r22 => bindP (F_impl_Integer (w64 ((w64 (a1.val + 6)).val * (w64 ((w64 (a1.val + 6)).val + 1)).val))) fun r23 => bindP (F_impl_DivI a0 r23) fun r24 => bindP (F_impl_MulI r24 r21) fun r25 => bindP (F_impl_SubI r22 r25) fun r26 => bindP (F_impl_Integer (c64 1)) fun r27 => bindP (F_impl_Integer (w64 ((w64 (a1.val + 4)).val * (w64 ((w64 (a1.val + 4)).val + 1)).val))) fun r28 => bindP (F_impl_DivI a0 r28) fun r29 => bindP (F_impl_MulI r29 r26) fun r30 => bindP (F_impl_SubI r27 r30) fun r31 => bindP (F_impl_Integer (c64 1)) fun r32 => bindP (F_impl_Integer (w64 ((w64 (a1.val + 2)).val * (w64 ((w64 (a1.val + 2)).val + 1)).val))) fun r33 => bindP (F_impl_DivI a0 r33) fun r34 => bindP (F_impl_MulI r34 r31) fun r35 => bindP (F_impl_SubI r32 r35) fun r36 => bindP (F_impl_Integer (c64 1)) fun r37 => bindP (F_impl_Integer (w64 ((w64 (a1.val + 0)).val * (w64 ((w64 (a1.val + 0)).val + 1)).val))) fun r38 => bindP (F_impl_DivI a0 r38) fun r39 => bindP (F_impl_MulI r39 r36) fun r40 => bindP (F_impl_SubI r37 r40) fun r41 => r41

def F_impl_tiny : Iv :=
  (⟨(c64 (-1)), (c64 1)⟩ : Iv)

def F_impl_SinSeries (a0 : Iv) : Iv :=
  bindP (F_impl_ring) fun r1 => bindP (F_impl_InsideI a0 r1) fun r2 => (bif (!r2) then bindP (F_impl_Whole) fun r3 => r3 else bindP (F_impl_SqrI a0) fun r4 => bindP (F_impl_series r4 (c64 2)) fun r5 => bindP (F_impl_MulI a0 r5) fun r6 => bindP (F_impl_tiny) fun r7 => bindP (F_impl_AddI r6 r7) fun r8 => r8)

def F_impl_MeetI (a0 : Iv) (a1 : Iv) : Iv × Bool :=
  bindP (F_impl_IsWhole a0) fun r1 => (bif r1 then bindP (F_impl_IsWhole a1) fun r2 => (bif r2 then bindP (F_impl_Whole) fun r3 => (r3, true) else bindP (F_impl_IsWhole a0) fun r4 => (bif r4 then (a1, true) else bindP (F_impl_IsWhole a1) fun r5 => (bif r5 then (a0, true) else (bif (decide ((mx a0.lo a1.lo).val > (mn a0.hi a1.hi).val)) then ((⟨(c64 0), (c64 0)⟩ : Iv), false) else ((⟨(mx a0.lo a1.lo), (mn a0.hi a1.hi)⟩ : Iv), true))))) else bindP (F_impl_IsWhole a0) fun r6 => (bif r6 then (a1, true) else bindP (F_impl_IsWhole a1) fun r7 => (bif r7 then (a0, true) else (bif (decide ((mx a0.lo a1.lo).val > (mn a0.hi a1.hi).val)) then ((⟨(c64 0), (c64 0)⟩ : Iv), false) else ((⟨(mx a0.lo a1.lo), (mn a0.hi a1.hi)⟩ : Iv), true)))))

def F_impl_inRing (a0 : Iv) : Iv :=
  bindP (F_impl_ring) fun r1 => bindP (F_impl_MeetI a0 r1) fun r2 => r2.1

def F_impl_CosSeries (a0 : Iv) : Iv :=
  bindP (F_impl_ring) fun r1 => bindP (F_impl_InsideI a0 r1) fun r2 => (bif (!r2) then bindP (F_impl_Whole) fun r3 => r3 else bindP (F_impl_SqrI a0) fun r4 => bindP (F_impl_series r4 (c64 1)) fun r5 => bindP (F_impl_tiny) fun r6 => bindP (F_impl_AddI r5 r6) fun r7 => r7)

def F_impl_circleValue (a0 : I64) (a1 : I64) : Iv :=
  bindP (F_impl_isAngle a0) fun r1 => (bif (!r1) then bindP (F_impl_ring) fun r2 => r2 else bindP (F_impl_QuarterOf a0) fun r3 => bindP (F_impl_at a0) fun r4 => bindP (F_impl_TurnI r3) fun r5 => bindP (F_impl_SubI r4 r5) fun r6 => (bif ((iand .i64 (w64 (r3.val + a1.val)).val 3).val == 0) then bindP (F_impl_SinSeries r6) fun r7 => bindP (F_impl_inRing r7) fun r8 => r8 else (bif ((iand .i64 (w64 (r3.val + a1.val)).val 3).val == 1) then bindP (F_impl_CosSeries r6) fun r9 => bindP (F_impl_inRing r9) fun r10 => r10 else (bif ((iand .i64 (w64 (r3.val + a1.val)).val 3).val == 2) then bindP (F_impl_SinSeries r6) fun r11 => bindP (F_impl_NegI r11) fun r12 => bindP (F_impl_inRing r12) fun r13 => r13 else bindP (F_impl_CosSeries r6) fun r14 => bindP (F_impl_NegI r14) fun r15 => bindP (F_impl_inRing r15) fun r16 => r16))))

def F_impl_HullI (a0 : Iv) (a1 : Iv) : Iv :=
  bindP (F_impl_areBounded a0 a1) fun r1 => (bif (!r1) then bindP (F_impl_Whole) fun r2 => r2 else (⟨(mn a0.lo a1.lo), (mx a0.hi a1.hi)⟩ : Iv))

def F_impl_OverlapI (a0 : Iv) (a1 : Iv) : Bool :=
  bindP (F_impl_MeetI a0 a1) fun r1 => r1.2

def F_impl_turnsIn_L0 : Nat → Iv → I64 → List I64 → List I64
  | 0, _, _, acc => acc
  | fu + 1, a0, x_k, acc => bindP (F_impl_QuarterOf a0.hi) fun r1 => (bif (decide (x_k.val ≤ (w64 (r1.val + 1)).val)) then bindP (F_impl_TurnI x_k) fun r2 => bindP (F_impl_OverlapI r2 a0) fun r3 => (bif r3 then F_impl_turnsIn_L0 fu a0 (w64 (x_k.val + 1)) (acc ++ [x_k]) else F_impl_turnsIn_L0 fu a0 (w64 (x_k.val + 1)) acc) else acc)
def F_impl_turnsIn (a0 : Iv) : List I64 := bindP (F_impl_QuarterOf a0.lo) fun r1 => F_impl_turnsIn_L0 ((2000 - (w64 (r1.val - 1)).val).toNat + 1) a0 (w64 (r1.val - 1)) []

def F_impl_circleHull_L0 : Nat → I64 → List I64 → Iv → I64 → Iv → Iv
  | 0, _, _, _, _, _ => (⟨(c64 0), (c64 0)⟩ : Iv)
  | fu + 1, a1, r7, a0, x_24, y_2 => (bif (decide (x_24.val < (((r7.length : Nat) : Int)))) then (bif ((iand .i64 (w64 ((listAt r7 x_24).val + a1.val)).val 3).val == 1) then bindP (F_impl_Integer (c64 1)) fun r10 => bindP (F_impl_HullI y_2 r10) fun r11 => F_impl_circleHull_L0 fu a1 r7 a0 (w64 (x_24.val + 1)) r11 else (bif ((iand .i64 (w64 ((listAt r7 x_24).val + a1.val)).val 3).val == 3) then bindP (F_impl_Integer (c64 (-1))) fun r13 => bindP (F_impl_HullI y_2 r13) fun r14 => F_impl_circleHull_L0 fu a1 r7 a0 (w64 (x_24.val + 1)) r14 else F_impl_circleHull_L0 fu a1 r7 a0 (w64 (x_24.val + 1)) y_2)) else y_2)

def F_impl_circleHull (a0 : Iv) (a1 : I64) : Iv :=
  bindP (F_impl_areAngles a0) fun r1 => (bif (!r1) then bindP (F_impl_ring) fun r3 => r3 else bindP (F_impl_circleValue a0.lo a1) fun r4 => bindP (F_impl_circleValue a0.hi a1) fun r5 => bindP (F_impl_HullI r4 r5) fun r6 => bindP (F_impl_turnsIn a0) fun r7 => F_impl_circleHull_L0 (((r7.length : Nat) : Int).toNat + 1) a1 r7 a0 (c64 0) r6)

def F_impl_SinI (a0 : Iv) : Iv :=
  bindP (F_impl_circleHull a0 (c64 0)) fun r1 => r1

def F_impl_halfCircle : Iv :=
  bindP (F_impl_TurnI (c64 1)) fun r1 => bindP (F_impl_TurnI (c64 1)) fun r2 => (⟨(w64 (0 - r1.hi.val)), r2.hi⟩ : Iv)

def F_impl_quarter : I64 :=
  bindP (F_impl_TurnI (c64 1)) fun r1 => r1.hi

def F_impl_leftSide (a0 : I64) (a1 : I64) : Iv :=
  bindP (F_impl_at a1) fun r1 => (bif (a0.val == 14) then bindP (F_impl_at (w64 (2 * a1.val))) fun r2 => bindP (F_impl_SinI r2) fun r3 => bindP (F_impl_AddI r2 r3) fun r4 => r4 else bindP (F_impl_SinI r1) fun r5 => bindP (F_impl_AddI r1 r5) fun r6 => r6)

def F_impl_parameterAt_L1 : Nat → I64 → I64 → I64 → I64 → I64 → Iv
  | 0, _, _, _, _, _ => (⟨(c64 0), (c64 0)⟩ : Iv)
  | fu + 1, a0, a1, x_low, x_lowq, x_high => (bif (decide ((w64 (x_high.val - x_lowq.val)).val > 1)) then bindP (F_impl_leftSide a0 (ishr (w64 (x_lowq.val + x_high.val)) 1)) fun r13 => (bif (decide (r13.lo.val > a1.val)) then F_impl_parameterAt_L1 fu a0 a1 x_low x_lowq (ishr (w64 (x_lowq.val + x_high.val)) 1) else F_impl_parameterAt_L1 fu a0 a1 x_low (ishr (w64 (x_lowq.val + x_high.val)) 1) x_high) else (⟨x_low, x_high⟩ : Iv))

def F_impl_parameterAt_L0 : Nat → I64 → I64 → I64 → I64 → Iv
  | 0, _, _, _, _ => (⟨(c64 0), (c64 0)⟩ : Iv)
  | fu + 1, a0, a1, x_low, x_high => (bif (decide ((w64 (x_high.val - x_low.val)).val > 1)) then bindP (F_impl_leftSide a0 (ishr (w64 (x_low.val + x_high.val)) 1)) fun r9 => (bif (decide (r9.hi.val < a1.val)) then F_impl_parameterAt_L0 fu a0 a1 (ishr (w64 (x_low.val + x_high.val)) 1) x_high else F_impl_parameterAt_L0 fu a0 a1 x_low (ishr (w64 (x_low.val + x_high.val)) 1)) else bindP (F_impl_quarter) fun r11 => F_impl_parameterAt_L1 ((r11.val - x_low.val).toNat + 1) a0 a1 x_low x_low r11)

def F_impl_parameterAt_r : Nat → I64 → I64 → Iv
  | 0, _, _ => (⟨(c64 0), (c64 0)⟩ : Iv)
  | fu + 1, a0, a1 => bindP (F_impl_ValidFix a1) fun r1 => (bif (!r1) then bindP (F_impl_halfCircle) fun r3 => r3 else (bif (decide (a1.val < 0)) then bindP (F_impl_parameterAt_r fu a0 (w64 (0 - a1.val))) fun r5 => bindP (F_impl_NegI r5) fun r6 => r6 else bindP (F_impl_quarter) fun r7 => F_impl_parameterAt_L0 ((r7.val - (c64 0).val).toNat + 1) a0 a1 (c64 0) r7))
def F_impl_parameterAt (a0 : I64) (a1 : I64) : Iv := F_impl_parameterAt_r 2 a0 a1

def F_impl_ThetaOf (a0 : I64) (a1 : Iv) : Iv :=
  bindP (F_impl_isPseudo a0) fun r1 => (bif (!r1) then bindP (F_impl_Whole) fun r2 => r2 else (bif (a0.val == 13) then a1 else bindP (F_impl_leftFactor a0) fun r3 => bindP (F_impl_SinI a1) fun r4 => bindP (F_impl_MulI r3 r4) fun r5 => bindP (F_impl_parameterAt a0 r5.lo) fun r6 => bindP (F_impl_parameterAt a0 r5.hi) fun r7 => bindP (F_impl_HullI r6 r7) fun r8 => r8))

def F_impl_WideSqrt_L0 : Nat → Wd → U64 → I64 → U64 × Bool
  | 0, _, _, _ => ((cu64 0), false)
  | fu + 1, a0, x_root, x_i => (bif (decide (x_i.val ≥ 0)) then bindP (F_bits_Mul64 (ior .u64 x_root.val (ishl .u64 1 x_i.val).val) (ior .u64 x_root.val (ishl .u64 1 x_i.val).val)) fun r3 => (bif (decide (r3.1.val < (wu64 a0.hi.val).val)) then F_impl_WideSqrt_L0 fu a0 (ior .u64 x_root.val (ishl .u64 1 x_i.val).val) (w64 (x_i.val - 1)) else (bif (r3.1.val == (wu64 a0.hi.val).val) then (bif (decide (r3.2.val ≤ a0.lo.val)) then F_impl_WideSqrt_L0 fu a0 (ior .u64 x_root.val (ishl .u64 1 x_i.val).val) (w64 (x_i.val - 1)) else F_impl_WideSqrt_L0 fu a0 x_root (w64 (x_i.val - 1))) else F_impl_WideSqrt_L0 fu a0 x_root (w64 (x_i.val - 1)))) else (x_root, true))

def F_impl_WideSqrt (a0 : Wd) : U64 × Bool :=
  (bif (decide (a0.hi.val < 0)) then ((cu64 0), false) else F_impl_WideSqrt_L0 65 a0 (cu64 0) (c64 63))

def F_impl_SqrtFloor (a0 : I64) (a1 : I64) : I64 × Bool :=
  (bif (decide (a0.val < 0)) then ((c64 0), false) else (bif (decide (a1.val < 0)) then ((c64 0), false) else bindP (F_impl_WideMul a0 a1) fun r1 => bindP (F_impl_WideSqrt r1) fun r2 => ((w64 r2.1.val), r2.2)))

def F_impl_SqrtDown (a0 : I64) : I64 × Bool :=
  bindP (F_impl_ValidFix a0) fun r1 => (bif (!r1) then ((c64 0), false) else bindP (F_impl_SqrtFloor a0 (c64 4294967296)) fun r2 => bindP (F_impl_fixed r2.1 r2.2) fun r3 => (r3.1, r3.2))

def F_impl_SqrtUp (a0 : I64) : I64 × Bool :=
  bindP (F_impl_SqrtDown a0) fun r1 => (bif r1.2 then bindP (F_impl_WideMul r1.1 r1.1) fun r2 => bindP (F_impl_WideMul a0 (c64 4294967296)) fun r3 => (bif (!((r2.hi.val == r3.hi.val) && (r2.lo.val == r3.lo.val))) then bindP (F_impl_fixed (w64 (r1.1.val + 1)) r1.2) fun r4 => (r4.1, r4.2) else bindP (F_impl_fixed r1.1 r1.2) fun r5 => (r5.1, r5.2)) else bindP (F_impl_fixed r1.1 r1.2) fun r6 => (r6.1, r6.2))

def F_impl_SqrtI (a0 : Iv) : Iv :=
  bindP (F_impl_IsWhole a0) fun r1 => (bif r1 then bindP (F_impl_Whole) fun r2 => r2 else (bif (decide (a0.lo.val < 0)) then bindP (F_impl_Whole) fun r3 => r3 else bindP (F_impl_SqrtDown a0.lo) fun r4 => bindP (F_impl_SqrtUp a0.hi) fun r5 => (bif r4.2 then bindP (F_impl_bounded r4.1 r5.1 r5.2) fun r6 => r6 else bindP (F_impl_bounded r4.1 r5.1 false) fun r7 => r7)))

def F_impl_pseudoRadius (a0 : I64) : Iv :=
  (bif (a0.val == 14) then bindP (F_impl_Integer (c64 2)) fun r1 => bindP (F_impl_SqrtI r1) fun r2 => r2 else bindP (F_impl_Integer (c64 2)) fun r3 => bindP (F_impl_PiI) fun r4 => bindP (F_impl_AddI r3 r4) fun r5 => bindP (F_impl_SqrtI r5) fun r6 => r6)

def F_impl_CosI (a0 : Iv) : Iv :=
  bindP (F_impl_circleHull a0 (c64 1)) fun r1 => r1

def F_impl_times (a0 : I64) (a1 : Iv) : Iv :=
  bindP (F_impl_Integer a0) fun r1 => bindP (F_impl_MulI r1 a1) fun r2 => r2

def F_impl_parallelLength (a0 : I64) (a1 : Iv) : Iv :=
  bindP (F_impl_pseudoRadius a0) fun r1 => (bif (a0.val == 13) then bindP (F_impl_CosI a1) fun r2 => r2 else (bif (a0.val == 14) then bindP (F_impl_times (c64 2) r1) fun r3 => bindP (F_impl_CosI a1) fun r4 => bindP (F_impl_MulI r3 r4) fun r5 => bindP (F_impl_PiI) fun r6 => bindP (F_impl_DivI r5 r6) fun r7 => r7 else bindP (F_impl_Integer (c64 1)) fun r8 => bindP (F_impl_CosI a1) fun r9 => bindP (F_impl_AddI r8 r9) fun r10 => bindP (F_impl_DivI r10 r1) fun r11 => r11))

def F_impl_parallelHeight (a0 : I64) (a1 : Iv) : Iv :=
  bindP (F_impl_pseudoRadius a0) fun r1 => (bif (a0.val == 13) then a1 else (bif (a0.val == 14) then bindP (F_impl_SinI a1) fun r2 => bindP (F_impl_MulI r1 r2) fun r3 => r3 else bindP (F_impl_times (c64 2) a1) fun r4 => bindP (F_impl_DivI r4 r1) fun r5 => r5))

def F_impl_ParallelOf (a0 : I64) (a1 : Iv) : Iv × Iv :=
  bindP (F_impl_isPseudo a0) fun r1 => (bif (!r1) then bindP (F_impl_Whole) fun r2 => bindP (F_impl_Whole) fun r3 => (r2, r3) else bindP (F_impl_ThetaOf a0 a1) fun r4 => bindP (F_impl_parallelLength a0 r4) fun r5 => bindP (F_impl_parallelHeight a0 r4) fun r6 => (r5, r6))

def F_impl_WrapLon (a0 : I64) : I64 :=
  (bif (decide ((imod a0 3600000000).val > 1800000000)) then (w64 ((imod a0 3600000000).val - 3600000000)) else (bif (decide ((imod a0 3600000000).val ≤ (-1800000000))) then (w64 ((imod a0 3600000000).val + 3600000000)) else (imod a0 3600000000)))

def F_impl_LonFrom (a0 : Pj) (a1 : Pt) : Iv :=
  bindP (F_impl_ValidProjection a0) fun r1 => (bif (!r1) then bindP (F_impl_Whole) fun r2 => r2 else bindP (F_impl_ValidPoint a1) fun r3 => (bif (!r3) then bindP (F_impl_Whole) fun r4 => r4 else bindP (F_impl_WrapLon (w64 (a1.lon.val - a0.lon0.val))) fun r5 => bindP (F_impl_RadiansOf r5) fun r6 => r6))

def F_impl_planar (a0 : Iv) (a1 : Iv) : Pn × I64 :=
  bindP (F_impl_areBounded a0 a1) fun r1 => (bif (!r1) then ((⟨(⟨(c64 0), (c64 0)⟩ : Iv), (⟨(c64 0), (c64 0)⟩ : Iv)⟩ : Pn), (c64 9)) else ((⟨a0, a1⟩ : Pn), (c64 0)))

def F_impl_PseudoForward (a0 : Pj) (a1 : Pt) : Pn × I64 :=
  bindP (F_impl_isPseudoOne a0) fun r1 => (bif (!r1) then ((⟨(⟨(c64 0), (c64 0)⟩ : Iv), (⟨(c64 0), (c64 0)⟩ : Iv)⟩ : Pn), (c64 1)) else bindP (F_impl_ValidPoint a1) fun r2 => (bif (!r2) then ((⟨(⟨(c64 0), (c64 0)⟩ : Iv), (⟨(c64 0), (c64 0)⟩ : Iv)⟩ : Pn), (c64 1)) else bindP (F_impl_LatOf a1) fun r3 => bindP (F_impl_ParallelOf a0.kind r3) fun r4 => bindP (F_impl_LonFrom a0 a1) fun r5 => bindP (F_impl_MulI r5 r4.1) fun r6 => bindP (F_impl_planar r6 r4.2) fun r7 => (r7.1, r7.2)))

def F_spec_l00In (a0 : I64) (a1 : I64) (a2 : I64) : Bool :=
  (bif (decide (a0.val ≥ a1.val)) then (decide (a0.val ≤ a2.val)) else false)

def F_spec_l20Kind (a0 : I64) : Bool :=
  bindP (F_spec_l00In a0 (c64 13) (c64 15)) fun r1 => r1

def F_spec_l11Ok (a0 : Pt) : Bool :=
  bindP (F_spec_l00In a0.lat (c64 (-900000000)) (c64 900000000)) fun r1 => (bif r1 then bindP (F_spec_l00In a0.lon (c64 (-1799999999)) (c64 1800000000)) fun r2 => r2 else false)

def F_spec_l17Standard (a0 : I64) : Bool :=
  bindP (F_spec_l00In a0 (c64 (-890000000)) (c64 890000000)) fun r1 => r1

def F_spec_l17Ok (a0 : Pj) : Bool :=
  bindP (F_spec_l11Ok (⟨a0.lat0, a0.lon0⟩ : Pt)) fun r1 => (bif (!r1) then false else bindP (F_spec_l17Standard a0.lat1) fun r2 => (bif (!r2) then false else bindP (F_spec_l17Standard a0.lat2) fun r3 => (bif (!r3) then false else (bif (a0.kind.val == 1) then (bif (a0.lat0.val == 0) then (a0.lat2.val == 0) else false) else (bif (a0.kind.val == 3) then (bif (a0.lat0.val == 0) then (a0.lat2.val == 0) else false) else (bif (a0.kind.val == 2) then (bif (a0.lat0.val == 0) then (bif (a0.lat1.val == 0) then (a0.lat2.val == 0) else false) else false) else (bif (a0.kind.val == 4) then (bif (a0.lat0.val == 0) then (bif (a0.lat1.val == 0) then (a0.lat2.val == 0) else false) else false) else (bif (a0.kind.val == 13) then (bif (a0.lat0.val == 0) then (bif (a0.lat1.val == 0) then (a0.lat2.val == 0) else false) else false) else (bif (a0.kind.val == 14) then (bif (a0.lat0.val == 0) then (bif (a0.lat1.val == 0) then (a0.lat2.val == 0) else false) else false) else (bif (a0.kind.val == 15) then (bif (a0.lat0.val == 0) then (bif (a0.lat1.val == 0) then (a0.lat2.val == 0) else false) else false) else (bif (a0.kind.val == 5) then (bif (a0.lat1.val == 0) then (a0.lat2.val == 0) else false) else (bif (a0.kind.val == 6) then (bif (a0.lat1.val == 0) then (a0.lat2.val == 0) else false) else (bif (a0.kind.val == 7) then (bif (a0.lat1.val == 0) then (a0.lat2.val == 0) else false) else (bif (a0.kind.val == 8) then (bif (a0.lat1.val == 0) then (a0.lat2.val == 0) else false) else (bif (a0.kind.val == 9) then (bif (a0.lat1.val == 0) then (a0.lat2.val == 0) else false) else (bif (a0.kind.val == 16) then (bif (a0.lat1.val == 0) then (a0.lat2.val == 0) else false) else (bif (a0.kind.val == 10) then (bif (decide ((w64 (a0.lat1.val + a0.lat2.val)).val ≥ 10000000)) then true else (decide ((w64 (a0.lat1.val + a0.lat2.val)).val ≤ (-10000000)))) else (bif (a0.kind.val == 11) then (bif (decide ((w64 (a0.lat1.val + a0.lat2.val)).val ≥ 10000000)) then true else (decide ((w64 (a0.lat1.val + a0.lat2.val)).val ≤ (-10000000)))) else (bif (a0.kind.val == 12) then (bif (decide ((w64 (a0.lat1.val + a0.lat2.val)).val ≥ 10000000)) then true else (decide ((w64 (a0.lat1.val + a0.lat2.val)).val ≤ (-10000000)))) else false)))))))))))))))))))

def F_spec_ValidProjection (a0 : Pj) : Bool :=
  bindP (F_spec_l17Ok a0) fun r1 => r1

def F_spec_l20Ok__pPj (b0 : Pj) : Bool :=
  bindP (F_spec_l20Kind b0.kind) fun r1 => (bif r1 then bindP (F_spec_ValidProjection b0) fun r2 => r2 else false)

def F_spec_l04Whole : Iv :=
  (⟨(c64 (-1152921504606846976)), (c64 1152921504606846976)⟩ : Iv)

def F_spec_Whole : Iv :=
  bindP (F_spec_l04Whole) fun r1 => r1

def F_spec_l04Ok (a0 : Iv) : Bool :=
  (bif (decide ((-1152921504606846976) < a0.lo.val)) then (bif (decide (a0.lo.val ≤ a0.hi.val)) then (decide (a0.hi.val < 1152921504606846976)) else false) else false)

def F_spec_l04Make (a0 : I64) (a1 : I64) : Iv :=
  bindP (F_spec_l04Ok (⟨a0, a1⟩ : Iv)) fun r1 => (bif (!r1) then bindP (F_spec_l04Whole) fun r2 => r2 else (⟨a0, a1⟩ : Iv))

def F_spec_NegI (a0 : Iv) : Iv :=
  bindP (F_spec_l04Ok a0) fun r1 => (bif (!r1) then bindP (F_spec_l04Whole) fun r2 => r2 else bindP (F_spec_l04Make (w64 (0 - a0.hi.val)) (w64 (0 - a0.lo.val))) fun r3 => r3)

def F_spec_l02Size (a0 : I64) : U64 :=
  (bif (decide (a0.val < 0)) then (wu64 (0 - (wu64 a0.val).val)) else (wu64 a0.val))

def F_spec_l02Times (a0 : U64) (a1 : U64) : U64 × U64 :=
  ((wu64 ((wu64 ((wu64 ((ishr a0 32).val * (ishr a1 32).val)).val + (ishr (wu64 ((wu64 ((ishr a0 32).val * (iand .u64 a1.val 4294967295).val)).val + (ishr (wu64 ((iand .u64 a0.val 4294967295).val * (iand .u64 a1.val 4294967295).val)) 32).val)) 32).val)).val + (ishr (wu64 ((wu64 ((iand .u64 a0.val 4294967295).val * (ishr a1 32).val)).val + (iand .u64 (wu64 ((wu64 ((ishr a0 32).val * (iand .u64 a1.val 4294967295).val)).val + (ishr (wu64 ((iand .u64 a0.val 4294967295).val * (iand .u64 a1.val 4294967295).val)) 32).val)).val 4294967295).val)) 32).val)), (wu64 (a0.val * a1.val)))

end Go.Proofs.YtcdkepbgjgcjfaaGreat.Abs
