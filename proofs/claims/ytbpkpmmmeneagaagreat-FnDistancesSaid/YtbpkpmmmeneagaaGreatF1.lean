/- The functions, on numbers; part 1 (written by w.py). -/
import Derived.Test.YtbpkpmmmeneagaaGreatF0
set_option linter.unusedVariables false
set_option linter.unusedSimpArgs false
namespace Go.Proofs.YtbpkpmmmeneagaaGreat.Abs
open Go Go.RowKit

def F_impl_MulFloor (a0 : I64) (a1 : I64) (a2 : I64) : I64 × Bool :=
  bindP (F_impl_within a2 (c64 0) (c64 126)) fun r1 => (bif (!r1) then ((c64 0), false) else bindP (F_impl_WideMul a0 a1) fun r2 => bindP (F_impl_WideShift r2 a2) fun r3 => bindP (F_impl_WideInt r3) fun r4 => (r4.1, r4.2))

def F_impl_TurnI_r : Nat → I64 → Iv
  | 0, _ => (⟨(c64 0), (c64 0)⟩ : Iv)
  | fu + 1, a0 => bindP (F_impl_within a0 (c64 (-4096)) (c64 4096)) fun r1 => (bif (!r1) then bindP (F_impl_Whole) fun r3 => r3 else (bif (decide (a0.val < 0)) then bindP (F_impl_TurnI_r fu (w64 (0 - a0.val))) fun r5 => bindP (F_impl_NegI r5) fun r6 => r6 else (bif (a0.val == 0) then (⟨(c64 0), (c64 0)⟩ : Iv) else bindP (F_impl_MulFloor a0 (c64 7244019458077122842) (c64 30)) fun r8 => (⟨r8.1, (w64 (r8.1.val + 1))⟩ : Iv))))
def F_impl_TurnI (a0 : I64) : Iv := F_impl_TurnI_r 2 a0

def F_impl_areBounded (a0 : Iv) (a1 : Iv) : Bool :=
  bindP (F_impl_ValidInterval a0) fun r1 => (bif r1 then bindP (F_impl_ValidInterval a1) fun r2 => r2 else false)

def F_impl_bounded (a0 : I64) (a1 : I64) (a2 : Bool) : Iv :=
  (bif a2 then bindP (F_impl_ValidInterval (⟨a0, a1⟩ : Iv)) fun r1 => (bif r1 then (⟨a0, a1⟩ : Iv) else bindP (F_impl_Whole) fun r2 => r2) else bindP (F_impl_Whole) fun r3 => r3)

def F_impl_AddI (a0 : Iv) (a1 : Iv) : Iv :=
  bindP (F_impl_areBounded a0 a1) fun r1 => (bif (!r1) then bindP (F_impl_Whole) fun r2 => r2 else bindP (F_impl_bounded (w64 (a0.lo.val + a1.lo.val)) (w64 (a0.hi.val + a1.hi.val)) true) fun r3 => r3)

def F_impl_SubI (a0 : Iv) (a1 : Iv) : Iv :=
  bindP (F_impl_NegI a1) fun r1 => bindP (F_impl_AddI a0 r1) fun r2 => r2

def F_impl_InsideI (a0 : Iv) (a1 : Iv) : Bool :=
  bindP (F_impl_IsWhole a0) fun r1 => (bif r1 then bindP (F_impl_IsWhole a1) fun r2 => r2 else bindP (F_impl_IsWhole a1) fun r3 => (bif r3 then bindP (F_impl_IsWhole a1) fun r4 => r4 else (bif (decide (a1.lo.val ≤ a0.lo.val)) then (decide (a0.hi.val ≤ a1.hi.val)) else false)))

def F_impl_HasI (a0 : Iv) (a1 : I64) : Bool :=
  bindP (F_impl_IsWhole a0) fun r1 => (bif r1 then true else bindP (F_impl_within a1 a0.lo a0.hi) fun r2 => r2)

def F_impl_AbsI (a0 : Iv) : Iv :=
  bindP (F_impl_IsWhole a0) fun r1 => (bif r1 then bindP (F_impl_Whole) fun r2 => r2 else bindP (F_impl_abs a0.lo) fun r3 => bindP (F_impl_abs a0.hi) fun r4 => bindP (F_impl_abs a0.lo) fun r5 => bindP (F_impl_abs a0.hi) fun r6 => bindP (F_impl_HasI a0 (c64 0)) fun r7 => (bif r7 then (⟨(c64 0), (mx r5 r6)⟩ : Iv) else (⟨(mn r3 r4), (mx r5 r6)⟩ : Iv)))

def F_impl_ValidFix (a0 : I64) : Bool :=
  bindP (F_impl_within a0 (c64 (-1152921504606846976)) (c64 1152921504606846976)) fun r1 => r1

def F_impl_fixed (a0 : I64) (a1 : Bool) : I64 × Bool :=
  (bif (!a1) then ((c64 0), false) else bindP (F_impl_ValidFix a0) fun r1 => (bif (!r1) then ((c64 0), false) else (a0, true)))

def F_impl_MulDown (a0 : I64) (a1 : I64) : I64 × Bool :=
  bindP (F_impl_ValidFix a0) fun r1 => (bif (!r1) then ((c64 0), false) else bindP (F_impl_ValidFix a1) fun r2 => (bif (!r2) then ((c64 0), false) else bindP (F_impl_MulFloor a0 a1 (c64 32)) fun r3 => bindP (F_impl_fixed r3.1 r3.2) fun r4 => (r4.1, r4.2)))

def F_impl_MulUp (a0 : I64) (a1 : I64) : I64 × Bool :=
  bindP (F_impl_ValidFix a0) fun r1 => (bif (!r1) then ((c64 0), false) else bindP (F_impl_ValidFix a1) fun r2 => (bif (!r2) then ((c64 0), false) else bindP (F_impl_MulDown (w64 (0 - a0.val)) a1) fun r3 => ((w64 (0 - r3.1.val)), r3.2)))

def F_impl_SqrI (a0 : Iv) : Iv :=
  bindP (F_impl_IsWhole a0) fun r1 => (bif r1 then bindP (F_impl_Whole) fun r2 => r2 else bindP (F_impl_AbsI a0) fun r3 => bindP (F_impl_MulDown r3.lo r3.lo) fun r4 => bindP (F_impl_MulUp r3.hi r3.hi) fun r5 => (bif r4.2 then bindP (F_impl_bounded r4.1 r5.1 r5.2) fun r6 => r6 else bindP (F_impl_bounded r4.1 r5.1 false) fun r7 => r7))

def F_impl_Integer (a0 : I64) : Iv :=
  bindP (F_impl_within a0 (c64 (-268435456)) (c64 268435456)) fun r1 => (bif (!r1) then bindP (F_impl_Whole) fun r2 => r2 else bindP (F_impl_bounded (w64 (a0.val * 4294967296)) (w64 (a0.val * 4294967296)) true) fun r3 => r3)

def F_impl_DivDown (a0 : I64) (a1 : I64) : I64 × Bool :=
  bindP (F_impl_ValidFix a0) fun r1 => (bif (!r1) then ((c64 0), false) else bindP (F_impl_ValidFix a1) fun r2 => (bif (!r2) then ((c64 0), false) else (bif (decide (a1.val < 0)) then bindP (F_impl_MulDivFloor (w64 (0 - a0.val)) (c64 4294967296) (w64 (0 - a1.val))) fun r3 => bindP (F_impl_fixed r3.1 r3.2) fun r4 => (r4.1, r4.2) else bindP (F_impl_MulDivFloor a0 (c64 4294967296) a1) fun r5 => bindP (F_impl_fixed r5.1 r5.2) fun r6 => (r6.1, r6.2))))

def F_impl_DivUp (a0 : I64) (a1 : I64) : I64 × Bool :=
  bindP (F_impl_ValidFix a0) fun r1 => (bif (!r1) then ((c64 0), false) else bindP (F_impl_ValidFix a1) fun r2 => (bif (!r2) then ((c64 0), false) else bindP (F_impl_DivDown (w64 (0 - a0.val)) a1) fun r3 => ((w64 (0 - r3.1.val)), r3.2)))

def F_impl_combine__impl_DivDown__impl_DivUp (a0 : Iv) (a1 : Iv) : Iv :=
  bindP (F_impl_DivDown a0.lo a1.lo) fun r1 => bindP (F_impl_DivUp a0.lo a1.lo) fun r2 => (bif (!r1.2) then bindP (F_impl_Whole) fun r3 => r3 else (bif (!r2.2) then bindP (F_impl_Whole) fun r4 => r4 else bindP (F_impl_DivDown a0.lo a1.hi) fun r5 => bindP (F_impl_DivUp a0.lo a1.hi) fun r6 => (bif (!r5.2) then bindP (F_impl_Whole) fun r7 => r7 else (bif (!r6.2) then bindP (F_impl_Whole) fun r8 => r8 else bindP (F_impl_DivDown a0.hi a1.lo) fun r9 => bindP (F_impl_DivUp a0.hi a1.lo) fun r10 => (bif (!r9.2) then bindP (F_impl_Whole) fun r11 => r11 else (bif (!r10.2) then bindP (F_impl_Whole) fun r12 => r12 else bindP (F_impl_DivDown a0.hi a1.hi) fun r13 => bindP (F_impl_DivUp a0.hi a1.hi) fun r14 => (bif (!r13.2) then bindP (F_impl_Whole) fun r15 => r15 else (bif (!r14.2) then bindP (F_impl_Whole) fun r16 => r16 else bindP (F_impl_bounded (mn (mn (mn (mn r1.1 r1.1) r5.1) r9.1) r13.1) (mx (mx (mx (mx r2.1 r2.1) r6.1) r10.1) r14.1) true) fun r17 => r17))))))))

def F_impl_DivI (a0 : Iv) (a1 : Iv) : Iv :=
  bindP (F_impl_areBounded a0 a1) fun r1 => (bif (!r1) then bindP (F_impl_Whole) fun r2 => r2 else bindP (F_impl_HasI a1 (c64 0)) fun r3 => (bif r3 then bindP (F_impl_Whole) fun r4 => r4 else bindP (F_impl_combine__impl_DivDown__impl_DivUp a0 a1) fun r5 => r5))

def F_impl_combine__impl_MulDown__impl_MulUp (a0 : Iv) (a1 : Iv) : Iv :=
  bindP (F_impl_MulDown a0.lo a1.lo) fun r1 => bindP (F_impl_MulUp a0.lo a1.lo) fun r2 => (bif (!r1.2) then bindP (F_impl_Whole) fun r3 => r3 else (bif (!r2.2) then bindP (F_impl_Whole) fun r4 => r4 else bindP (F_impl_MulDown a0.lo a1.hi) fun r5 => bindP (F_impl_MulUp a0.lo a1.hi) fun r6 => (bif (!r5.2) then bindP (F_impl_Whole) fun r7 => r7 else (bif (!r6.2) then bindP (F_impl_Whole) fun r8 => r8 else bindP (F_impl_MulDown a0.hi a1.lo) fun r9 => bindP (F_impl_MulUp a0.hi a1.lo) fun r10 => (bif (!r9.2) then bindP (F_impl_Whole) fun r11 => r11 else (bif (!r10.2) then bindP (F_impl_Whole) fun r12 => r12 else bindP (F_impl_MulDown a0.hi a1.hi) fun r13 => bindP (F_impl_MulUp a0.hi a1.hi) fun r14 => (bif (!r13.2) then bindP (F_impl_Whole) fun r15 => r15 else (bif (!r14.2) then bindP (F_impl_Whole) fun r16 => r16 else bindP (F_impl_bounded (mn (mn (mn (mn r1.1 r1.1) r5.1) r9.1) r13.1) (mx (mx (mx (mx r2.1 r2.1) r6.1) r10.1) r14.1) true) fun r17 => r17))))))))

def F_impl_MulI (a0 : Iv) (a1 : Iv) : Iv :=
  bindP (F_impl_areBounded a0 a1) fun r1 => (bif (!r1) then bindP (F_impl_Whole) fun r2 => r2 else bindP (F_impl_combine__impl_MulDown__impl_MulUp a0 a1) fun r3 => r3)

def F_impl_series (a0 : Iv) (a1 : I64) : Iv :=
  bindP (F_impl_Integer (c64 1)) fun r1 => bindP (F_impl_Integer (c64 1)) fun r2 => bindP (F_impl_Integer (w64 ((w64 (a1.val + 14)).val * (w64 ((w64 (a1.val + 14)).val + 1)).val))) fun r3 => bindP (F_impl_DivI a0 r3) fun r4 => bindP (F_impl_MulI r4 r1) fun r5 => bindP (F_impl_SubI r2 r5) fun r6 => bindP (F_impl_Integer (c64 1)) fun r7 => bindP (F_impl_Integer (w64 ((w64 (a1.val + 12)).val * (w64 ((w64 (a1.val + 12)).val + 1)).val))) fun r8 => bindP (F_impl_DivI a0 r8) fun r9 => bindP (F_impl_MulI r9 r6) fun r10 => bindP (F_impl_SubI r7 r10) fun r11 => bindP (F_impl_Integer (c64 1)) fun r12 => bindP (F_impl_Integer (w64 ((w64 (a1.val + 10)).val * (w64 ((w64 (a1.val + 10)).val + 1)).val))) fun r13 => bindP (F_impl_DivI a0 r13) fun r14 => bindP (F_impl_MulI r14 r11) fun r15 => bindP (F_impl_SubI r12 r15) fun r16 => bindP (F_impl_Integer (c64 1)) fun r17 => bindP (F_impl_Integer (w64 ((w64 (a1.val + 8)).val * (w64 ((w64 (a1.val + 8)).val + 1)).val))) fun r18 => bindP (F_impl_DivI a0 r18) fun r19 => bindP (F_impl_MulI r19 r16) fun r20 => bindP (F_impl_SubI r17 r20) fun r21 => bindP (F_impl_Integer (c64 1)) fun r22 => bindP (F_impl_Integer (w64 ((w64 (a1.val + 6)).val * (w64 ((w64 (a1.val + 6)).val + 1)).val))) fun r23 => bindP (F_impl_DivI a0 r23) fun r24 => bindP (F_impl_MulI r24 r21) fun r25 => bindP (F_impl_SubI r22 r25) fun r26 => bindP (F_impl_Integer (c64 1)) fun r27 => bindP (F_impl_Integer (w64 ((w64 (a1.val + 4)).val * (w64 ((w64 (a1.val + 4)).val + 1)).val))) fun r28 => bindP (F_impl_DivI a0 r28) fun r29 => bindP (F_impl_MulI r29 r26) fun r30 => bindP (F_impl_SubI r27 r30) fun r31 => bindP (F_impl_Integer (c64 1)) fun r32 => bindP (F_impl_Integer (w64 ((w64 (a1.val + 2)).val * (w64 ((w64 (a1.val + 2)).val + 1)).val))) fun r33 => bindP (F_impl_DivI a0 r33) fun r34 => bindP (F_impl_MulI r34 r31) fun r35 => bindP (F_impl_SubI r32 r35) fun r36 => bindP (F_impl_Integer (c64 1)) fun r37 => bindP (F_impl_Integer (w64 ((w64 (a1.val + 0)).val * (w64 ((w64 (a1.val + 0)).val + 1)).val))) fun r38 => bindP (F_impl_DivI a0 r38) fun r39 => bindP (F_impl_MulI r39 r36) fun r40 => bindP (F_impl_SubI r37 r40) fun r41 => r41

def F_impl_tiny : Iv :=
  (⟨(c64 (-1)), (c64 1)⟩ : Iv)

def F_impl_SinSeries (a0 : Iv) : Iv :=
  bindP (F_impl_ring) fun r1 => bindP (F_impl_InsideI a0 r1) fun r2 => (bif (!r2) then bindP (F_impl_Whole) fun r3 => r3 else bindP (F_impl_SqrI a0) fun r4 => bindP (F_impl_series r4 (c64 2)) fun r5 => bindP (F_impl_MulI a0 r5) fun r6 => bindP (F_impl_tiny) fun r7 => bindP (F_impl_AddI r6 r7) fun r8 => r8)

def F_impl_MeetI (a0 : Iv) (a1 : Iv) : Iv × Bool :=
  bindP (F_impl_IsWhole a0) fun r1 => (bif r1 then bindP (F_impl_IsWhole a1) fun r2 => (bif r2 then bindP (F_impl_Whole) fun r3 => (r3, true) else bindP (F_impl_IsWhole a0) fun r4 => (bif r4 then (a1, true) else bindP (F_impl_IsWhole a1) fun r5 => (bif r5 then (a0, true) else (bif (decide ((mx a0.lo a1.lo).val > (mn a0.hi a1.hi).val)) then ((⟨(c64 0), (c64 0)⟩ : Iv), false) else ((⟨(mx a0.lo a1.lo), (mn a0.hi a1.hi)⟩ : Iv), true))))) else bindP (F_impl_IsWhole a0) fun r6 => (bif r6 then (a1, true) else bindP (F_impl_IsWhole a1) fun r7 => (bif r7 then (a0, true) else (bif (decide ((mx a0.lo a1.lo).val > (mn a0.hi a1.hi).val)) then ((⟨(c64 0), (c64 0)⟩ : Iv), false) else ((⟨(mx a0.lo a1.lo), (mn a0.hi a1.hi)⟩ : Iv), true)))))

def F_impl_inRing (a0 : Iv) : Iv :=
  bindP (F_impl_ring) fun r1 => bindP (F_impl_MeetI a0 r1) fun r2 => r2.1

def F_impl_CosSeries (a0 : Iv) : Iv :=
  bindP (F_impl_ring) fun r1 => bindP (F_impl_InsideI a0 r1) fun r2 => (bif (!r2) then bindP (F_impl_Whole) fun r3 => r3 else bindP (F_impl_SqrI a0) fun r4 => bindP (F_impl_series r4 (c64 1)) fun r5 => bindP (F_impl_tiny) fun r6 => bindP (F_impl_AddI r5 r6) fun r7 => r7)

def F_impl_circleValue (a0 : I64) (a1 : I64) : Iv :=
  bindP (F_impl_isAngle a0) fun r1 => (bif (!r1) then bindP (F_impl_ring) fun r2 => r2 else bindP (F_impl_QuarterOf a0) fun r3 => bindP (F_impl_at a0) fun r4 => bindP (F_impl_TurnI r3) fun r5 => bindP (F_impl_SubI r4 r5) fun r6 => (bif ((iand .i64 (w64 (r3.val + a1.val)).val 3).val == 0) then bindP (F_impl_SinSeries r6) fun r7 => bindP (F_impl_inRing r7) fun r8 => r8 else (bif ((iand .i64 (w64 (r3.val + a1.val)).val 3).val == 1) then bindP (F_impl_CosSeries r6) fun r9 => bindP (F_impl_inRing r9) fun r10 => r10 else (bif ((iand .i64 (w64 (r3.val + a1.val)).val 3).val == 2) then bindP (F_impl_SinSeries r6) fun r11 => bindP (F_impl_NegI r11) fun r12 => bindP (F_impl_inRing r12) fun r13 => r13 else bindP (F_impl_CosSeries r6) fun r14 => bindP (F_impl_NegI r14) fun r15 => bindP (F_impl_inRing r15) fun r16 => r16))))

def F_impl_HullI (a0 : Iv) (a1 : Iv) : Iv :=
  bindP (F_impl_areBounded a0 a1) fun r1 => (bif (!r1) then bindP (F_impl_Whole) fun r2 => r2 else (⟨(mn a0.lo a1.lo), (mx a0.hi a1.hi)⟩ : Iv))

def F_impl_OverlapI (a0 : Iv) (a1 : Iv) : Bool :=
  bindP (F_impl_MeetI a0 a1) fun r1 => r1.2

def F_impl_turnsIn_L0 : Nat → Iv → I64 → List I64 → List I64
  | 0, _, _, acc => acc
  | fu + 1, a0, x_k, acc => bindP (F_impl_QuarterOf a0.hi) fun r1 => (bif (decide (x_k.val ≤ (w64 (r1.val + 1)).val)) then bindP (F_impl_TurnI x_k) fun r2 => bindP (F_impl_OverlapI r2 a0) fun r3 => (bif r3 then F_impl_turnsIn_L0 fu a0 (w64 (x_k.val + 1)) (acc ++ [x_k]) else F_impl_turnsIn_L0 fu a0 (w64 (x_k.val + 1)) acc) else acc)
def F_impl_turnsIn (a0 : Iv) : List I64 := bindP (F_impl_QuarterOf a0.lo) fun r1 => F_impl_turnsIn_L0 ((2000 - (w64 (r1.val - 1)).val).toNat + 1) a0 (w64 (r1.val - 1)) []

def F_impl_circleHull_L0 : Nat → I64 → List I64 → Iv → I64 → Iv → Iv
  | 0, _, _, _, _, _ => (⟨(c64 0), (c64 0)⟩ : Iv)
  | fu + 1, a1, r7, a0, x_24, y_2 => (bif (decide (x_24.val < (((r7.length : Nat) : Int)))) then (bif ((iand .i64 (w64 ((listAt r7 x_24).val + a1.val)).val 3).val == 1) then bindP (F_impl_Integer (c64 1)) fun r10 => bindP (F_impl_HullI y_2 r10) fun r11 => F_impl_circleHull_L0 fu a1 r7 a0 (w64 (x_24.val + 1)) r11 else (bif ((iand .i64 (w64 ((listAt r7 x_24).val + a1.val)).val 3).val == 3) then bindP (F_impl_Integer (c64 (-1))) fun r13 => bindP (F_impl_HullI y_2 r13) fun r14 => F_impl_circleHull_L0 fu a1 r7 a0 (w64 (x_24.val + 1)) r14 else F_impl_circleHull_L0 fu a1 r7 a0 (w64 (x_24.val + 1)) y_2)) else y_2)

def F_impl_circleHull (a0 : Iv) (a1 : I64) : Iv :=
  bindP (F_impl_areAngles a0) fun r1 => (bif (!r1) then bindP (F_impl_ring) fun r3 => r3 else bindP (F_impl_circleValue a0.lo a1) fun r4 => bindP (F_impl_circleValue a0.hi a1) fun r5 => bindP (F_impl_HullI r4 r5) fun r6 => bindP (F_impl_turnsIn a0) fun r7 => F_impl_circleHull_L0 (((r7.length : Nat) : Int).toNat + 1) a1 r7 a0 (c64 0) r6)

def F_impl_CosI (a0 : Iv) : Iv :=
  bindP (F_impl_circleHull a0 (c64 1)) fun r1 => r1

def F_impl_planar (a0 : Iv) (a1 : Iv) : Pn × I64 :=
  bindP (F_impl_areBounded a0 a1) fun r1 => (bif (!r1) then ((⟨(⟨(c64 0), (c64 0)⟩ : Iv), (⟨(c64 0), (c64 0)⟩ : Iv)⟩ : Pn), (c64 9)) else ((⟨a0, a1⟩ : Pn), (c64 0)))

def F_impl_SinI (a0 : Iv) : Iv :=
  bindP (F_impl_circleHull a0 (c64 0)) fun r1 => r1

def F_impl_FixFloor (a0 : I64) (a1 : I64) : I64 × Bool :=
  bindP (F_impl_MulDivFloor a0 (c64 4294967296) a1) fun r1 => bindP (F_impl_fixed r1.1 r1.2) fun r2 => (r2.1, r2.2)

def F_impl_mulDivCeil (a0 : I64) (a1 : I64) (a2 : I64) : I64 × Bool :=
  bindP (F_impl_WideMul a0 a1) fun r1 => bindP (F_impl_WideDiv r1 a2) fun r2 => (bif (!r2.2.2) then ((c64 0), false) else bindP (F_impl_WideInt r2.1) fun r3 => (bif (!r3.2) then ((c64 0), false) else (bif (decide (r2.2.1.val > 0)) then (bif (r3.1.val == 9223372036854775807) then ((c64 0), false) else (bif (decide (r2.2.1.val > 0)) then ((w64 (r3.1.val + 1)), true) else (r3.1, true))) else (bif (decide (r2.2.1.val > 0)) then ((w64 (r3.1.val + 1)), true) else (r3.1, true)))))

def F_impl_FixCeil (a0 : I64) (a1 : I64) : I64 × Bool :=
  bindP (F_impl_mulDivCeil a0 (c64 4294967296) a1) fun r1 => bindP (F_impl_fixed r1.1 r1.2) fun r2 => (r2.1, r2.2)

def F_impl_Quotient (a0 : I64) (a1 : I64) : Iv :=
  (bif (decide (a1.val < 0)) then (bif (decide ((w64 (0 - a1.val)).val < 0)) then bindP (F_impl_Whole) fun r1 => r1 else (bif ((w64 (0 - a0.val)).val == (-9223372036854775808)) then bindP (F_impl_Whole) fun r2 => r2 else bindP (F_impl_FixFloor (w64 (0 - a0.val)) (w64 (0 - a1.val))) fun r3 => bindP (F_impl_FixCeil (w64 (0 - a0.val)) (w64 (0 - a1.val))) fun r4 => (bif r3.2 then bindP (F_impl_bounded r3.1 r4.1 r4.2) fun r5 => r5 else bindP (F_impl_bounded r3.1 r4.1 false) fun r6 => r6))) else bindP (F_impl_FixFloor a0 a1) fun r7 => bindP (F_impl_FixCeil a0 a1) fun r8 => (bif r7.2 then bindP (F_impl_bounded r7.1 r8.1 r8.2) fun r9 => r9 else bindP (F_impl_bounded r7.1 r8.1 false) fun r10 => r10))

def F_impl_SinAt (a0 : I64) : Iv :=
  bindP (F_impl_circleValue a0 (c64 0)) fun r1 => r1

def F_impl_CosAt (a0 : I64) : Iv :=
  bindP (F_impl_circleValue a0 (c64 1)) fun r1 => r1

def F_impl_TanI_L0 : Nat → List I64 → Iv → I64 → Iv → Iv
  | 0, _, _, _, _ => (⟨(c64 0), (c64 0)⟩ : Iv)
  | fu + 1, r4, a0, x_12, y_1 => (bif (decide (x_12.val < (((r4.length : Nat) : Int)))) then (bif ((iand .i64 (listAt r4 x_12).val 1).val == 1) then bindP (F_impl_Whole) fun r7 => r7 else F_impl_TanI_L0 fu r4 a0 (w64 (x_12.val + 1)) y_1) else bindP (F_impl_SinAt a0.lo) fun r8 => bindP (F_impl_CosAt a0.lo) fun r9 => bindP (F_impl_DivI r8 r9) fun r10 => bindP (F_impl_SinAt a0.hi) fun r11 => bindP (F_impl_CosAt a0.hi) fun r12 => bindP (F_impl_DivI r11 r12) fun r13 => bindP (F_impl_HullI r10 r13) fun r14 => r14)

def F_impl_TanI (a0 : Iv) : Iv :=
  bindP (F_impl_areAngles a0) fun r1 => (bif (!r1) then bindP (F_impl_Whole) fun r3 => r3 else bindP (F_impl_turnsIn a0) fun r4 => F_impl_TanI_L0 (((r4.length : Nat) : Int).toNat + 1) r4 a0 (c64 0) (⟨(c64 0), (c64 0)⟩ : Iv))


def F_impl_WideSqrt_L0 : Nat → Wd → U64 → I64 → U64 × Bool
  | 0, _, _, _ => ((cu64 0), false)
  | fu + 1, a0, x_root, x_i => (bif (decide (x_i.val ≥ 0)) then bindP (F_bits_Mul64 (ior .u64 x_root.val (ishl .u64 1 x_i.val).val) (ior .u64 x_root.val (ishl .u64 1 x_i.val).val)) fun r3 => (bif (decide (r3.1.val < (wu64 a0.hi.val).val)) then F_impl_WideSqrt_L0 fu a0 (ior .u64 x_root.val (ishl .u64 1 x_i.val).val) (w64 (x_i.val - 1)) else (bif (r3.1.val == (wu64 a0.hi.val).val) then (bif (decide (r3.2.val ≤ a0.lo.val)) then F_impl_WideSqrt_L0 fu a0 (ior .u64 x_root.val (ishl .u64 1 x_i.val).val) (w64 (x_i.val - 1)) else F_impl_WideSqrt_L0 fu a0 x_root (w64 (x_i.val - 1))) else F_impl_WideSqrt_L0 fu a0 x_root (w64 (x_i.val - 1)))) else (x_root, true))

def F_impl_WideSqrt (a0 : Wd) : U64 × Bool :=
  (bif (decide (a0.hi.val < 0)) then ((cu64 0), false) else F_impl_WideSqrt_L0 65 a0 (cu64 0) (c64 63))

def F_impl_SqrtFloor (a0 : I64) (a1 : I64) : I64 × Bool :=
  (bif (decide (a0.val < 0)) then ((c64 0), false) else (bif (decide (a1.val < 0)) then ((c64 0), false) else bindP (F_impl_WideMul a0 a1) fun r1 => bindP (F_impl_WideSqrt r1) fun r2 => ((w64 r2.1.val), r2.2)))

def F_impl_SqrtDown (a0 : I64) : I64 × Bool :=
  bindP (F_impl_ValidFix a0) fun r1 => (bif (!r1) then ((c64 0), false) else bindP (F_impl_SqrtFloor a0 (c64 4294967296)) fun r2 => bindP (F_impl_fixed r2.1 r2.2) fun r3 => (r3.1, r3.2))

def F_impl_SqrtUp (a0 : I64) : I64 × Bool :=
  bindP (F_impl_SqrtDown a0) fun r1 => (bif r1.2 then bindP (F_impl_WideMul r1.1 r1.1) fun r2 => bindP (F_impl_WideMul a0 (c64 4294967296)) fun r3 => (bif (!((r2.hi.val == r3.hi.val) && (r2.lo.val == r3.lo.val))) then bindP (F_impl_fixed (w64 (r1.1.val + 1)) r1.2) fun r4 => (r4.1, r4.2) else bindP (F_impl_fixed r1.1 r1.2) fun r5 => (r5.1, r5.2)) else bindP (F_impl_fixed r1.1 r1.2) fun r6 => (r6.1, r6.2))

def F_impl_SqrtI (a0 : Iv) : Iv :=
  bindP (F_impl_IsWhole a0) fun r1 => (bif r1 then bindP (F_impl_Whole) fun r2 => r2 else (bif (decide (a0.lo.val < 0)) then bindP (F_impl_Whole) fun r3 => r3 else bindP (F_impl_SqrtDown a0.lo) fun r4 => bindP (F_impl_SqrtUp a0.hi) fun r5 => (bif r4.2 then bindP (F_impl_bounded r4.1 r5.1 r5.2) fun r6 => r6 else bindP (F_impl_bounded r4.1 r5.1 false) fun r7 => r7)))

def F_impl_twosOf_L1 : Nat → I64 → I64 → I64
  | 0, _, _ => (c64 0)
  | fu + 1, a0, x_e => (bif (decide (x_e.val ≤ 0)) then (bif (decide ((ishl .i64 a0.val (w64 (0 - x_e.val)).val).val < 3221225472)) then F_impl_twosOf_L1 fu a0 (w64 (x_e.val - 1)) else x_e) else x_e)

def F_impl_twosOf_L0 : Nat → I64 → I64 → I64
  | 0, _, _ => (c64 0)
  | fu + 1, a0, x_e => (bif (decide ((ishr a0 x_e.val).val ≥ 6442450944)) then F_impl_twosOf_L0 fu a0 (w64 (x_e.val + 1)) else F_impl_twosOf_L1 ((64 + x_e.val).toNat + 1) a0 x_e)

def F_impl_twosOf (a0 : I64) : I64 :=
  F_impl_twosOf_L0 ((64 - (c64 0).val).toNat + 1) a0 (c64 0)

def F_impl_LogTwoI_b (self : I64 → Iv) (a0 : I64) : Iv :=
  bindP (F_impl_within a0 (c64 (-64)) (c64 64)) fun r1 => (bif (!r1) then bindP (F_impl_Whole) fun r3 => r3 else (bif (decide (a0.val < 0)) then bindP (self (w64 (0 - a0.val))) fun r5 => bindP (F_impl_NegI r5) fun r6 => r6 else bindP (F_impl_MulFloor a0 (c64 1598288580650331957) (c64 29)) fun r7 => bindP (F_impl_MulFloor (w64 (0 - a0.val)) (c64 1598288580650331958) (c64 29)) fun r8 => (⟨r7.1, (w64 (0 - r8.1.val))⟩ : Iv)))
def F_impl_LogTwoI_r : Nat → I64 → Iv
  | 0, _ => (⟨(c64 0), (c64 0)⟩ : Iv)
  | fu + 1, a0 => F_impl_LogTwoI_b (F_impl_LogTwoI_r fu) a0
def F_impl_LogTwoI (a0 : I64) : Iv := F_impl_LogTwoI_r 2 a0

def F_impl_widened (a0 : Iv) (a1 : I64) : Iv :=
  bindP (F_impl_ValidInterval a0) fun r1 => bindP (F_impl_bounded (w64 (a0.lo.val - a1.val)) (w64 (a0.hi.val + a1.val)) r1) fun r2 => r2

def F_impl_LogAt (a0 : I64) : Iv :=
  bindP (F_impl_ValidFix a0) fun r1 => (bif (!r1) then bindP (F_impl_Whole) fun r3 => r3 else (bif (decide (a0.val ≤ 0)) then bindP (F_impl_Whole) fun r5 => r5 else bindP (F_impl_twosOf a0) fun r6 => bindP (F_impl_at a0) fun r7 => (bif (decide (r6.val > 0)) then bindP (F_impl_Integer (c64 1)) fun r9 => bindP (F_impl_SubI (⟨(ishr a0 r6.val), (w64 (0 - (ishr (w64 (0 - a0.val)) r6.val).val))⟩ : Iv) r9) fun r10 => bindP (F_impl_Integer (c64 1)) fun r11 => bindP (F_impl_AddI (⟨(ishr a0 r6.val), (w64 (0 - (ishr (w64 (0 - a0.val)) r6.val).val))⟩ : Iv) r11) fun r12 => bindP (F_impl_DivI r10 r12) fun r13 => bindP (F_impl_SqrI r13) fun r14 => bindP (F_impl_Quotient (c64 1) (c64 11)) fun r15 => bindP (F_impl_Quotient (c64 1) (c64 9)) fun r16 => bindP (F_impl_MulI r14 r15) fun r17 => bindP (F_impl_AddI r16 r17) fun r18 => bindP (F_impl_Quotient (c64 1) (c64 7)) fun r19 => bindP (F_impl_MulI r14 r18) fun r20 => bindP (F_impl_AddI r19 r20) fun r21 => bindP (F_impl_Quotient (c64 1) (c64 5)) fun r22 => bindP (F_impl_MulI r14 r21) fun r23 => bindP (F_impl_AddI r22 r23) fun r24 => bindP (F_impl_Quotient (c64 1) (c64 3)) fun r25 => bindP (F_impl_MulI r14 r24) fun r26 => bindP (F_impl_AddI r25 r26) fun r27 => bindP (F_impl_Quotient (c64 1) (c64 1)) fun r28 => bindP (F_impl_MulI r14 r27) fun r29 => bindP (F_impl_AddI r28 r29) fun r30 => bindP (F_impl_LogTwoI r6) fun r31 => bindP (F_impl_Integer (c64 2)) fun r32 => bindP (F_impl_MulI r32 r13) fun r33 => bindP (F_impl_MulI r33 r30) fun r34 => bindP (F_impl_widened r34 (c64 1)) fun r35 => bindP (F_impl_AddI r31 r35) fun r36 => r36 else bindP (F_impl_at (ishl .i64 a0.val (w64 (0 - r6.val)).val)) fun r37 => bindP (F_impl_Integer (c64 1)) fun r38 => bindP (F_impl_SubI r37 r38) fun r39 => bindP (F_impl_Integer (c64 1)) fun r40 => bindP (F_impl_AddI r37 r40) fun r41 => bindP (F_impl_DivI r39 r41) fun r42 => bindP (F_impl_SqrI r42) fun r43 => bindP (F_impl_Quotient (c64 1) (c64 11)) fun r44 => bindP (F_impl_Quotient (c64 1) (c64 9)) fun r45 => bindP (F_impl_MulI r43 r44) fun r46 => bindP (F_impl_AddI r45 r46) fun r47 => bindP (F_impl_Quotient (c64 1) (c64 7)) fun r48 => bindP (F_impl_MulI r43 r47) fun r49 => bindP (F_impl_AddI r48 r49) fun r50 => bindP (F_impl_Quotient (c64 1) (c64 5)) fun r51 => bindP (F_impl_MulI r43 r50) fun r52 => bindP (F_impl_AddI r51 r52) fun r53 => bindP (F_impl_Quotient (c64 1) (c64 3)) fun r54 => bindP (F_impl_MulI r43 r53) fun r55 => bindP (F_impl_AddI r54 r55) fun r56 => bindP (F_impl_Quotient (c64 1) (c64 1)) fun r57 => bindP (F_impl_MulI r43 r56) fun r58 => bindP (F_impl_AddI r57 r58) fun r59 => bindP (F_impl_LogTwoI r6) fun r60 => bindP (F_impl_Integer (c64 2)) fun r61 => bindP (F_impl_MulI r61 r42) fun r62 => bindP (F_impl_MulI r62 r59) fun r63 => bindP (F_impl_widened r63 (c64 1)) fun r64 => bindP (F_impl_AddI r60 r64) fun r65 => r65)))

def F_impl_monotonic__impl_LogAt (a0 : Iv) : Iv :=
  bindP (F_impl_IsWhole a0) fun r1 => (bif r1 then bindP (F_impl_Whole) fun r2 => r2 else bindP (F_impl_LogAt a0.lo) fun r3 => bindP (F_impl_LogAt a0.hi) fun r4 => bindP (F_impl_areBounded r3 r4) fun r5 => (bif (!r5) then bindP (F_impl_Whole) fun r6 => r6 else bindP (F_impl_bounded r3.lo r4.hi true) fun r7 => r7))

def F_impl_LogI (a0 : Iv) : Iv :=
  bindP (F_impl_monotonic__impl_LogAt a0) fun r1 => r1

def F_impl_AsinhI_1 (a0 : I64) : Iv :=
  (bif (decide (a0.val ≤ 35184372088832)) then bindP (F_impl_at a0) fun r1 => bindP (F_impl_at a0) fun r2 => bindP (F_impl_SqrI r2) fun r3 => bindP (F_impl_Integer (c64 1)) fun r4 => bindP (F_impl_AddI r3 r4) fun r5 => bindP (F_impl_SqrtI r5) fun r6 => bindP (F_impl_AddI r1 r6) fun r7 => bindP (F_impl_LogI r7) fun r8 => r8 else bindP (F_impl_LogTwoI (c64 1)) fun r9 => bindP (F_impl_LogAt a0) fun r10 => bindP (F_impl_AddI r9 r10) fun r11 => bindP (F_impl_AddI r11 (⟨(c64 0), (c64 16)⟩ : Iv)) fun r12 => r12)

end Go.Proofs.YtbpkpmmmeneagaaGreat.Abs
