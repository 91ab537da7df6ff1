/- Functions on numbers of the reference that the plain laws lean on. -/
import Derived.Test.YtcdkepbgjgcjfaaGreatPsF4
set_option linter.unusedVariables false
namespace Go.Proofs.YtcdkepbgjgcjfaaGreat.Abs
open Go

def F_spec_AbsI (a0 : Iv) : Iv :=
  bindP (F_spec_l04Ok a0) fun r1 => (bif (!r1) then bindP (F_spec_l04Whole) fun r2 => r2 else bindP (F_spec_l04Ends a0) fun r3 => bindP (F_spec_l04Make r3.1 r3.2) fun r4 => r4)

def F_spec_l03Floor (a0 : I64) (a1 : I64) : I64 × Bool :=
  (bif (decide (a1.val ≤ 0)) then ((c64 0), false) else bindP (F_spec_MulDivFloor a0 (c64 4294967296) a1) fun r1 => bindP (F_spec_l03End r1.1 r1.2) fun r2 => (r2.1, r2.2))

def F_spec_l03Ceil (a0 : I64) (a1 : I64) : I64 × Bool :=
  (bif (decide (a1.val ≤ 0)) then ((c64 0), false) else bindP (F_spec_MulDivFloor a0 (c64 4294967296) a1) fun r1 => (bif (!r1.2) then ((c64 0), false) else (bif ((w64 (r1.1.val * a1.val)).val != (w64 (a0.val * 4294967296)).val) then bindP (F_spec_l03End (w64 (r1.1.val + 1)) true) fun r2 => (r2.1, r2.2) else bindP (F_spec_l03End r1.1 true) fun r3 => (r3.1, r3.2))))

def F_spec_Quotient (a0 : I64) (a1 : I64) : Iv :=
  (bif (decide (a1.val < 0)) then (bif (a0.val == (-9223372036854775808)) then bindP (F_spec_l04Whole) fun r1 => r1 else (bif (a1.val == (-9223372036854775808)) then bindP (F_spec_l04Whole) fun r2 => r2 else bindP (F_spec_l03Floor (w64 (0 - a0.val)) (w64 (0 - a1.val))) fun r3 => bindP (F_spec_l03Ceil (w64 (0 - a0.val)) (w64 (0 - a1.val))) fun r4 => (bif (!r3.2) then bindP (F_spec_l04Whole) fun r5 => r5 else (bif (!r4.2) then bindP (F_spec_l04Whole) fun r6 => r6 else bindP (F_spec_l04Make r3.1 r4.1) fun r7 => r7)))) else bindP (F_spec_l03Floor a0 a1) fun r8 => bindP (F_spec_l03Ceil a0 a1) fun r9 => (bif (!r8.2) then bindP (F_spec_l04Whole) fun r10 => r10 else (bif (!r9.2) then bindP (F_spec_l04Whole) fun r11 => r11 else bindP (F_spec_l04Make r8.1 r9.1) fun r12 => r12)))

def F_spec_ArcSeries (a0 : Iv) : Iv :=
  bindP (F_spec_InsideI a0 (⟨(c64 (-1073741824)), (c64 1073741824)⟩ : Iv)) fun r1 => (bif (!r1) then bindP (F_spec_Whole) fun r2 => r2 else bindP (F_spec_SqrI a0) fun r3 => bindP (F_spec_Quotient (c64 1) (c64 21)) fun r4 => bindP (F_spec_Quotient (c64 1) (c64 19)) fun r5 => bindP (F_spec_MulI r3 r4) fun r6 => bindP (F_spec_SubI r5 r6) fun r7 => bindP (F_spec_Quotient (c64 1) (c64 17)) fun r8 => bindP (F_spec_MulI r3 r7) fun r9 => bindP (F_spec_SubI r8 r9) fun r10 => bindP (F_spec_Quotient (c64 1) (c64 15)) fun r11 => bindP (F_spec_MulI r3 r10) fun r12 => bindP (F_spec_SubI r11 r12) fun r13 => bindP (F_spec_Quotient (c64 1) (c64 13)) fun r14 => bindP (F_spec_MulI r3 r13) fun r15 => bindP (F_spec_SubI r14 r15) fun r16 => bindP (F_spec_Quotient (c64 1) (c64 11)) fun r17 => bindP (F_spec_MulI r3 r16) fun r18 => bindP (F_spec_SubI r17 r18) fun r19 => bindP (F_spec_Quotient (c64 1) (c64 9)) fun r20 => bindP (F_spec_MulI r3 r19) fun r21 => bindP (F_spec_SubI r20 r21) fun r22 => bindP (F_spec_Quotient (c64 1) (c64 7)) fun r23 => bindP (F_spec_MulI r3 r22) fun r24 => bindP (F_spec_SubI r23 r24) fun r25 => bindP (F_spec_Quotient (c64 1) (c64 5)) fun r26 => bindP (F_spec_MulI r3 r25) fun r27 => bindP (F_spec_SubI r26 r27) fun r28 => bindP (F_spec_Quotient (c64 1) (c64 3)) fun r29 => bindP (F_spec_MulI r3 r28) fun r30 => bindP (F_spec_SubI r29 r30) fun r31 => bindP (F_spec_Quotient (c64 1) (c64 1)) fun r32 => bindP (F_spec_MulI r3 r31) fun r33 => bindP (F_spec_SubI r32 r33) fun r34 => bindP (F_spec_MulI a0 r34) fun r35 => bindP (F_spec_l06Tiny) fun r36 => bindP (F_spec_AddI r35 r36) fun r37 => r37)

def F_spec_WideMul (a0 : I64) (a1 : I64) : Wd :=
  bindP (F_spec_l02Mul a0 a1) fun r1 => r1

def F_spec_CircleAt (a0 : I64) : Iv :=
  bindP (F_spec_l00In a0 (c64 (-4294967296)) (c64 4294967296)) fun r1 => (bif (!r1) then bindP (F_spec_Whole) fun r2 => r2 else bindP (F_spec_SqrtFloor (w64 (4294967296 - a0.val)) (w64 (4294967296 + a0.val))) fun r3 => bindP (F_spec_WideMul r3.1 r3.1) fun r4 => bindP (F_spec_WideMul (w64 (4294967296 - a0.val)) (w64 (4294967296 + a0.val))) fun r5 => (bif (!((r4.hi.val == r5.hi.val) && (r4.lo.val == r5.lo.val))) then (⟨r3.1, (w64 (r3.1.val + 1))⟩ : Iv) else (⟨r3.1, r3.1⟩ : Iv)))

def F_spec_l07Fix (a0 : I64) : Bool :=
  (bif (decide ((-1152921504606846976) < a0.val)) then (decide (a0.val < 1152921504606846976)) else false)

def F_spec_l07Halve (a0 : Iv) : Iv :=
  bindP (F_spec_Integer (c64 1)) fun r1 => bindP (F_spec_Integer (c64 1)) fun r2 => bindP (F_spec_SqrI a0) fun r3 => bindP (F_spec_AddI r2 r3) fun r4 => bindP (F_spec_SqrtI r4) fun r5 => bindP (F_spec_AddI r1 r5) fun r6 => bindP (F_spec_DivI a0 r6) fun r7 => r7

def F_spec_l07Core (a0 : Iv) : Iv :=
  bindP (F_spec_l07Halve a0) fun r1 => bindP (F_spec_l07Halve r1) fun r2 => bindP (F_spec_ArcSeries r2) fun r3 => bindP (F_spec_DoubleI r3) fun r4 => bindP (F_spec_DoubleI r4) fun r5 => r5

def F_spec_AtanAt_b (self : I64 → Iv) (a0 : I64) : Iv :=
  bindP (F_spec_l07Fix a0) fun r1 => (bif (!r1) then bindP (F_spec_l07Quarter) fun r3 => r3 else (bif (decide (a0.val < 0)) then bindP (self (w64 (0 - a0.val))) fun r5 => bindP (F_spec_NegI r5) fun r6 => r6 else (bif (decide (a0.val > 4294967296)) then bindP (F_spec_TurnI (c64 1)) fun r8 => bindP (F_spec_Integer (c64 1)) fun r9 => bindP (F_spec_l05At a0) fun r10 => bindP (F_spec_DivI r9 r10) fun r11 => bindP (F_spec_l07Core r11) fun r12 => bindP (F_spec_SubI r8 r12) fun r13 => r13 else bindP (F_spec_l05At a0) fun r14 => bindP (F_spec_l07Core r14) fun r15 => r15)))
def F_spec_AtanAt_r : Nat → I64 → Iv
  | 0, _ => (⟨(c64 0), (c64 0)⟩ : Iv)
  | fu + 1, a0 => F_spec_AtanAt_b (F_spec_AtanAt_r fu) a0
def F_spec_AtanAt (a0 : I64) : Iv := F_spec_AtanAt_r 2 a0

def F_spec_AtanI (a0 : Iv) : Iv :=
  bindP (F_spec_IsWhole a0) fun r1 => (bif r1 then bindP (F_spec_l07Quarter) fun r2 => r2 else bindP (F_spec_AtanAt a0.lo) fun r3 => bindP (F_spec_AtanAt a0.hi) fun r4 => bindP (F_spec_HullI r3 r4) fun r5 => r5)

def F_spec_AsinAt (a0 : I64) : Iv :=
  bindP (F_spec_l00In a0 (c64 (-4294967296)) (c64 4294967296)) fun r1 => (bif (!r1) then bindP (F_spec_Whole) fun r2 => r2 else bindP (F_spec_l05At a0) fun r3 => bindP (F_spec_Integer (c64 1)) fun r4 => bindP (F_spec_CircleAt a0) fun r5 => bindP (F_spec_AddI r4 r5) fun r6 => bindP (F_spec_DivI r3 r6) fun r7 => bindP (F_spec_AtanI r7) fun r8 => bindP (F_spec_DoubleI r8) fun r9 => bindP (F_spec_l07Quarter) fun r10 => bindP (F_spec_MeetI r9 r10) fun r11 => r11.1)

def F_spec_AsinI (a0 : Iv) : Iv :=
  bindP (F_spec_l06Ring) fun r1 => bindP (F_spec_MeetI a0 r1) fun r2 => (bif (!r2.2) then bindP (F_spec_Whole) fun r3 => r3 else bindP (F_spec_AsinAt r2.1.lo) fun r4 => bindP (F_spec_AsinAt r2.1.hi) fun r5 => bindP (F_spec_HullI r4 r5) fun r6 => r6)

def F_spec_HalfI (a0 : Iv) : Iv :=
  bindP (F_spec_l04Ok a0) fun r1 => (bif (!r1) then bindP (F_spec_l04Whole) fun r2 => r2 else bindP (F_spec_l04Make (ishr a0.lo 1) (ishr (w64 (a0.hi.val + 1)) 1)) fun r3 => r3)

def F_spec_LessI (a0 : Iv) (a1 : Iv) : I64 :=
  bindP (F_spec_l04Ok a0) fun r1 => (bif (!r1) then (c64 2) else bindP (F_spec_l04Ok a1) fun r2 => (bif (!r2) then (c64 2) else (bif (decide (a0.hi.val < a1.lo.val)) then (c64 1) else (bif (decide (a0.lo.val ≥ a1.hi.val)) then (c64 0) else (c64 2)))))

def F_spec_l20High (a0 : I64) : Iv :=
  (bif (a0.val == 13) then bindP (F_spec_TurnI (c64 1)) fun r1 => r1 else (bif (a0.val == 14) then bindP (F_spec_l20Root a0) fun r2 => r2 else bindP (F_spec_PiI) fun r3 => bindP (F_spec_l20Root a0) fun r4 => bindP (F_spec_DivI r3 r4) fun r5 => r5))

def F_spec_l20Back (a0 : I64) (a1 : Iv) : Iv :=
  (bif (a0.val == 13) then a1 else (bif (a0.val == 14) then bindP (F_spec_l20Root a0) fun r1 => bindP (F_spec_DivI a1 r1) fun r2 => bindP (F_spec_AsinI r2) fun r3 => r3 else bindP (F_spec_l20Root a0) fun r4 => bindP (F_spec_MulI a1 r4) fun r5 => bindP (F_spec_HalfI r5) fun r6 => r6))

def F_spec_OnMap (a0 : Pj) (a1 : Pn) : I64 × I64 :=
  bindP (F_spec_l20Ok__pPj a0) fun r1 => (bif (!r1) then ((c64 0), (c64 1)) else bindP (F_spec_l20High a0.kind) fun r2 => bindP (F_spec_AbsI a1.y) fun r3 => bindP (F_spec_LessI r2 r3) fun r4 => (bif (r4.val == 1) then ((c64 0), (c64 0)) else bindP (F_spec_l20Back a0.kind a1.y) fun r5 => bindP (F_spec_l20Parallel a0.kind r5) fun r6 => bindP (F_spec_PiI) fun r7 => bindP (F_spec_MulI r7 r6.1) fun r8 => bindP (F_spec_AbsI a1.x) fun r9 => bindP (F_spec_LessI r8 r9) fun r10 => (bif (r10.val == 1) then ((c64 0), (c64 0)) else (bif (r10.val == 0) then (bif (r4.val == 0) then ((c64 1), (c64 0)) else ((c64 2), (c64 0))) else ((c64 2), (c64 0))))))

def F_spec_l20Lat (a0 : I64) (a1 : Iv) : Iv :=
  (bif (a0.val == 13) then a1 else (bif (a0.val == 14) then bindP (F_spec_DoubleI a1) fun r1 => bindP (F_spec_SinI r1) fun r2 => bindP (F_spec_AddI r1 r2) fun r3 => bindP (F_spec_l20Right a0) fun r4 => bindP (F_spec_DivI r3 r4) fun r5 => bindP (F_spec_AsinI r5) fun r6 => r6 else bindP (F_spec_SinI a1) fun r7 => bindP (F_spec_AddI a1 r7) fun r8 => bindP (F_spec_l20Right a0) fun r9 => bindP (F_spec_DivI r8 r9) fun r10 => bindP (F_spec_AsinI r10) fun r11 => r11))

def F_spec_PseudoInverse (a0 : Pj) (a1 : Pn) : Iv × Iv × I64 :=
  bindP (F_spec_l20Ok__pPj a0) fun r1 => (bif (!r1) then ((⟨(c64 0), (c64 0)⟩ : Iv), (⟨(c64 0), (c64 0)⟩ : Iv), (c64 1)) else bindP (F_spec_l20High a0.kind) fun r2 => bindP (F_spec_AbsI a1.y) fun r3 => bindP (F_spec_LessI r2 r3) fun r4 => (bif (r4.val == 1) then ((⟨(c64 0), (c64 0)⟩ : Iv), (⟨(c64 0), (c64 0)⟩ : Iv), (c64 8)) else bindP (F_spec_l20Back a0.kind a1.y) fun r5 => bindP (F_spec_l20Parallel a0.kind r5) fun r6 => bindP (F_spec_l20Lat a0.kind r5) fun r7 => bindP (F_spec_DivI a1.x r6.1) fun r8 => bindP (F_spec_PiI) fun r9 => bindP (F_spec_AbsI r8) fun r10 => bindP (F_spec_LessI r9 r10) fun r11 => (bif (r11.val == 1) then ((⟨(c64 0), (c64 0)⟩ : Iv), (⟨(c64 0), (c64 0)⟩ : Iv), (c64 8)) else bindP (F_spec_IsWhole r7) fun r12 => (bif r12 then ((⟨(c64 0), (c64 0)⟩ : Iv), (⟨(c64 0), (c64 0)⟩ : Iv), (c64 9)) else bindP (F_spec_RadiansOf a0.lon0) fun r13 => bindP (F_spec_AddI r13 r8) fun r14 => (r7, r14, (c64 0))))))

end Go.Proofs.YtcdkepbgjgcjfaaGreat.Abs
