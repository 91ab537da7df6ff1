/- The functions, on numbers; part 3 (written by w.py). -/
import Derived.Test.YtcdkepbgjgcjfaaGreatPsF2
set_option linter.unusedVariables false
set_option linter.unusedSimpArgs false
namespace Go.Proofs.YtcdkepbgjgcjfaaGreat.Abs
open Go Go.RowKit

def F_spec_l02Root_L0 : Nat → Wd → U64 → I64 → U64
  | 0, _, _, _ => (cu64 0)
  | fu + 1, a0, x_out, x_i => (bif (decide (x_i.val ≥ 0)) then bindP (F_spec_l02Times (ior .u64 x_out.val (ishl .u64 1 (wu64 x_i.val).val).val) (ior .u64 x_out.val (ishl .u64 1 (wu64 x_i.val).val).val)) fun r2 => (bif (decide (r2.1.val < (wu64 a0.hi.val).val)) then F_spec_l02Root_L0 fu a0 (ior .u64 x_out.val (ishl .u64 1 (wu64 x_i.val).val).val) (w64 (x_i.val - 1)) else (bif (r2.1.val == (wu64 a0.hi.val).val) then (bif (decide (r2.2.val ≤ a0.lo.val)) then F_spec_l02Root_L0 fu a0 (ior .u64 x_out.val (ishl .u64 1 (wu64 x_i.val).val).val) (w64 (x_i.val - 1)) else F_spec_l02Root_L0 fu a0 x_out (w64 (x_i.val - 1))) else F_spec_l02Root_L0 fu a0 x_out (w64 (x_i.val - 1)))) else x_out)

def F_spec_l02Root (a0 : Wd) : U64 :=
  F_spec_l02Root_L0 65 a0 (cu64 0) (c64 63)

def F_spec_SqrtFloor (a0 : I64) (a1 : I64) : I64 × Bool :=
  (bif (decide (a0.val < 0)) then ((c64 0), false) else (bif (decide (a1.val < 0)) then ((c64 0), false) else bindP (F_spec_l02Mul a0 a1) fun r1 => bindP (F_spec_l02Root r1) fun r2 => ((w64 r2.val), true)))

def F_spec_l03SqrtDown (a0 : I64) : I64 × Bool :=
  bindP (F_spec_l00In a0 (c64 0) (c64 1152921504606846976)) fun r1 => (bif (!r1) then ((c64 0), false) else bindP (F_spec_SqrtFloor a0 (c64 4294967296)) fun r2 => (r2.1, r2.2))

def F_spec_l03SqrtUp (a0 : I64) : I64 × Bool :=
  bindP (F_spec_l03SqrtDown a0) fun r1 => (bif (!r1.2) then ((c64 0), false) else bindP (F_spec_MulFloor r1.1 r1.1 (c64 32)) fun r2 => (bif (r2.1.val != a0.val) then ((w64 (r1.1.val + 1)), true) else (bif ((iand .i64 (w64 (r1.1.val * r1.1.val)).val 4294967295).val != 0) then ((w64 (r1.1.val + 1)), true) else (r1.1, true))))

def F_spec_SqrtI (a0 : Iv) : Iv :=
  bindP (F_spec_l04Ok a0) fun r1 => (bif (!r1) then bindP (F_spec_l04Whole) fun r2 => r2 else (bif (decide (a0.lo.val < 0)) then bindP (F_spec_l04Whole) fun r3 => r3 else bindP (F_spec_l03SqrtDown a0.lo) fun r4 => bindP (F_spec_l03SqrtUp a0.hi) fun r5 => bindP (F_spec_l04Make r4.1 r5.1) fun r6 => r6))

def F_spec_l20Root (a0 : I64) : Iv :=
  (bif (a0.val == 14) then bindP (F_spec_Integer (c64 2)) fun r1 => bindP (F_spec_SqrtI r1) fun r2 => r2 else bindP (F_spec_Integer (c64 2)) fun r3 => bindP (F_spec_PiI) fun r4 => bindP (F_spec_AddI r3 r4) fun r5 => bindP (F_spec_SqrtI r5) fun r6 => r6)

def F_spec_l20Parallel (a0 : I64) (a1 : Iv) : Iv × Iv :=
  (bif (a0.val == 13) then bindP (F_spec_CosI a1) fun r1 => (r1, a1) else (bif (a0.val == 14) then bindP (F_spec_Integer (c64 2)) fun r2 => bindP (F_spec_l20Root a0) fun r3 => bindP (F_spec_MulI r2 r3) fun r4 => bindP (F_spec_CosI a1) fun r5 => bindP (F_spec_MulI r4 r5) fun r6 => bindP (F_spec_PiI) fun r7 => bindP (F_spec_DivI r6 r7) fun r8 => bindP (F_spec_l20Root a0) fun r9 => bindP (F_spec_SinI a1) fun r10 => bindP (F_spec_MulI r9 r10) fun r11 => (r8, r11) else bindP (F_spec_Integer (c64 1)) fun r12 => bindP (F_spec_CosI a1) fun r13 => bindP (F_spec_AddI r12 r13) fun r14 => bindP (F_spec_l20Root a0) fun r15 => bindP (F_spec_DivI r14 r15) fun r16 => bindP (F_spec_Integer (c64 2)) fun r17 => bindP (F_spec_MulI r17 a1) fun r18 => bindP (F_spec_l20Root a0) fun r19 => bindP (F_spec_DivI r18 r19) fun r20 => (r16, r20)))

def F_spec_ParallelOf (a0 : I64) (a1 : Iv) : Iv × Iv :=
  bindP (F_spec_l20Kind a0) fun r1 => (bif (!r1) then bindP (F_spec_Whole) fun r2 => bindP (F_spec_Whole) fun r3 => (r2, r3) else bindP (F_spec_ThetaOf a0 a1) fun r4 => bindP (F_spec_l20Parallel a0 r4) fun r5 => (r5.1, r5.2))

def F_spec_IsWhole (a0 : Iv) : Bool :=
  bindP (F_spec_l04Ok a0) fun r1 => (!r1)

def F_spec_PseudoForward (a0 : Pj) (a1 : Pt) : Pn × I64 :=
  bindP (F_spec_l20Ok__pPj a0) fun r1 => (bif (!r1) then ((⟨(⟨(c64 0), (c64 0)⟩ : Iv), (⟨(c64 0), (c64 0)⟩ : Iv)⟩ : Pn), (c64 1)) else bindP (F_spec_l11Ok a1) fun r2 => (bif (!r2) then ((⟨(⟨(c64 0), (c64 0)⟩ : Iv), (⟨(c64 0), (c64 0)⟩ : Iv)⟩ : Pn), (c64 1)) else bindP (F_spec_RadiansOf a1.lat) fun r3 => bindP (F_spec_ParallelOf a0.kind r3) fun r4 => bindP (F_spec_l11Wrap (w64 (a1.lon.val - a0.lon0.val))) fun r5 => bindP (F_spec_RadiansOf r5) fun r6 => bindP (F_spec_MulI r6 r4.1) fun r7 => bindP (F_spec_IsWhole r7) fun r8 => (bif r8 then ((⟨(⟨(c64 0), (c64 0)⟩ : Iv), (⟨(c64 0), (c64 0)⟩ : Iv)⟩ : Pn), (c64 9)) else bindP (F_spec_IsWhole r4.2) fun r9 => (bif r9 then ((⟨(⟨(c64 0), (c64 0)⟩ : Iv), (⟨(c64 0), (c64 0)⟩ : Iv)⟩ : Pn), (c64 9)) else ((⟨r7, r4.2⟩ : Pn), (c64 0))))))

def F_impl_normalI (a0 : Iv) : Iv :=
  bindP (F_impl_bounded a0.lo a0.hi true) fun r1 => r1

def F_impl_CircleAt (a0 : I64) : Iv :=
  bindP (F_impl_within a0 (c64 (-4294967296)) (c64 4294967296)) fun r1 => (bif (!r1) then bindP (F_impl_Whole) fun r2 => r2 else bindP (F_impl_SqrtFloor (w64 (4294967296 - a0.val)) (w64 (4294967296 + a0.val))) fun r3 => bindP (F_impl_WideMul r3.1 r3.1) fun r4 => bindP (F_impl_WideMul (w64 (4294967296 - a0.val)) (w64 (4294967296 + a0.val))) fun r5 => (bif ((r4.hi.val == r5.hi.val) && (r4.lo.val == r5.lo.val)) then bindP (F_impl_at r3.1) fun r6 => r6 else (⟨r3.1, (w64 (r3.1.val + 1))⟩ : Iv)))

def F_impl_isOpen (a0 : I64) : Bool :=
  (bif (decide ((-1152921504606846976) < a0.val)) then (decide (a0.val < 1152921504606846976)) else false)

def F_impl_halved (a0 : Iv) : Iv :=
  bindP (F_impl_Integer (c64 1)) fun r1 => bindP (F_impl_Integer (c64 1)) fun r2 => bindP (F_impl_SqrI a0) fun r3 => bindP (F_impl_AddI r2 r3) fun r4 => bindP (F_impl_SqrtI r4) fun r5 => bindP (F_impl_AddI r1 r5) fun r6 => bindP (F_impl_DivI a0 r6) fun r7 => r7

def F_impl_FixFloor (a0 : I64) (a1 : I64) : I64 × Bool :=
  bindP (F_impl_MulDivFloor a0 (c64 4294967296) a1) fun r1 => bindP (F_impl_fixed r1.1 r1.2) fun r2 => (r2.1, r2.2)

def F_impl_mulDivCeil (a0 : I64) (a1 : I64) (a2 : I64) : I64 × Bool :=
  bindP (F_impl_WideMul a0 a1) fun r1 => bindP (F_impl_WideDiv r1 a2) fun r2 => (bif (!r2.2.2) then ((c64 0), false) else bindP (F_impl_WideInt r2.1) fun r3 => (bif (!r3.2) then ((c64 0), false) else (bif (decide (r2.2.1.val > 0)) then (bif (r3.1.val == 9223372036854775807) then ((c64 0), false) else (bif (decide (r2.2.1.val > 0)) then ((w64 (r3.1.val + 1)), true) else (r3.1, true))) else (bif (decide (r2.2.1.val > 0)) then ((w64 (r3.1.val + 1)), true) else (r3.1, true)))))

def F_impl_FixCeil (a0 : I64) (a1 : I64) : I64 × Bool :=
  bindP (F_impl_mulDivCeil a0 (c64 4294967296) a1) fun r1 => bindP (F_impl_fixed r1.1 r1.2) fun r2 => (r2.1, r2.2)

def F_impl_Quotient (a0 : I64) (a1 : I64) : Iv :=
  (bif (decide (a1.val < 0)) then (bif (decide ((w64 (0 - a1.val)).val < 0)) then bindP (F_impl_Whole) fun r1 => r1 else (bif ((w64 (0 - a0.val)).val == (-9223372036854775808)) then bindP (F_impl_Whole) fun r2 => r2 else bindP (F_impl_FixFloor (w64 (0 - a0.val)) (w64 (0 - a1.val))) fun r3 => bindP (F_impl_FixCeil (w64 (0 - a0.val)) (w64 (0 - a1.val))) fun r4 => (bif r3.2 then bindP (F_impl_bounded r3.1 r4.1 r4.2) fun r5 => r5 else bindP (F_impl_bounded r3.1 r4.1 false) fun r6 => r6))) else bindP (F_impl_FixFloor a0 a1) fun r7 => bindP (F_impl_FixCeil a0 a1) fun r8 => (bif r7.2 then bindP (F_impl_bounded r7.1 r8.1 r8.2) fun r9 => r9 else bindP (F_impl_bounded r7.1 r8.1 false) fun r10 => r10))

def F_impl_ArcSeries (a0 : Iv) : Iv :=
  bindP (F_impl_InsideI a0 (⟨(c64 (-1073741824)), (c64 1073741824)⟩ : Iv)) fun r1 => (bif (!r1) then bindP (F_impl_Whole) fun r2 => r2 else bindP (F_impl_SqrI a0) fun r3 => bindP (F_impl_Quotient (c64 1) (c64 21)) fun r4 => bindP (F_impl_Quotient (c64 1) (c64 19)) fun r5 => bindP (F_impl_MulI r3 r4) fun r6 => bindP (F_impl_SubI r5 r6) fun r7 => bindP (F_impl_Quotient (c64 1) (c64 17)) fun r8 => bindP (F_impl_MulI r3 r7) fun r9 => bindP (F_impl_SubI r8 r9) fun r10 => bindP (F_impl_Quotient (c64 1) (c64 15)) fun r11 => bindP (F_impl_MulI r3 r10) fun r12 => bindP (F_impl_SubI r11 r12) fun r13 => bindP (F_impl_Quotient (c64 1) (c64 13)) fun r14 => bindP (F_impl_MulI r3 r13) fun r15 => bindP (F_impl_SubI r14 r15) fun r16 => bindP (F_impl_Quotient (c64 1) (c64 11)) fun r17 => bindP (F_impl_MulI r3 r16) fun r18 => bindP (F_impl_SubI r17 r18) fun r19 => bindP (F_impl_Quotient (c64 1) (c64 9)) fun r20 => bindP (F_impl_MulI r3 r19) fun r21 => bindP (F_impl_SubI r20 r21) fun r22 => bindP (F_impl_Quotient (c64 1) (c64 7)) fun r23 => bindP (F_impl_MulI r3 r22) fun r24 => bindP (F_impl_SubI r23 r24) fun r25 => bindP (F_impl_Quotient (c64 1) (c64 5)) fun r26 => bindP (F_impl_MulI r3 r25) fun r27 => bindP (F_impl_SubI r26 r27) fun r28 => bindP (F_impl_Quotient (c64 1) (c64 3)) fun r29 => bindP (F_impl_MulI r3 r28) fun r30 => bindP (F_impl_SubI r29 r30) fun r31 => bindP (F_impl_Quotient (c64 1) (c64 1)) fun r32 => bindP (F_impl_MulI r3 r31) fun r33 => bindP (F_impl_SubI r32 r33) fun r34 => bindP (F_impl_MulI a0 r34) fun r35 => bindP (F_impl_tiny) fun r36 => bindP (F_impl_AddI r35 r36) fun r37 => r37)

def F_impl_DoubleI (a0 : Iv) : Iv :=
  bindP (F_impl_AddI a0 a0) fun r1 => r1

def F_impl_fourfold (a0 : Iv) : Iv :=
  bindP (F_impl_halved a0) fun r1 => bindP (F_impl_halved r1) fun r2 => bindP (F_impl_ArcSeries r2) fun r3 => bindP (F_impl_DoubleI r3) fun r4 => bindP (F_impl_DoubleI r4) fun r5 => r5

def F_impl_AtanAt_b (self : I64 → Iv) (a0 : I64) : Iv :=
  bindP (F_impl_isOpen a0) fun r1 => (bif (!r1) then bindP (F_impl_halfCircle) fun r3 => r3 else (bif (decide (a0.val < 0)) then bindP (self (w64 (0 - a0.val))) fun r5 => bindP (F_impl_NegI r5) fun r6 => r6 else (bif (decide (a0.val > 4294967296)) then bindP (F_impl_TurnI (c64 1)) fun r8 => bindP (F_impl_Integer (c64 1)) fun r9 => bindP (F_impl_at a0) fun r10 => bindP (F_impl_DivI r9 r10) fun r11 => bindP (F_impl_fourfold r11) fun r12 => bindP (F_impl_SubI r8 r12) fun r13 => r13 else bindP (F_impl_at a0) fun r14 => bindP (F_impl_fourfold r14) fun r15 => r15)))
def F_impl_AtanAt_r : Nat → I64 → Iv
  | 0, _ => (⟨(c64 0), (c64 0)⟩ : Iv)
  | fu + 1, a0 => F_impl_AtanAt_b (F_impl_AtanAt_r fu) a0
def F_impl_AtanAt (a0 : I64) : Iv := F_impl_AtanAt_r 2 a0

def F_impl_AtanI (a0 : Iv) : Iv :=
  bindP (F_impl_IsWhole a0) fun r1 => (bif r1 then bindP (F_impl_halfCircle) fun r2 => r2 else bindP (F_impl_AtanAt a0.lo) fun r3 => bindP (F_impl_AtanAt a0.hi) fun r4 => bindP (F_impl_HullI r3 r4) fun r5 => r5)

def F_impl_AsinAt (a0 : I64) : Iv :=
  bindP (F_impl_within a0 (c64 (-4294967296)) (c64 4294967296)) fun r1 => (bif (!r1) then bindP (F_impl_Whole) fun r2 => r2 else bindP (F_impl_at a0) fun r3 => bindP (F_impl_Integer (c64 1)) fun r4 => bindP (F_impl_CircleAt a0) fun r5 => bindP (F_impl_AddI r4 r5) fun r6 => bindP (F_impl_DivI r3 r6) fun r7 => bindP (F_impl_AtanI r7) fun r8 => bindP (F_impl_DoubleI r8) fun r9 => bindP (F_impl_halfCircle) fun r10 => bindP (F_impl_MeetI r9 r10) fun r11 => r11.1)

def F_impl_AsinI (a0 : Iv) : Iv :=
  bindP (F_impl_ring) fun r1 => bindP (F_impl_MeetI a0 r1) fun r2 => (bif (!r2.2) then bindP (F_impl_Whole) fun r3 => r3 else bindP (F_impl_AsinAt r2.1.lo) fun r4 => bindP (F_impl_AsinAt r2.1.hi) fun r5 => bindP (F_impl_HullI r4 r5) fun r6 => r6)

def F_impl_HalfI (a0 : Iv) : Iv :=
  bindP (F_impl_IsWhole a0) fun r1 => (bif r1 then bindP (F_impl_Whole) fun r2 => r2 else (⟨(ishr a0.lo 1), (ishr (w64 (a0.hi.val + 1)) 1)⟩ : Iv))

def F_impl_inverseParameter (a0 : I64) (a1 : Iv) : Iv :=
  (bif (a0.val == 13) then bindP (F_impl_normalI a1) fun r1 => r1 else (bif (a0.val == 14) then bindP (F_impl_pseudoRadius a0) fun r2 => bindP (F_impl_DivI a1 r2) fun r3 => bindP (F_impl_AsinI r3) fun r4 => r4 else bindP (F_impl_pseudoRadius a0) fun r5 => bindP (F_impl_MulI a1 r5) fun r6 => bindP (F_impl_HalfI r6) fun r7 => r7))

def F_impl_poleHeight (a0 : I64) : Iv :=
  (bif (a0.val == 13) then bindP (F_impl_TurnI (c64 1)) fun r1 => r1 else (bif (a0.val == 14) then bindP (F_impl_pseudoRadius a0) fun r2 => r2 else bindP (F_impl_PiI) fun r3 => bindP (F_impl_pseudoRadius a0) fun r4 => bindP (F_impl_DivI r3 r4) fun r5 => r5))

def F_impl_LessI (a0 : Iv) (a1 : Iv) : I64 :=
  bindP (F_impl_areBounded a0 a1) fun r1 => (bif (!r1) then (c64 2) else (bif (decide (a0.hi.val < a1.lo.val)) then (c64 1) else (bif (decide (a0.lo.val ≥ a1.hi.val)) then (c64 0) else (c64 2))))

def F_impl_latitudeFor (a0 : I64) (a1 : Iv) : Iv :=
  (bif (a0.val == 13) then a1 else (bif (a0.val == 14) then bindP (F_impl_DoubleI a1) fun r1 => bindP (F_impl_SinI r1) fun r2 => bindP (F_impl_AddI r1 r2) fun r3 => bindP (F_impl_leftFactor a0) fun r4 => bindP (F_impl_DivI r3 r4) fun r5 => bindP (F_impl_AsinI r5) fun r6 => r6 else bindP (F_impl_SinI a1) fun r7 => bindP (F_impl_AddI a1 r7) fun r8 => bindP (F_impl_leftFactor a0) fun r9 => bindP (F_impl_DivI r8 r9) fun r10 => bindP (F_impl_AsinI r10) fun r11 => r11))

def F_impl_knownI (a0 : Iv) : Iv × I64 :=
  bindP (F_impl_IsWhole a0) fun r1 => (bif r1 then ((⟨(c64 0), (c64 0)⟩ : Iv), (c64 9)) else (a0, (c64 0)))

def F_impl_PseudoInverse (a0 : Pj) (a1 : Pn) : Iv × Iv × I64 :=
  bindP (F_impl_isPseudoOne a0) fun r1 => (bif (!r1) then ((⟨(c64 0), (c64 0)⟩ : Iv), (⟨(c64 0), (c64 0)⟩ : Iv), (c64 1)) else bindP (F_impl_inverseParameter a0.kind a1.y) fun r2 => bindP (F_impl_parallelLength a0.kind r2) fun r3 => bindP (F_impl_DivI a1.x r3) fun r4 => bindP (F_impl_poleHeight a0.kind) fun r5 => bindP (F_impl_AbsI a1.y) fun r6 => bindP (F_impl_LessI r5 r6) fun r7 => (bif (r7.val == 1) then ((⟨(c64 0), (c64 0)⟩ : Iv), (⟨(c64 0), (c64 0)⟩ : Iv), (c64 8)) else bindP (F_impl_PiI) fun r8 => bindP (F_impl_AbsI r4) fun r9 => bindP (F_impl_LessI r8 r9) fun r10 => (bif (r10.val == 1) then ((⟨(c64 0), (c64 0)⟩ : Iv), (⟨(c64 0), (c64 0)⟩ : Iv), (c64 8)) else bindP (F_impl_latitudeFor a0.kind r2) fun r11 => bindP (F_impl_knownI r11) fun r12 => (bif (r12.2.val != 0) then ((⟨(c64 0), (c64 0)⟩ : Iv), (⟨(c64 0), (c64 0)⟩ : Iv), r12.2) else bindP (F_impl_RadiansOf a0.lon0) fun r13 => bindP (F_impl_AddI r13 r4) fun r14 => (r12.1, r14, (c64 0))))))

def F_impl_NotAnswer (a0 : I64) : I64 :=
  (bif (a0.val == 0) then (c64 1) else (bif (a0.val == 1) then (c64 0) else (c64 2)))

def F_impl_AndAnswer (a0 : I64) (a1 : I64) : I64 :=
  (bif (a0.val == 0) then (c64 0) else (bif (a1.val == 0) then (c64 0) else (bif (a0.val == 1) then (bif (a1.val == 1) then (c64 1) else (c64 2)) else (c64 2))))

def F_impl_OrAnswer (a0 : I64) (a1 : I64) : I64 :=
  bindP (F_impl_NotAnswer a0) fun r1 => bindP (F_impl_NotAnswer a1) fun r2 => bindP (F_impl_AndAnswer r1 r2) fun r3 => bindP (F_impl_NotAnswer r3) fun r4 => r4

def F_impl_OnMap (a0 : Pj) (a1 : Pn) : I64 × I64 :=
  bindP (F_impl_isPseudoOne a0) fun r1 => (bif (!r1) then ((c64 0), (c64 1)) else bindP (F_impl_inverseParameter a0.kind a1.y) fun r2 => bindP (F_impl_parallelLength a0.kind r2) fun r3 => bindP (F_impl_poleHeight a0.kind) fun r4 => bindP (F_impl_AbsI a1.y) fun r5 => bindP (F_impl_LessI r4 r5) fun r6 => bindP (F_impl_PiI) fun r7 => bindP (F_impl_MulI r7 r3) fun r8 => bindP (F_impl_AbsI a1.x) fun r9 => bindP (F_impl_LessI r8 r9) fun r10 => bindP (F_impl_OrAnswer r6 r10) fun r11 => bindP (F_impl_NotAnswer r11) fun r12 => (r12, (c64 0)))

def F_spec_LatOf (a0 : Pt) : Iv :=
  bindP (F_spec_l11Ok a0) fun r1 => (bif (!r1) then bindP (F_spec_Whole) fun r2 => r2 else bindP (F_spec_RadiansOf a0.lat) fun r3 => r3)

def F_spec_l11Pole (a0 : Pt) : Bool :=
  (bif (a0.lat.val == 900000000) then true else (a0.lat.val == (-900000000)))

def F_spec_AtPoint (a0 : Iv) (a1 : Iv) (a2 : Pt) : Bool :=
  bindP (F_spec_l11Ok a2) fun r1 => (bif (!r1) then false else bindP (F_spec_LatOf a2) fun r2 => bindP (F_spec_OverlapI a0 r2) fun r3 => (bif (!r3) then false else bindP (F_spec_l11Pole a2) fun r4 => (bif r4 then true else bindP (F_spec_RadiansOf (w64 (a2.lon.val + (-32400000000)))) fun r5 => bindP (F_spec_OverlapI a1 r5) fun r6 => (bif r6 then true else bindP (F_spec_RadiansOf (w64 (a2.lon.val + (-28800000000)))) fun r7 => bindP (F_spec_OverlapI a1 r7) fun r8 => (bif r8 then true else bindP (F_spec_RadiansOf (w64 (a2.lon.val + (-25200000000)))) fun r9 => bindP (F_spec_OverlapI a1 r9) fun r10 => (bif r10 then true else bindP (F_spec_RadiansOf (w64 (a2.lon.val + (-21600000000)))) fun r11 => bindP (F_spec_OverlapI a1 r11) fun r12 => (bif r12 then true else bindP (F_spec_RadiansOf (w64 (a2.lon.val + (-18000000000)))) fun r13 => bindP (F_spec_OverlapI a1 r13) fun r14 => (bif r14 then true else bindP (F_spec_RadiansOf (w64 (a2.lon.val + (-14400000000)))) fun r15 => bindP (F_spec_OverlapI a1 r15) fun r16 => (bif r16 then true else bindP (F_spec_RadiansOf (w64 (a2.lon.val + (-10800000000)))) fun r17 => bindP (F_spec_OverlapI a1 r17) fun r18 => (bif r18 then true else bindP (F_spec_RadiansOf (w64 (a2.lon.val + (-7200000000)))) fun r19 => bindP (F_spec_OverlapI a1 r19) fun r20 => (bif r20 then true else bindP (F_spec_RadiansOf (w64 (a2.lon.val + (-3600000000)))) fun r21 => bindP (F_spec_OverlapI a1 r21) fun r22 => (bif r22 then true else bindP (F_spec_RadiansOf (w64 (a2.lon.val + 0))) fun r23 => bindP (F_spec_OverlapI a1 r23) fun r24 => (bif r24 then true else bindP (F_spec_RadiansOf (w64 (a2.lon.val + 3600000000))) fun r25 => bindP (F_spec_OverlapI a1 r25) fun r26 => (bif r26 then true else bindP (F_spec_RadiansOf (w64 (a2.lon.val + 7200000000))) fun r27 => bindP (F_spec_OverlapI a1 r27) fun r28 => (bif r28 then true else bindP (F_spec_RadiansOf (w64 (a2.lon.val + 10800000000))) fun r29 => bindP (F_spec_OverlapI a1 r29) fun r30 => (bif r30 then true else bindP (F_spec_RadiansOf (w64 (a2.lon.val + 14400000000))) fun r31 => bindP (F_spec_OverlapI a1 r31) fun r32 => (bif r32 then true else bindP (F_spec_RadiansOf (w64 (a2.lon.val + 18000000000))) fun r33 => bindP (F_spec_OverlapI a1 r33) fun r34 => (bif r34 then true else bindP (F_spec_RadiansOf (w64 (a2.lon.val + 21600000000))) fun r35 => bindP (F_spec_OverlapI a1 r35) fun r36 => (bif r36 then true else bindP (F_spec_RadiansOf (w64 (a2.lon.val + 25200000000))) fun r37 => bindP (F_spec_OverlapI a1 r37) fun r38 => (bif r38 then true else bindP (F_spec_RadiansOf (w64 (a2.lon.val + 28800000000))) fun r39 => bindP (F_spec_OverlapI a1 r39) fun r40 => (bif r40 then true else bindP (F_spec_RadiansOf (w64 (a2.lon.val + 32400000000))) fun r41 => bindP (F_spec_OverlapI a1 r41) fun r42 => (bif r42 then true else false))))))))))))))))))))))

def F_spec_DoubleI (a0 : Iv) : Iv :=
  bindP (F_spec_l04Ok a0) fun r1 => (bif (!r1) then bindP (F_spec_l04Whole) fun r2 => r2 else bindP (F_spec_l04Make (w64 (2 * a0.lo.val)) (w64 (2 * a0.hi.val))) fun r3 => r3)

def F_laws_FnPseudo (c0 : Cd) (c1 : Cd) : Bool :=
  bindP (F_laws_d8Long c0 c1) fun r1 => (bif r1 then true else bindP (F_spec_E8Pseudo c0) fun r2 => bindP (F_spec_E8Point c1) fun r3 => bindP (F_impl_PseudoForward r2 r3) fun r4 => (bif (r4.2.val != 0) then bindP (F_spec_PseudoForward r2 r3) fun r5 => (r4.2.val == r5.2.val) else bindP (F_impl_PseudoInverse r2 r4.1) fun r6 => bindP (F_impl_OnMap r2 r4.1) fun r7 => (bif (r6.2.2.val != 0) then false else (bif (r7.2.val != 0) then false else (bif (r7.1.val == 0) then false else bindP (F_spec_AtPoint r6.1 r6.2.1 r3) fun r8 => (bif (!r8) then false else bindP (F_spec_LatOf r3) fun r9 => bindP (F_impl_ThetaOf r2.kind r9) fun r10 => bindP (F_spec_LatOf r3) fun r11 => bindP (F_spec_SinI r11) fun r12 => (bif (r2.kind.val == 14) then bindP (F_spec_DoubleI r10) fun r13 => bindP (F_spec_SinI r13) fun r14 => bindP (F_spec_AddI r13 r14) fun r15 => bindP (F_spec_PiI) fun r16 => bindP (F_spec_MulI r16 r12) fun r17 => bindP (F_spec_OverlapI r15 r17) fun r18 => r18 else (bif (r2.kind.val == 15) then bindP (F_spec_SinI r10) fun r19 => bindP (F_spec_AddI r10 r19) fun r20 => bindP (F_spec_Integer (c64 1)) fun r21 => bindP (F_spec_TurnI (c64 1)) fun r22 => bindP (F_spec_AddI r21 r22) fun r23 => bindP (F_spec_MulI r23 r12) fun r24 => bindP (F_spec_OverlapI r20 r24) fun r25 => r25 else bindP (F_spec_LatOf r3) fun r26 => bindP (F_spec_OverlapI r10 r26) fun r27 => r27))))))))



















end Go.Proofs.YtcdkepbgjgcjfaaGreat.Abs
