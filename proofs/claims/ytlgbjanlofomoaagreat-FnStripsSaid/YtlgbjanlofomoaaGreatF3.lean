/- The functions, on numbers; part 3 (written by w.py). -/
import Derived.Test.YtlgbjanlofomoaaGreatF2
set_option linter.unusedVariables false
set_option linter.unusedSimpArgs false
namespace Go.Proofs.YtlgbjanlofomoaaGreat.Abs
open Go Go.RowKit

def F_spec_l06Meet (a0 : Iv) : Iv :=
  bindP (F_spec_l06Ring) fun r1 => bindP (F_spec_MeetI a0 r1) fun r2 => (bif (!r2.2) then bindP (F_spec_l06Ring) fun r3 => r3 else r2.1)

def F_spec_CosSeries (a0 : Iv) : Iv :=
  bindP (F_spec_l06Ring) fun r1 => bindP (F_spec_InsideI a0 r1) fun r2 => (bif (!r2) then bindP (F_spec_Whole) fun r3 => r3 else bindP (F_spec_SqrI a0) fun r4 => bindP (F_spec_l06Series r4 (c64 (-1))) fun r5 => bindP (F_spec_l06Tiny) fun r6 => bindP (F_spec_AddI r5 r6) fun r7 => r7)

def F_spec_l06At (a0 : I64) (a1 : I64) : Iv :=
  bindP (F_spec_l06Angle a0) fun r1 => (bif (!r1) then bindP (F_spec_l06Ring) fun r2 => r2 else bindP (F_spec_QuarterOf a0) fun r3 => bindP (F_spec_l05At a0) fun r4 => bindP (F_spec_TurnI r3) fun r5 => bindP (F_spec_SubI r4 r5) fun r6 => (bif ((iand .i64 (w64 (r3.val + a1.val)).val 3).val == 0) then bindP (F_spec_SinSeries r6) fun r7 => bindP (F_spec_l06Meet r7) fun r8 => r8 else (bif ((iand .i64 (w64 (r3.val + a1.val)).val 3).val == 1) then bindP (F_spec_CosSeries r6) fun r9 => bindP (F_spec_l06Meet r9) fun r10 => r10 else (bif ((iand .i64 (w64 (r3.val + a1.val)).val 3).val == 2) then bindP (F_spec_SinSeries r6) fun r11 => bindP (F_spec_NegI r11) fun r12 => bindP (F_spec_l06Meet r12) fun r13 => r13 else bindP (F_spec_CosSeries r6) fun r14 => bindP (F_spec_NegI r14) fun r15 => bindP (F_spec_l06Meet r15) fun r16 => r16))))

def F_spec_HullI (a0 : Iv) (a1 : Iv) : Iv :=
  bindP (F_spec_l04Ok a0) fun r1 => (bif (!r1) then bindP (F_spec_l04Whole) fun r2 => r2 else bindP (F_spec_l04Ok a1) fun r3 => (bif (!r3) then bindP (F_spec_l04Whole) fun r4 => r4 else bindP (F_spec_l00Min a0.lo a1.lo) fun r5 => bindP (F_spec_l00Max a0.hi a1.hi) fun r6 => bindP (F_spec_l04Make r5 r6) fun r7 => r7))

def F_spec_OverlapI (a0 : Iv) (a1 : Iv) : Bool :=
  bindP (F_spec_MeetI a0 a1) fun r1 => r1.2

def F_spec_l06Over_L0 : Nat → I64 → Iv → I64 → Iv → Iv
  | 0, _, _, _, _ => (⟨(c64 0), (c64 0)⟩ : Iv)
  | fu + 1, a1, a0, x_k, y_2 => bindP (F_spec_QuarterOf a0.hi) fun r8 => (bif (decide (x_k.val ≤ (w64 (r8.val + 1)).val)) then bindP (F_spec_TurnI x_k) fun r10 => bindP (F_spec_OverlapI r10 a0) fun r11 => (bif (!r11) then F_spec_l06Over_L0 fu a1 a0 (w64 (x_k.val + 1)) y_2 else (bif ((iand .i64 (w64 (x_k.val + a1.val)).val 3).val == 1) then bindP (F_spec_Integer (c64 1)) fun r14 => bindP (F_spec_HullI y_2 r14) fun r15 => F_spec_l06Over_L0 fu a1 a0 (w64 (x_k.val + 1)) r15 else (bif ((iand .i64 (w64 (x_k.val + a1.val)).val 3).val == 3) then bindP (F_spec_Integer (c64 (-1))) fun r17 => bindP (F_spec_HullI y_2 r17) fun r18 => F_spec_l06Over_L0 fu a1 a0 (w64 (x_k.val + 1)) r18 else F_spec_l06Over_L0 fu a1 a0 (w64 (x_k.val + 1)) y_2))) else y_2)

def F_spec_l06Over (a0 : Iv) (a1 : I64) : Iv :=
  bindP (F_spec_l06Fits a0) fun r1 => (bif (!r1) then bindP (F_spec_l06Ring) fun r3 => r3 else bindP (F_spec_l06At a0.lo a1) fun r4 => bindP (F_spec_l06At a0.hi a1) fun r5 => bindP (F_spec_HullI r4 r5) fun r6 => bindP (F_spec_QuarterOf a0.lo) fun r7 => F_spec_l06Over_L0 ((2000 - (w64 (r7.val - 1)).val).toNat + 1) a1 a0 (w64 (r7.val - 1)) r6)

def F_spec_CosI (a0 : Iv) : Iv :=
  bindP (F_spec_l06Over a0 (c64 1)) fun r1 => r1

def F_spec_l21Turn__pPj (b0 : Pj) (a0 : Pt) : Iv :=
  bindP (F_spec_l11Wrap (w64 (a0.lon.val - b0.lon0.val))) fun r1 => bindP (F_spec_RadiansOf r1) fun r2 => r2

def F_spec_SinI (a0 : Iv) : Iv :=
  bindP (F_spec_l06Over a0 (c64 0)) fun r1 => r1

def F_spec_l21Side__pPj (b0 : Pj) (a0 : Pt) : Iv :=
  bindP (F_spec_RadiansOf a0.lat) fun r1 => bindP (F_spec_CosI r1) fun r2 => bindP (F_spec_l21Turn__pPj b0 a0) fun r3 => bindP (F_spec_SinI r3) fun r4 => bindP (F_spec_MulI r2 r4) fun r5 => r5

def F_spec_l08At (a0 : I64) : Iv :=
  bindP (F_spec_l04Make a0 a0) fun r1 => r1

def F_spec_l08One : Iv :=
  bindP (F_spec_l08At (c64 4294967296)) fun r1 => r1

def F_spec_l03Floor (a0 : I64) (a1 : I64) : I64 × Bool :=
  (bif (decide (a1.val ≤ 0)) then ((c64 0), false) else bindP (F_spec_MulDivFloor a0 (c64 4294967296) a1) fun r1 => bindP (F_spec_l03End r1.1 r1.2) fun r2 => (r2.1, r2.2))

def F_spec_l03Ceil (a0 : I64) (a1 : I64) : I64 × Bool :=
  (bif (decide (a1.val ≤ 0)) then ((c64 0), false) else bindP (F_spec_MulDivFloor a0 (c64 4294967296) a1) fun r1 => (bif (!r1.2) then ((c64 0), false) else (bif ((w64 (r1.1.val * a1.val)).val != (w64 (a0.val * 4294967296)).val) then bindP (F_spec_l03End (w64 (r1.1.val + 1)) true) fun r2 => (r2.1, r2.2) else bindP (F_spec_l03End r1.1 true) fun r3 => (r3.1, r3.2))))

def F_spec_Quotient (a0 : I64) (a1 : I64) : Iv :=
  (bif (decide (a1.val < 0)) then (bif (a0.val == (-9223372036854775808)) then bindP (F_spec_l04Whole) fun r1 => r1 else (bif (a1.val == (-9223372036854775808)) then bindP (F_spec_l04Whole) fun r2 => r2 else bindP (F_spec_l03Floor (w64 (0 - a0.val)) (w64 (0 - a1.val))) fun r3 => bindP (F_spec_l03Ceil (w64 (0 - a0.val)) (w64 (0 - a1.val))) fun r4 => (bif (!r3.2) then bindP (F_spec_l04Whole) fun r5 => r5 else (bif (!r4.2) then bindP (F_spec_l04Whole) fun r6 => r6 else bindP (F_spec_l04Make r3.1 r4.1) fun r7 => r7)))) else bindP (F_spec_l03Floor a0 a1) fun r8 => bindP (F_spec_l03Ceil a0 a1) fun r9 => (bif (!r8.2) then bindP (F_spec_l04Whole) fun r10 => r10 else (bif (!r9.2) then bindP (F_spec_l04Whole) fun r11 => r11 else bindP (F_spec_l04Make r8.1 r9.1) fun r12 => r12)))

def F_spec_l08Widen (a0 : Iv) (a1 : I64) : Iv :=
  bindP (F_spec_l04Ok a0) fun r1 => (bif (!r1) then bindP (F_spec_l04Whole) fun r2 => r2 else bindP (F_spec_l04Make (w64 (a0.lo.val - a1.val)) (w64 (a0.hi.val + a1.val))) fun r3 => r3)

def F_spec_LogTwoI_b (self : I64 → Iv) (a0 : I64) : Iv :=
  bindP (F_spec_l00In a0 (c64 (-64)) (c64 64)) fun r1 => (bif (!r1) then bindP (F_spec_l04Whole) fun r3 => r3 else (bif (decide (a0.val < 0)) then bindP (self (w64 (0 - a0.val))) fun r5 => bindP (F_spec_NegI r5) fun r6 => r6 else bindP (F_spec_MulFloor a0 (c64 1598288580650331957) (c64 29)) fun r7 => bindP (F_spec_MulFloor (w64 (0 - a0.val)) (c64 1598288580650331958) (c64 29)) fun r8 => bindP (F_spec_l04Make r7.1 (w64 (0 - r8.1.val))) fun r9 => r9))
def F_spec_LogTwoI_r : Nat → I64 → Iv
  | 0, _ => (⟨(c64 0), (c64 0)⟩ : Iv)
  | fu + 1, a0 => F_spec_LogTwoI_b (F_spec_LogTwoI_r fu) a0
def F_spec_LogTwoI (a0 : I64) : Iv := F_spec_LogTwoI_r 2 a0

def F_spec_LogAt_L1 : Nat → I64 → I64 → Iv → Iv
  | 0, _, _, _ => (⟨(c64 0), (c64 0)⟩ : Iv)
  | fu + 1, a0, x_e, y_1 => (bif (decide (y_1.lo.val < 3221225472)) then F_spec_LogAt_L1 fu a0 (w64 (x_e.val - 1)) (⟨(ishl .i64 a0.val (wu64 (w64 (0 - (w64 (x_e.val - 1)).val)).val).val), (ishl .i64 a0.val (wu64 (w64 (0 - (w64 (x_e.val - 1)).val)).val).val)⟩ : Iv) else bindP (F_spec_l08One) fun r6 => bindP (F_spec_SubI y_1 r6) fun r7 => bindP (F_spec_l08One) fun r8 => bindP (F_spec_AddI y_1 r8) fun r9 => bindP (F_spec_DivI r7 r9) fun r10 => bindP (F_spec_SqrI r10) fun r11 => bindP (F_spec_Quotient (c64 1) (c64 11)) fun r12 => bindP (F_spec_Quotient (c64 1) (c64 9)) fun r13 => bindP (F_spec_MulI r11 r12) fun r14 => bindP (F_spec_AddI r13 r14) fun r15 => bindP (F_spec_Quotient (c64 1) (c64 7)) fun r16 => bindP (F_spec_MulI r11 r15) fun r17 => bindP (F_spec_AddI r16 r17) fun r18 => bindP (F_spec_Quotient (c64 1) (c64 5)) fun r19 => bindP (F_spec_MulI r11 r18) fun r20 => bindP (F_spec_AddI r19 r20) fun r21 => bindP (F_spec_Quotient (c64 1) (c64 3)) fun r22 => bindP (F_spec_MulI r11 r21) fun r23 => bindP (F_spec_AddI r22 r23) fun r24 => bindP (F_spec_Quotient (c64 1) (c64 1)) fun r25 => bindP (F_spec_MulI r11 r24) fun r26 => bindP (F_spec_AddI r25 r26) fun r27 => bindP (F_spec_Integer (c64 2)) fun r28 => bindP (F_spec_MulI r28 r10) fun r29 => bindP (F_spec_MulI r29 r27) fun r30 => bindP (F_spec_l08Widen r30 (c64 1)) fun r31 => bindP (F_spec_LogTwoI x_e) fun r32 => bindP (F_spec_AddI r32 r31) fun r33 => r33)

def F_spec_LogAt_L0 : Nat → I64 → I64 → Iv → Iv
  | 0, _, _, _ => (⟨(c64 0), (c64 0)⟩ : Iv)
  | fu + 1, a0, x_e, y_1 => (bif (decide (y_1.lo.val ≥ 6442450944)) then F_spec_LogAt_L0 fu a0 (w64 (x_e.val + 1)) (⟨(ishr a0 (wu64 (w64 (x_e.val + 1)).val).val), (w64 (0 - (ishr (w64 (0 - a0.val)) (wu64 (w64 (x_e.val + 1)).val).val).val))⟩ : Iv) else F_spec_LogAt_L1 ((64 + x_e.val).toNat + 1) a0 x_e y_1)

def F_spec_LogAt (a0 : I64) : Iv :=
  bindP (F_spec_l00In a0 (c64 1) (c64 1152921504606846976)) fun r1 => (bif (!r1) then bindP (F_spec_l04Whole) fun r3 => r3 else F_spec_LogAt_L0 ((64 - (c64 0).val).toNat + 1) a0 (c64 0) (⟨a0, a0⟩ : Iv))

def F_spec_l08Ends (a0 : Iv) (a1 : Iv) : Iv :=
  bindP (F_spec_l04Ok a0) fun r1 => (bif (!r1) then bindP (F_spec_l04Whole) fun r2 => r2 else bindP (F_spec_l04Ok a1) fun r3 => (bif (!r3) then bindP (F_spec_l04Whole) fun r4 => r4 else bindP (F_spec_l04Make a0.lo a1.hi) fun r5 => r5))

def F_spec_LogI (a0 : Iv) : Iv :=
  bindP (F_spec_l04Ok a0) fun r1 => (bif (!r1) then bindP (F_spec_l04Whole) fun r2 => r2 else bindP (F_spec_LogAt a0.lo) fun r3 => bindP (F_spec_LogAt a0.hi) fun r4 => bindP (F_spec_l08Ends r3 r4) fun r5 => r5)

def F_spec_HalfI (a0 : Iv) : Iv :=
  bindP (F_spec_l04Ok a0) fun r1 => (bif (!r1) then bindP (F_spec_l04Whole) fun r2 => r2 else bindP (F_spec_l04Make (ishr a0.lo 1) (ishr (w64 (a0.hi.val + 1)) 1)) fun r3 => r3)

def F_spec_l08Atanh_b (self : I64 → Iv) (a0 : I64) : Iv :=
  (bif (decide (a0.val < 0)) then bindP (self (w64 (0 - a0.val))) fun r2 => bindP (F_spec_NegI r2) fun r3 => r3 else (bif (decide (a0.val ≥ 4294967296)) then bindP (F_spec_l04Whole) fun r5 => r5 else bindP (F_spec_l08At (w64 (4294967296 + a0.val))) fun r6 => bindP (F_spec_l08At (w64 (4294967296 - a0.val))) fun r7 => bindP (F_spec_DivI r6 r7) fun r8 => bindP (F_spec_LogI r8) fun r9 => bindP (F_spec_HalfI r9) fun r10 => r10))
def F_spec_l08Atanh_r : Nat → I64 → Iv
  | 0, _ => (⟨(c64 0), (c64 0)⟩ : Iv)
  | fu + 1, a0 => F_spec_l08Atanh_b (F_spec_l08Atanh_r fu) a0
def F_spec_l08Atanh (a0 : I64) : Iv := F_spec_l08Atanh_r 2 a0

def F_spec_AtanhI (a0 : Iv) : Iv :=
  bindP (F_spec_l04Ok a0) fun r1 => (bif (!r1) then bindP (F_spec_l04Whole) fun r3 => r3 else bindP (F_spec_l08Atanh a0.lo) fun r4 => bindP (F_spec_l08Atanh a0.hi) fun r5 => bindP (F_spec_l08Ends r4 r5) fun r6 => r6)

def F_spec_IsWhole (a0 : Iv) : Bool :=
  bindP (F_spec_l04Ok a0) fun r1 => (!r1)

def F_spec_HasI (a0 : Iv) (a1 : I64) : Bool :=
  bindP (F_spec_l04Ok a0) fun r1 => (bif (!r1) then true else bindP (F_spec_l04Has a0 a1) fun r2 => r2)

def F_spec_l07Fix (a0 : I64) : Bool :=
  (bif (decide ((-1152921504606846976) < a0.val)) then (decide (a0.val < 1152921504606846976)) else false)

def F_spec_l07Quarter : Iv :=
  bindP (F_spec_l05Turn (c64 1)) fun r1 => bindP (F_spec_l05Turn (c64 1)) fun r2 => (⟨(w64 (0 - r1.hi.val)), r2.hi⟩ : Iv)

def F_spec_l02Root_L0 : Nat → Wd → U64 → I64 → U64
  | 0, _, _, _ => (cu64 0)
  | fu + 1, a0, x_out, x_i => (bif (decide (x_i.val ≥ 0)) then bindP (F_spec_l02Times (ior .u64 x_out.val (ishl .u64 1 (wu64 x_i.val).val).val) (ior .u64 x_out.val (ishl .u64 1 (wu64 x_i.val).val).val)) fun r2 => (bif (decide (r2.1.val < (wu64 a0.hi.val).val)) then F_spec_l02Root_L0 fu a0 (ior .u64 x_out.val (ishl .u64 1 (wu64 x_i.val).val).val) (w64 (x_i.val - 1)) else (bif (r2.1.val == (wu64 a0.hi.val).val) then (bif (decide (r2.2.val ≤ a0.lo.val)) then F_spec_l02Root_L0 fu a0 (ior .u64 x_out.val (ishl .u64 1 (wu64 x_i.val).val).val) (w64 (x_i.val - 1)) else F_spec_l02Root_L0 fu a0 x_out (w64 (x_i.val - 1))) else F_spec_l02Root_L0 fu a0 x_out (w64 (x_i.val - 1)))) else x_out)

def F_spec_l02Root (a0 : Wd) : U64 :=
  F_spec_l02Root_L0 65 a0 (cu64 0) (c64 63)

def F_spec_SqrtFloor (a0 : I64) (a1 : I64) : I64 × Bool :=
  (bif (decide (a0.val < 0)) then ((c64 0), false) else (bif (decide (a1.val < 0)) then ((c64 0), false) else bindP (F_spec_l02Mul a0 a1) fun r1 => bindP (F_spec_l02Root r1) fun r2 => ((w64 r2.val), true)))

def F_spec_l03SqrtDown (a0 : I64) : I64 × Bool :=
  bindP (F_spec_l00In a0 (c64 0) (c64 1152921504606846976)) fun r1 => (bif (!r1) then ((c64 0), false) else bindP (F_spec_SqrtFloor a0 (c64 4294967296)) fun r2 => (r2.1, r2.2))

def F_spec_l03SqrtUp (a0 : I64) : I64 × Bool :=
  bindP (F_spec_l03SqrtDown a0) fun r1 => (bif (!r1.2) then ((c64 0), false) else bindP (F_spec_MulFloor r1.1 r1.1 (c64 32)) fun r2 => (bif (r2.1.val != a0.val) then ((w64 (r1.1.val + 1)), true) else (bif ((iand .i64 (w64 (r1.1.val * r1.1.val)).val 4294967295).val != 0) then ((w64 (r1.1.val + 1)), true) else (r1.1, true))))

def F_spec_SqrtI (a0 : Iv) : Iv :=
  bindP (F_spec_l04Ok a0) fun r1 => (bif (!r1) then bindP (F_spec_l04Whole) fun r2 => r2 else (bif (decide (a0.lo.val < 0)) then bindP (F_spec_l04Whole) fun r3 => r3 else bindP (F_spec_l03SqrtDown a0.lo) fun r4 => bindP (F_spec_l03SqrtUp a0.hi) fun r5 => bindP (F_spec_l04Make r4.1 r5.1) fun r6 => r6))

def F_spec_l07Halve (a0 : Iv) : Iv :=
  bindP (F_spec_Integer (c64 1)) fun r1 => bindP (F_spec_Integer (c64 1)) fun r2 => bindP (F_spec_SqrI a0) fun r3 => bindP (F_spec_AddI r2 r3) fun r4 => bindP (F_spec_SqrtI r4) fun r5 => bindP (F_spec_AddI r1 r5) fun r6 => bindP (F_spec_DivI a0 r6) fun r7 => r7

def F_spec_ArcSeries (a0 : Iv) : Iv :=
  bindP (F_spec_InsideI a0 (⟨(c64 (-1073741824)), (c64 1073741824)⟩ : Iv)) fun r1 => (bif (!r1) then bindP (F_spec_Whole) fun r2 => r2 else bindP (F_spec_SqrI a0) fun r3 => bindP (F_spec_Quotient (c64 1) (c64 21)) fun r4 => bindP (F_spec_Quotient (c64 1) (c64 19)) fun r5 => bindP (F_spec_MulI r3 r4) fun r6 => bindP (F_spec_SubI r5 r6) fun r7 => bindP (F_spec_Quotient (c64 1) (c64 17)) fun r8 => bindP (F_spec_MulI r3 r7) fun r9 => bindP (F_spec_SubI r8 r9) fun r10 => bindP (F_spec_Quotient (c64 1) (c64 15)) fun r11 => bindP (F_spec_MulI r3 r10) fun r12 => bindP (F_spec_SubI r11 r12) fun r13 => bindP (F_spec_Quotient (c64 1) (c64 13)) fun r14 => bindP (F_spec_MulI r3 r13) fun r15 => bindP (F_spec_SubI r14 r15) fun r16 => bindP (F_spec_Quotient (c64 1) (c64 11)) fun r17 => bindP (F_spec_MulI r3 r16) fun r18 => bindP (F_spec_SubI r17 r18) fun r19 => bindP (F_spec_Quotient (c64 1) (c64 9)) fun r20 => bindP (F_spec_MulI r3 r19) fun r21 => bindP (F_spec_SubI r20 r21) fun r22 => bindP (F_spec_Quotient (c64 1) (c64 7)) fun r23 => bindP (F_spec_MulI r3 r22) fun r24 => bindP (F_spec_SubI r23 r24) fun r25 => bindP (F_spec_Quotient (c64 1) (c64 5)) fun r26 => bindP (F_spec_MulI r3 r25) fun r27 => bindP (F_spec_SubI r26 r27) fun r28 => bindP (F_spec_Quotient (c64 1) (c64 3)) fun r29 => bindP (F_spec_MulI r3 r28) fun r30 => bindP (F_spec_SubI r29 r30) fun r31 => bindP (F_spec_Quotient (c64 1) (c64 1)) fun r32 => bindP (F_spec_MulI r3 r31) fun r33 => bindP (F_spec_SubI r32 r33) fun r34 => bindP (F_spec_MulI a0 r34) fun r35 => bindP (F_spec_l06Tiny) fun r36 => bindP (F_spec_AddI r35 r36) fun r37 => r37)

def F_spec_DoubleI (a0 : Iv) : Iv :=
  bindP (F_spec_l04Ok a0) fun r1 => (bif (!r1) then bindP (F_spec_l04Whole) fun r2 => r2 else bindP (F_spec_l04Make (w64 (2 * a0.lo.val)) (w64 (2 * a0.hi.val))) fun r3 => r3)

def F_spec_l07Core (a0 : Iv) : Iv :=
  bindP (F_spec_l07Halve a0) fun r1 => bindP (F_spec_l07Halve r1) fun r2 => bindP (F_spec_ArcSeries r2) fun r3 => bindP (F_spec_DoubleI r3) fun r4 => bindP (F_spec_DoubleI r4) fun r5 => r5

def F_spec_AtanAt_b (self : I64 → Iv) (a0 : I64) : Iv :=
  bindP (F_spec_l07Fix a0) fun r1 => (bif (!r1) then bindP (F_spec_l07Quarter) fun r3 => r3 else (bif (decide (a0.val < 0)) then bindP (self (w64 (0 - a0.val))) fun r5 => bindP (F_spec_NegI r5) fun r6 => r6 else (bif (decide (a0.val > 4294967296)) then bindP (F_spec_TurnI (c64 1)) fun r8 => bindP (F_spec_Integer (c64 1)) fun r9 => bindP (F_spec_l05At a0) fun r10 => bindP (F_spec_DivI r9 r10) fun r11 => bindP (F_spec_l07Core r11) fun r12 => bindP (F_spec_SubI r8 r12) fun r13 => r13 else bindP (F_spec_l05At a0) fun r14 => bindP (F_spec_l07Core r14) fun r15 => r15)))
def F_spec_AtanAt_r : Nat → I64 → Iv
  | 0, _ => (⟨(c64 0), (c64 0)⟩ : Iv)
  | fu + 1, a0 => F_spec_AtanAt_b (F_spec_AtanAt_r fu) a0
def F_spec_AtanAt (a0 : I64) : Iv := F_spec_AtanAt_r 2 a0

def F_spec_AtanI (a0 : Iv) : Iv :=
  bindP (F_spec_IsWhole a0) fun r1 => (bif r1 then bindP (F_spec_l07Quarter) fun r2 => r2 else bindP (F_spec_AtanAt a0.lo) fun r3 => bindP (F_spec_AtanAt a0.hi) fun r4 => bindP (F_spec_HullI r3 r4) fun r5 => r5)

def F_spec_DirectionAt (a0 : I64) (a1 : I64) : Iv :=
  bindP (F_spec_l07Fix a0) fun r1 => (bif (!r1) then bindP (F_spec_Whole) fun r2 => r2 else bindP (F_spec_l07Fix a1) fun r3 => (bif (!r3) then bindP (F_spec_Whole) fun r4 => r4 else (bif (a1.val == 0) then (bif (a0.val == 0) then bindP (F_spec_Whole) fun r5 => r5 else (bif (decide (a0.val < 0)) then (bif (decide ((w64 (0 - a0.val)).val > a1.val)) then (bif (decide ((w64 (0 - a0.val)).val > (w64 (0 - a1.val)).val)) then (bif (decide (a0.val < 0)) then bindP (F_spec_TurnI (c64 (-1))) fun r6 => bindP (F_spec_l05At a1) fun r7 => bindP (F_spec_l05At a0) fun r8 => bindP (F_spec_DivI r7 r8) fun r9 => bindP (F_spec_AtanI r9) fun r10 => bindP (F_spec_SubI r6 r10) fun r11 => r11 else bindP (F_spec_TurnI (c64 1)) fun r12 => bindP (F_spec_l05At a1) fun r13 => bindP (F_spec_l05At a0) fun r14 => bindP (F_spec_DivI r13 r14) fun r15 => bindP (F_spec_AtanI r15) fun r16 => bindP (F_spec_SubI r12 r16) fun r17 => r17) else (bif (decide (a1.val > 0)) then bindP (F_spec_l05At a0) fun r18 => bindP (F_spec_l05At a1) fun r19 => bindP (F_spec_DivI r18 r19) fun r20 => bindP (F_spec_AtanI r20) fun r21 => r21 else (bif (decide (a0.val < 0)) then bindP (F_spec_l05At a0) fun r22 => bindP (F_spec_l05At a1) fun r23 => bindP (F_spec_DivI r22 r23) fun r24 => bindP (F_spec_AtanI r24) fun r25 => bindP (F_spec_TurnI (c64 (-2))) fun r26 => bindP (F_spec_AddI r25 r26) fun r27 => r27 else bindP (F_spec_l05At a0) fun r28 => bindP (F_spec_l05At a1) fun r29 => bindP (F_spec_DivI r28 r29) fun r30 => bindP (F_spec_AtanI r30) fun r31 => bindP (F_spec_TurnI (c64 2)) fun r32 => bindP (F_spec_AddI r31 r32) fun r33 => r33))) else (bif (decide (a1.val > 0)) then bindP (F_spec_l05At a0) fun r34 => bindP (F_spec_l05At a1) fun r35 => bindP (F_spec_DivI r34 r35) fun r36 => bindP (F_spec_AtanI r36) fun r37 => r37 else (bif (decide (a0.val < 0)) then bindP (F_spec_l05At a0) fun r38 => bindP (F_spec_l05At a1) fun r39 => bindP (F_spec_DivI r38 r39) fun r40 => bindP (F_spec_AtanI r40) fun r41 => bindP (F_spec_TurnI (c64 (-2))) fun r42 => bindP (F_spec_AddI r41 r42) fun r43 => r43 else bindP (F_spec_l05At a0) fun r44 => bindP (F_spec_l05At a1) fun r45 => bindP (F_spec_DivI r44 r45) fun r46 => bindP (F_spec_AtanI r46) fun r47 => bindP (F_spec_TurnI (c64 2)) fun r48 => bindP (F_spec_AddI r47 r48) fun r49 => r49))) else (bif (decide (a0.val > a1.val)) then (bif (decide (a0.val > (w64 (0 - a1.val)).val)) then (bif (decide (a0.val < 0)) then bindP (F_spec_TurnI (c64 (-1))) fun r50 => bindP (F_spec_l05At a1) fun r51 => bindP (F_spec_l05At a0) fun r52 => bindP (F_spec_DivI r51 r52) fun r53 => bindP (F_spec_AtanI r53) fun r54 => bindP (F_spec_SubI r50 r54) fun r55 => r55 else bindP (F_spec_TurnI (c64 1)) fun r56 => bindP (F_spec_l05At a1) fun r57 => bindP (F_spec_l05At a0) fun r58 => bindP (F_spec_DivI r57 r58) fun r59 => bindP (F_spec_AtanI r59) fun r60 => bindP (F_spec_SubI r56 r60) fun r61 => r61) else (bif (decide (a1.val > 0)) then bindP (F_spec_l05At a0) fun r62 => bindP (F_spec_l05At a1) fun r63 => bindP (F_spec_DivI r62 r63) fun r64 => bindP (F_spec_AtanI r64) fun r65 => r65 else (bif (decide (a0.val < 0)) then bindP (F_spec_l05At a0) fun r66 => bindP (F_spec_l05At a1) fun r67 => bindP (F_spec_DivI r66 r67) fun r68 => bindP (F_spec_AtanI r68) fun r69 => bindP (F_spec_TurnI (c64 (-2))) fun r70 => bindP (F_spec_AddI r69 r70) fun r71 => r71 else bindP (F_spec_l05At a0) fun r72 => bindP (F_spec_l05At a1) fun r73 => bindP (F_spec_DivI r72 r73) fun r74 => bindP (F_spec_AtanI r74) fun r75 => bindP (F_spec_TurnI (c64 2)) fun r76 => bindP (F_spec_AddI r75 r76) fun r77 => r77))) else (bif (decide (a1.val > 0)) then bindP (F_spec_l05At a0) fun r78 => bindP (F_spec_l05At a1) fun r79 => bindP (F_spec_DivI r78 r79) fun r80 => bindP (F_spec_AtanI r80) fun r81 => r81 else (bif (decide (a0.val < 0)) then bindP (F_spec_l05At a0) fun r82 => bindP (F_spec_l05At a1) fun r83 => bindP (F_spec_DivI r82 r83) fun r84 => bindP (F_spec_AtanI r84) fun r85 => bindP (F_spec_TurnI (c64 (-2))) fun r86 => bindP (F_spec_AddI r85 r86) fun r87 => r87 else bindP (F_spec_l05At a0) fun r88 => bindP (F_spec_l05At a1) fun r89 => bindP (F_spec_DivI r88 r89) fun r90 => bindP (F_spec_AtanI r90) fun r91 => bindP (F_spec_TurnI (c64 2)) fun r92 => bindP (F_spec_AddI r91 r92) fun r93 => r93))))) else (bif (decide (a0.val < 0)) then (bif (decide ((w64 (0 - a0.val)).val > a1.val)) then (bif (decide ((w64 (0 - a0.val)).val > (w64 (0 - a1.val)).val)) then (bif (decide (a0.val < 0)) then bindP (F_spec_TurnI (c64 (-1))) fun r94 => bindP (F_spec_l05At a1) fun r95 => bindP (F_spec_l05At a0) fun r96 => bindP (F_spec_DivI r95 r96) fun r97 => bindP (F_spec_AtanI r97) fun r98 => bindP (F_spec_SubI r94 r98) fun r99 => r99 else bindP (F_spec_TurnI (c64 1)) fun r100 => bindP (F_spec_l05At a1) fun r101 => bindP (F_spec_l05At a0) fun r102 => bindP (F_spec_DivI r101 r102) fun r103 => bindP (F_spec_AtanI r103) fun r104 => bindP (F_spec_SubI r100 r104) fun r105 => r105) else (bif (decide (a1.val > 0)) then bindP (F_spec_l05At a0) fun r106 => bindP (F_spec_l05At a1) fun r107 => bindP (F_spec_DivI r106 r107) fun r108 => bindP (F_spec_AtanI r108) fun r109 => r109 else (bif (decide (a0.val < 0)) then bindP (F_spec_l05At a0) fun r110 => bindP (F_spec_l05At a1) fun r111 => bindP (F_spec_DivI r110 r111) fun r112 => bindP (F_spec_AtanI r112) fun r113 => bindP (F_spec_TurnI (c64 (-2))) fun r114 => bindP (F_spec_AddI r113 r114) fun r115 => r115 else bindP (F_spec_l05At a0) fun r116 => bindP (F_spec_l05At a1) fun r117 => bindP (F_spec_DivI r116 r117) fun r118 => bindP (F_spec_AtanI r118) fun r119 => bindP (F_spec_TurnI (c64 2)) fun r120 => bindP (F_spec_AddI r119 r120) fun r121 => r121))) else (bif (decide (a1.val > 0)) then bindP (F_spec_l05At a0) fun r122 => bindP (F_spec_l05At a1) fun r123 => bindP (F_spec_DivI r122 r123) fun r124 => bindP (F_spec_AtanI r124) fun r125 => r125 else (bif (decide (a0.val < 0)) then bindP (F_spec_l05At a0) fun r126 => bindP (F_spec_l05At a1) fun r127 => bindP (F_spec_DivI r126 r127) fun r128 => bindP (F_spec_AtanI r128) fun r129 => bindP (F_spec_TurnI (c64 (-2))) fun r130 => bindP (F_spec_AddI r129 r130) fun r131 => r131 else bindP (F_spec_l05At a0) fun r132 => bindP (F_spec_l05At a1) fun r133 => bindP (F_spec_DivI r132 r133) fun r134 => bindP (F_spec_AtanI r134) fun r135 => bindP (F_spec_TurnI (c64 2)) fun r136 => bindP (F_spec_AddI r135 r136) fun r137 => r137))) else (bif (decide (a0.val > a1.val)) then (bif (decide (a0.val > (w64 (0 - a1.val)).val)) then (bif (decide (a0.val < 0)) then bindP (F_spec_TurnI (c64 (-1))) fun r138 => bindP (F_spec_l05At a1) fun r139 => bindP (F_spec_l05At a0) fun r140 => bindP (F_spec_DivI r139 r140) fun r141 => bindP (F_spec_AtanI r141) fun r142 => bindP (F_spec_SubI r138 r142) fun r143 => r143 else bindP (F_spec_TurnI (c64 1)) fun r144 => bindP (F_spec_l05At a1) fun r145 => bindP (F_spec_l05At a0) fun r146 => bindP (F_spec_DivI r145 r146) fun r147 => bindP (F_spec_AtanI r147) fun r148 => bindP (F_spec_SubI r144 r148) fun r149 => r149) else (bif (decide (a1.val > 0)) then bindP (F_spec_l05At a0) fun r150 => bindP (F_spec_l05At a1) fun r151 => bindP (F_spec_DivI r150 r151) fun r152 => bindP (F_spec_AtanI r152) fun r153 => r153 else (bif (decide (a0.val < 0)) then bindP (F_spec_l05At a0) fun r154 => bindP (F_spec_l05At a1) fun r155 => bindP (F_spec_DivI r154 r155) fun r156 => bindP (F_spec_AtanI r156) fun r157 => bindP (F_spec_TurnI (c64 (-2))) fun r158 => bindP (F_spec_AddI r157 r158) fun r159 => r159 else bindP (F_spec_l05At a0) fun r160 => bindP (F_spec_l05At a1) fun r161 => bindP (F_spec_DivI r160 r161) fun r162 => bindP (F_spec_AtanI r162) fun r163 => bindP (F_spec_TurnI (c64 2)) fun r164 => bindP (F_spec_AddI r163 r164) fun r165 => r165))) else (bif (decide (a1.val > 0)) then bindP (F_spec_l05At a0) fun r166 => bindP (F_spec_l05At a1) fun r167 => bindP (F_spec_DivI r166 r167) fun r168 => bindP (F_spec_AtanI r168) fun r169 => r169 else (bif (decide (a0.val < 0)) then bindP (F_spec_l05At a0) fun r170 => bindP (F_spec_l05At a1) fun r171 => bindP (F_spec_DivI r170 r171) fun r172 => bindP (F_spec_AtanI r172) fun r173 => bindP (F_spec_TurnI (c64 (-2))) fun r174 => bindP (F_spec_AddI r173 r174) fun r175 => r175 else bindP (F_spec_l05At a0) fun r176 => bindP (F_spec_l05At a1) fun r177 => bindP (F_spec_DivI r176 r177) fun r178 => bindP (F_spec_AtanI r178) fun r179 => bindP (F_spec_TurnI (c64 2)) fun r180 => bindP (F_spec_AddI r179 r180) fun r181 => r181)))))))

def F_spec_DirectionI (a0 : Iv) (a1 : Iv) : Iv :=
  bindP (F_spec_IsWhole a0) fun r1 => (bif r1 then bindP (F_spec_Whole) fun r2 => r2 else bindP (F_spec_IsWhole a1) fun r3 => (bif r3 then bindP (F_spec_Whole) fun r4 => r4 else bindP (F_spec_HasI a0 (c64 0)) fun r5 => (bif r5 then bindP (F_spec_HasI a1 (c64 0)) fun r6 => (bif r6 then bindP (F_spec_Whole) fun r7 => r7 else (bif (decide (a1.lo.val < 0)) then (bif (decide (a0.lo.val < 0)) then (bif (decide (a0.hi.val ≥ 0)) then bindP (F_spec_Whole) fun r8 => r8 else bindP (F_spec_DirectionAt a0.lo a1.lo) fun r9 => bindP (F_spec_DirectionAt a0.lo a1.hi) fun r10 => bindP (F_spec_HullI r9 r10) fun r11 => bindP (F_spec_DirectionAt a0.hi a1.lo) fun r12 => bindP (F_spec_DirectionAt a0.hi a1.hi) fun r13 => bindP (F_spec_HullI r12 r13) fun r14 => bindP (F_spec_HullI r11 r14) fun r15 => r15) else bindP (F_spec_DirectionAt a0.lo a1.lo) fun r16 => bindP (F_spec_DirectionAt a0.lo a1.hi) fun r17 => bindP (F_spec_HullI r16 r17) fun r18 => bindP (F_spec_DirectionAt a0.hi a1.lo) fun r19 => bindP (F_spec_DirectionAt a0.hi a1.hi) fun r20 => bindP (F_spec_HullI r19 r20) fun r21 => bindP (F_spec_HullI r18 r21) fun r22 => r22) else bindP (F_spec_DirectionAt a0.lo a1.lo) fun r23 => bindP (F_spec_DirectionAt a0.lo a1.hi) fun r24 => bindP (F_spec_HullI r23 r24) fun r25 => bindP (F_spec_DirectionAt a0.hi a1.lo) fun r26 => bindP (F_spec_DirectionAt a0.hi a1.hi) fun r27 => bindP (F_spec_HullI r26 r27) fun r28 => bindP (F_spec_HullI r25 r28) fun r29 => r29)) else (bif (decide (a1.lo.val < 0)) then (bif (decide (a0.lo.val < 0)) then (bif (decide (a0.hi.val ≥ 0)) then bindP (F_spec_Whole) fun r30 => r30 else bindP (F_spec_DirectionAt a0.lo a1.lo) fun r31 => bindP (F_spec_DirectionAt a0.lo a1.hi) fun r32 => bindP (F_spec_HullI r31 r32) fun r33 => bindP (F_spec_DirectionAt a0.hi a1.lo) fun r34 => bindP (F_spec_DirectionAt a0.hi a1.hi) fun r35 => bindP (F_spec_HullI r34 r35) fun r36 => bindP (F_spec_HullI r33 r36) fun r37 => r37) else bindP (F_spec_DirectionAt a0.lo a1.lo) fun r38 => bindP (F_spec_DirectionAt a0.lo a1.hi) fun r39 => bindP (F_spec_HullI r38 r39) fun r40 => bindP (F_spec_DirectionAt a0.hi a1.lo) fun r41 => bindP (F_spec_DirectionAt a0.hi a1.hi) fun r42 => bindP (F_spec_HullI r41 r42) fun r43 => bindP (F_spec_HullI r40 r43) fun r44 => r44) else bindP (F_spec_DirectionAt a0.lo a1.lo) fun r45 => bindP (F_spec_DirectionAt a0.lo a1.hi) fun r46 => bindP (F_spec_HullI r45 r46) fun r47 => bindP (F_spec_DirectionAt a0.hi a1.lo) fun r48 => bindP (F_spec_DirectionAt a0.hi a1.hi) fun r49 => bindP (F_spec_HullI r48 r49) fun r50 => bindP (F_spec_HullI r47 r50) fun r51 => r51))))

def F_spec_l21Forward__pPj (b0 : Pj) (a0 : Pt) : Pn × I64 :=
  bindP (F_spec_l21Edge__pPj b0 a0) fun r1 => (bif r1 then ((⟨(⟨(c64 0), (c64 0)⟩ : Iv), (⟨(c64 0), (c64 0)⟩ : Iv)⟩ : Pn), (c64 8)) else bindP (F_spec_RadiansOf a0.lat) fun r2 => bindP (F_spec_l21Side__pPj b0 a0) fun r3 => bindP (F_spec_AtanhI r3) fun r4 => bindP (F_spec_SinI r2) fun r5 => bindP (F_spec_CosI r2) fun r6 => bindP (F_spec_l21Turn__pPj b0 a0) fun r7 => bindP (F_spec_CosI r7) fun r8 => bindP (F_spec_MulI r6 r8) fun r9 => bindP (F_spec_DirectionI r5 r9) fun r10 => bindP (F_spec_RadiansOf b0.lat0) fun r11 => bindP (F_spec_SubI r10 r11) fun r12 => bindP (F_spec_IsWhole r4) fun r13 => (bif r13 then ((⟨(⟨(c64 0), (c64 0)⟩ : Iv), (⟨(c64 0), (c64 0)⟩ : Iv)⟩ : Pn), (c64 9)) else bindP (F_spec_IsWhole r12) fun r14 => (bif r14 then ((⟨(⟨(c64 0), (c64 0)⟩ : Iv), (⟨(c64 0), (c64 0)⟩ : Iv)⟩ : Pn), (c64 9)) else ((⟨r4, r12⟩ : Pn), (c64 0)))))

def F_spec_TransverseForward (a0 : Pj) (a1 : Pt) : Pn × I64 :=
  bindP (F_spec_l21Ok__pPj a0) fun r1 => (bif (!r1) then ((⟨(⟨(c64 0), (c64 0)⟩ : Iv), (⟨(c64 0), (c64 0)⟩ : Iv)⟩ : Pn), (c64 1)) else bindP (F_spec_l11Ok a1) fun r2 => (bif (!r2) then ((⟨(⟨(c64 0), (c64 0)⟩ : Iv), (⟨(c64 0), (c64 0)⟩ : Iv)⟩ : Pn), (c64 1)) else bindP (F_spec_l21Forward__pPj a0 a1) fun r3 => (r3.1, r3.2)))

def F_laws_FnStrips (c0 : Cd) : Bool :=
  (bif (decide ((((c0.L.length : Nat) : Int)) > 1048576)) then true else bindP (F_spec_E8Point c0) fun r1 => bindP (F_impl_ZoneOf r1) fun r2 => bindP (F_impl_ZoneMiddle r2.1) fun r3 => bindP (F_impl_ZoneProjection r2.1) fun r4 => (bif (r2.2.val != 0) then false else (bif (r3.2.val != 0) then false else (bif (r4.2.val != 0) then false else bindP (F_spec_WrapLon (w64 (r1.lon.val - r3.1.val))) fun r5 => bindP (F_laws_d8Size r5) fun r6 => (bif (decide (r6.val > 30000000)) then false else bindP (F_spec_ValidProjection r4.1) fun r7 => (bif (!r7) then false else (bif (r4.1.lon0.val != r3.1.val) then false else bindP (F_impl_ZoneForward r1) fun r8 => bindP (F_spec_TransverseForward r4.1 r1) fun r9 => (bif (r8.2.2.val != r9.2.val) then false else (bif (r8.2.2.val == 0) then (bif (r8.1.val != r2.1.val) then false else (bif (!((r8.2.1.x.lo.val == r9.1.x.lo.val) && ((r8.2.1.x.hi.val == r9.1.x.hi.val) && ((r8.2.1.y.lo.val == r9.1.y.lo.val) && ((r8.2.1.y.hi.val == r9.1.y.hi.val) && true))))) then false else bindP (F_impl_ZoneMiddle (w64 (r2.1.val + 1))) fun r10 => (bif (r10.2.val == 2) then (bif (r2.1.val == 60) then true else (bif (r10.2.val == 0) then (r10.1.val == (w64 (r3.1.val + 60000000)).val) else false)) else (bif (r10.2.val == 0) then (r10.1.val == (w64 (r3.1.val + 60000000)).val) else false)))) else bindP (F_impl_ZoneMiddle (w64 (r2.1.val + 1))) fun r11 => (bif (r11.2.val == 2) then (bif (r2.1.val == 60) then true else (bif (r11.2.val == 0) then (r11.1.val == (w64 (r3.1.val + 60000000)).val) else false)) else (bif (r11.2.val == 0) then (r11.1.val == (w64 (r3.1.val + 60000000)).val) else false)))))))))))











end Go.Proofs.YtlgbjanlofomoaaGreat.Abs
