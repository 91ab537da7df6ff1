/- The functions, on numbers; part 1 (written by w.py). -/
import Derived.Test.YtkbkopmelaiffaaF0
set_option linter.unusedVariables false
set_option linter.unusedSimpArgs false
namespace Go.Proofs.Ytkbkopmelaiffaa.Abs
open Go Go.RowKit

def F_laws_eqAffine (a0 : Af) (a1 : Af) : Bool :=
  bindP (F_laws_eqMat a0.m a1.m) fun r1 => (bif (!r1) then false else bindP (F_laws_eqVec a0.t a1.t) fun r2 => (bif (!r2) then false else true))

def F_laws_FnExactThenAffine (a0 : Af) (a1 : Af) : Bool :=
  bindP (F_laws_toAffine a0) fun r1 => bindP (F_laws_toAffine a1) fun r2 => bindP (F_spec_ThenAffine r1 r2) fun r3 => bindP (F_laws_toAffine a0) fun r4 => bindP (F_laws_toAffine a1) fun r5 => bindP (F_impl_ThenAffine r4 r5) fun r6 => bindP (F_laws_eqAffine r6 r3) fun r7 => (bif (!r7) then false else true)

def F_laws_toShift (a0 : Sf) : Sf :=
  a0

def F_spec_l23Ok__pSf (b0 : Sf) : Bool :=
  bindP (F_spec_l00In b0.tx (c64 (-10000000)) (c64 10000000)) fun r1 => (bif (!r1) then false else bindP (F_spec_l00In b0.rx (c64 (-100000000)) (c64 100000000)) fun r2 => (bif (!r2) then false else bindP (F_spec_l00In b0.ty (c64 (-10000000)) (c64 10000000)) fun r3 => (bif (!r3) then false else bindP (F_spec_l00In b0.ry (c64 (-100000000)) (c64 100000000)) fun r4 => (bif (!r4) then false else bindP (F_spec_l00In b0.tz (c64 (-10000000)) (c64 10000000)) fun r5 => (bif (!r5) then false else bindP (F_spec_l00In b0.rz (c64 (-100000000)) (c64 100000000)) fun r6 => (bif (!r6) then false else bindP (F_spec_l00In b0.sc (c64 (-1000000)) (c64 1000000)) fun r7 => r7))))))

def F_spec_Integer (a0 : I64) : Iv :=
  bindP (F_spec_l00In a0 (c64 (-268435455)) (c64 268435455)) fun r1 => (bif (!r1) then bindP (F_spec_l04Whole) fun r2 => r2 else bindP (F_spec_l04Make (w64 (a0.val * 4294967296)) (w64 (a0.val * 4294967296))) fun r3 => r3)

def F_spec_l02Divide_L0 : Nat → U64 → U64 → U64 → U64 → U64 → I64 → U64 × U64 × U64
  | 0, _, _, _, _, _, _ => ((cu64 0), (cu64 0), (cu64 0))
  | fu + 1, a1, a2, x_qhi, x_rest, x_q, x_i => (bif (decide (x_i.val ≥ 0)) then (bif ((ishr x_rest 63).val == 1) then F_spec_l02Divide_L0 fu a1 a2 x_qhi (wu64 ((ior .u64 (ishl .u64 x_rest.val 1).val (iand .u64 (ishr a1 (wu64 x_i.val).val).val 1).val).val - a2.val)) (ior .u64 (ishl .u64 x_q.val 1).val 1) (w64 (x_i.val - 1)) else (bif (decide ((ior .u64 (ishl .u64 x_rest.val 1).val (iand .u64 (ishr a1 (wu64 x_i.val).val).val 1).val).val ≥ a2.val)) then F_spec_l02Divide_L0 fu a1 a2 x_qhi (wu64 ((ior .u64 (ishl .u64 x_rest.val 1).val (iand .u64 (ishr a1 (wu64 x_i.val).val).val 1).val).val - a2.val)) (ior .u64 (ishl .u64 x_q.val 1).val 1) (w64 (x_i.val - 1)) else F_spec_l02Divide_L0 fu a1 a2 x_qhi (ior .u64 (ishl .u64 x_rest.val 1).val (iand .u64 (ishr a1 (wu64 x_i.val).val).val 1).val) (ishl .u64 x_q.val 1) (w64 (x_i.val - 1)))) else (x_qhi, x_q, x_rest))

def F_spec_l02Divide (a0 : U64) (a1 : U64) (a2 : U64) : U64 × U64 × U64 :=
  F_spec_l02Divide_L0 65 a1 a2 (wu64 (Int.tdiv a0.val a2.val)) (imod a0 a2.val) (cu64 0) (c64 63)

def F_spec_l02Plus (a0 : Wd) (a1 : Wd) : Wd :=
  (bif (decide ((wu64 (a0.lo.val + a1.lo.val)).val < a0.lo.val)) then (⟨(w64 ((w64 (a0.hi.val + a1.hi.val)).val + 1)), (wu64 (a0.lo.val + a1.lo.val))⟩ : Wd) else (⟨(w64 (a0.hi.val + a1.hi.val)), (wu64 (a0.lo.val + a1.lo.val))⟩ : Wd))

def F_spec_l02Div (a0 : Wd) (a1 : I64) : Wd × I64 :=
  (bif (decide (a0.hi.val ≥ 0)) then bindP (F_spec_l02Divide (wu64 a0.hi.val) a0.lo (wu64 a1.val)) fun r2 => ((⟨(w64 r2.1.val), r2.2.1⟩ : Wd), (w64 r2.2.2.val)) else bindP (F_spec_l02Minus a0) fun r3 => bindP (F_spec_l02Divide (wu64 r3.hi.val) r3.lo (wu64 a1.val)) fun r4 => bindP (F_spec_l02Minus (⟨(w64 r4.1.val), r4.2.1⟩ : Wd)) fun r5 => (bif (r4.2.2.val == 0) then (r5, (c64 0)) else bindP (F_spec_l02Of (c64 (-1))) fun r7 => bindP (F_spec_l02Plus r5 r7) fun r8 => (r8, (w64 (a1.val - (w64 r4.2.2.val).val)))))

def F_spec_MulDivFloor (a0 : I64) (a1 : I64) (a2 : I64) : I64 × Bool :=
  (bif (decide (a2.val ≤ 0)) then ((c64 0), false) else bindP (F_spec_l02Mul a0 a1) fun r2 => bindP (F_spec_l02Div r2 a2) fun r3 => bindP (F_spec_l02Int r3.1) fun r4 => (r4.1, r4.2))

def F_spec_l03Floor (a0 : I64) (a1 : I64) : I64 × Bool :=
  (bif (decide (a1.val ≤ 0)) then ((c64 0), false) else bindP (F_spec_MulDivFloor a0 (c64 4294967296) a1) fun r1 => bindP (F_spec_l03End r1.1 r1.2) fun r2 => (r2.1, r2.2))

def F_spec_l03Ceil (a0 : I64) (a1 : I64) : I64 × Bool :=
  (bif (decide (a1.val ≤ 0)) then ((c64 0), false) else bindP (F_spec_MulDivFloor a0 (c64 4294967296) a1) fun r1 => (bif (!r1.2) then ((c64 0), false) else (bif ((w64 (r1.1.val * a1.val)).val != (w64 (a0.val * 4294967296)).val) then bindP (F_spec_l03End (w64 (r1.1.val + 1)) true) fun r2 => (r2.1, r2.2) else bindP (F_spec_l03End r1.1 true) fun r3 => (r3.1, r3.2))))

def F_spec_Quotient (a0 : I64) (a1 : I64) : Iv :=
  (bif (decide (a1.val < 0)) then (bif (a0.val == (-9223372036854775808)) then bindP (F_spec_l04Whole) fun r1 => r1 else (bif (a1.val == (-9223372036854775808)) then bindP (F_spec_l04Whole) fun r2 => r2 else bindP (F_spec_l03Floor (w64 (0 - a0.val)) (w64 (0 - a1.val))) fun r3 => bindP (F_spec_l03Ceil (w64 (0 - a0.val)) (w64 (0 - a1.val))) fun r4 => (bif (!r3.2) then bindP (F_spec_l04Whole) fun r5 => r5 else (bif (!r4.2) then bindP (F_spec_l04Whole) fun r6 => r6 else bindP (F_spec_l04Make r3.1 r4.1) fun r7 => r7)))) else bindP (F_spec_l03Floor a0 a1) fun r8 => bindP (F_spec_l03Ceil a0 a1) fun r9 => (bif (!r8.2) then bindP (F_spec_l04Whole) fun r10 => r10 else (bif (!r9.2) then bindP (F_spec_l04Whole) fun r11 => r11 else bindP (F_spec_l04Make r8.1 r9.1) fun r12 => r12)))

def F_spec_l05Turn_r : Nat → I64 → Iv
  | 0, _ => (⟨(c64 0), (c64 0)⟩ : Iv)
  | fu + 1, a0 => (bif (a0.val == 0) then (⟨(c64 0), (c64 0)⟩ : Iv) else (bif (decide (a0.val < 0)) then bindP (F_spec_l05Turn_r fu (w64 (0 - a0.val))) fun r3 => (⟨(w64 (0 - r3.hi.val)), (w64 (0 - r3.lo.val))⟩ : Iv) else bindP (F_spec_MulFloor a0 (c64 7244019458077122842) (c64 30)) fun r4 => (⟨r4.1, (w64 (r4.1.val + 1))⟩ : Iv)))
def F_spec_l05Turn (a0 : I64) : Iv := F_spec_l05Turn_r 2 a0

def F_spec_PiI : Iv :=
  bindP (F_spec_l05Turn (c64 2)) fun r1 => r1

def F_spec_l23Arc (a0 : I64) : Iv :=
  bindP (F_spec_PiI) fun r1 => bindP (F_spec_Quotient a0 (c64 648000000000)) fun r2 => bindP (F_spec_MulI r1 r2) fun r3 => r3

def F_spec_NegI (a0 : Iv) : Iv :=
  bindP (F_spec_l04Ok a0) fun r1 => (bif (!r1) then bindP (F_spec_l04Whole) fun r2 => r2 else bindP (F_spec_l04Make (w64 (0 - a0.hi.val)) (w64 (0 - a0.lo.val))) fun r3 => r3)

def F_spec_l23Affine__pSf (b0 : Sf) : Af :=
  bindP (F_spec_Integer (c64 1)) fun r1 => bindP (F_spec_Quotient b0.sc (c64 1000000000)) fun r2 => bindP (F_spec_AddI r1 r2) fun r3 => bindP (F_spec_l23Arc b0.rx) fun r4 => bindP (F_spec_MulI r3 r4) fun r5 => bindP (F_spec_l23Arc b0.ry) fun r6 => bindP (F_spec_MulI r3 r6) fun r7 => bindP (F_spec_l23Arc b0.rz) fun r8 => bindP (F_spec_MulI r3 r8) fun r9 => bindP (F_spec_NegI r7) fun r10 => bindP (F_spec_NegI r9) fun r11 => bindP (F_spec_NegI r5) fun r12 => bindP (F_spec_Quotient b0.tx (c64 1000)) fun r13 => bindP (F_spec_Quotient b0.ty (c64 1000)) fun r14 => bindP (F_spec_Quotient b0.tz (c64 1000)) fun r15 => (⟨(⟨(⟨r3, r9, r10⟩ : Vc), (⟨r11, r3, r5⟩ : Vc), (⟨r7, r12, r3⟩ : Vc)⟩ : Mt), (⟨r13, r14, r15⟩ : Vc)⟩ : Af)

def F_spec_AffineOf (a0 : Sf) : Af × I64 :=
  bindP (F_spec_l23Ok__pSf a0) fun r1 => (bif (!r1) then ((⟨(⟨(⟨(⟨(c64 0), (c64 0)⟩ : Iv), (⟨(c64 0), (c64 0)⟩ : Iv), (⟨(c64 0), (c64 0)⟩ : Iv)⟩ : Vc), (⟨(⟨(c64 0), (c64 0)⟩ : Iv), (⟨(c64 0), (c64 0)⟩ : Iv), (⟨(c64 0), (c64 0)⟩ : Iv)⟩ : Vc), (⟨(⟨(c64 0), (c64 0)⟩ : Iv), (⟨(c64 0), (c64 0)⟩ : Iv), (⟨(c64 0), (c64 0)⟩ : Iv)⟩ : Vc)⟩ : Mt), (⟨(⟨(c64 0), (c64 0)⟩ : Iv), (⟨(c64 0), (c64 0)⟩ : Iv), (⟨(c64 0), (c64 0)⟩ : Iv)⟩ : Vc)⟩ : Af), (c64 1)) else bindP (F_spec_l23Affine__pSf a0) fun r2 => (r2, (c64 0)))

def F_impl_areWithin__s3 (b0_0 : I64) (b0_1 : I64) (b0_2 : I64) (a0 : I64) : Bool :=
  bindP (F_impl_within b0_0 (w64 (0 - a0.val)) a0) fun r1 => (bif (!r1) then false else bindP (F_impl_within b0_1 (w64 (0 - a0.val)) a0) fun r2 => (bif (!r2) then false else bindP (F_impl_within b0_2 (w64 (0 - a0.val)) a0) fun r3 => (bif (!r3) then false else true)))

def F_impl_areWithin__s1 (b0 : I64) (a0 : I64) : Bool :=
  bindP (F_impl_within b0 (w64 (0 - a0.val)) a0) fun r1 => (bif (!r1) then false else true)

def F_impl_ValidShift (a0 : Sf) : Bool :=
  bindP (F_impl_areWithin__s3 a0.tx a0.ty a0.tz (c64 10000000)) fun r1 => (bif r1 then bindP (F_impl_areWithin__s3 a0.rx a0.ry a0.rz (c64 100000000)) fun r2 => (bif r2 then bindP (F_impl_areWithin__s1 a0.sc (c64 1000000)) fun r3 => r3 else false) else false)

def F_impl_Integer (a0 : I64) : Iv :=
  bindP (F_impl_within a0 (c64 (-268435456)) (c64 268435456)) fun r1 => (bif (!r1) then bindP (F_impl_Whole) fun r2 => r2 else bindP (F_impl_bounded (w64 (a0.val * 4294967296)) (w64 (a0.val * 4294967296)) true) fun r3 => r3)

def F_bits_LeadingZeros64 (a0 : U64) : I64 := w64 (64 - (Lib.bitLen a0.val.toNat : Int))

def F_bits_Div64_L1 : Nat → U64 → U64 → U64 → U64 → U64 → U64 → U64 → U64 → U64 → U64 × U64
  | 0, _, _, _, _, _, _, _, _, _ => ((cu64 0), (cu64 0))
  | fu + 1, x_y, x_s, x_yn1, x_yn0, x_un0, x_q1, x_un21, x_rhat, x_q0 => (bif (decide (x_q0.val ≥ 4294967296)) then (bif (decide ((wu64 (x_rhat.val + x_yn1.val)).val ≥ 4294967296)) then ((wu64 ((wu64 (x_q1.val * 4294967296)).val + (wu64 (x_q0.val - 1)).val)), (ishr (wu64 ((wu64 ((wu64 (x_un21.val * 4294967296)).val + x_un0.val)).val - (wu64 ((wu64 (x_q0.val - 1)).val * x_y.val)).val)) x_s.val)) else F_bits_Div64_L1 fu x_y x_s x_yn1 x_yn0 x_un0 x_q1 x_un21 (wu64 (x_rhat.val + x_yn1.val)) (wu64 (x_q0.val - 1))) else (bif (decide ((wu64 (x_q0.val * x_yn0.val)).val > (wu64 ((wu64 (4294967296 * x_rhat.val)).val + x_un0.val)).val)) then (bif (decide ((wu64 (x_rhat.val + x_yn1.val)).val ≥ 4294967296)) then ((wu64 ((wu64 (x_q1.val * 4294967296)).val + (wu64 (x_q0.val - 1)).val)), (ishr (wu64 ((wu64 ((wu64 (x_un21.val * 4294967296)).val + x_un0.val)).val - (wu64 ((wu64 (x_q0.val - 1)).val * x_y.val)).val)) x_s.val)) else F_bits_Div64_L1 fu x_y x_s x_yn1 x_yn0 x_un0 x_q1 x_un21 (wu64 (x_rhat.val + x_yn1.val)) (wu64 (x_q0.val - 1))) else ((wu64 ((wu64 (x_q1.val * 4294967296)).val + x_q0.val)), (ishr (wu64 ((wu64 ((wu64 (x_un21.val * 4294967296)).val + x_un0.val)).val - (wu64 (x_q0.val * x_y.val)).val)) x_s.val))))

def F_bits_Div64_L0 : Nat → U64 → U64 → U64 → U64 → U64 → U64 → U64 → U64 → U64 → U64 × U64
  | 0, _, _, _, _, _, _, _, _, _ => ((cu64 0), (cu64 0))
  | fu + 1, x_y, x_s, x_yn1, x_yn0, x_un32, x_un1, x_un0, x_q1, x_rhat => (bif (decide (x_q1.val ≥ 4294967296)) then (bif (decide ((wu64 (x_rhat.val + x_yn1.val)).val ≥ 4294967296)) then F_bits_Div64_L1 ((4294967296 - (wu64 ((wu64 ((wu64 ((wu64 (x_un32.val * 4294967296)).val + x_un1.val)).val - (wu64 ((wu64 (x_q1.val - 1)).val * x_y.val)).val)).val - (wu64 ((wu64 (Int.tdiv (wu64 ((wu64 ((wu64 (x_un32.val * 4294967296)).val + x_un1.val)).val - (wu64 ((wu64 (x_q1.val - 1)).val * x_y.val)).val)).val x_yn1.val)).val * x_yn1.val)).val)).val).toNat + 1) x_y x_s x_yn1 x_yn0 x_un0 (wu64 (x_q1.val - 1)) (wu64 ((wu64 ((wu64 (x_un32.val * 4294967296)).val + x_un1.val)).val - (wu64 ((wu64 (x_q1.val - 1)).val * x_y.val)).val)) (wu64 ((wu64 ((wu64 ((wu64 (x_un32.val * 4294967296)).val + x_un1.val)).val - (wu64 ((wu64 (x_q1.val - 1)).val * x_y.val)).val)).val - (wu64 ((wu64 (Int.tdiv (wu64 ((wu64 ((wu64 (x_un32.val * 4294967296)).val + x_un1.val)).val - (wu64 ((wu64 (x_q1.val - 1)).val * x_y.val)).val)).val x_yn1.val)).val * x_yn1.val)).val)) (wu64 (Int.tdiv (wu64 ((wu64 ((wu64 (x_un32.val * 4294967296)).val + x_un1.val)).val - (wu64 ((wu64 (x_q1.val - 1)).val * x_y.val)).val)).val x_yn1.val)) else F_bits_Div64_L0 fu x_y x_s x_yn1 x_yn0 x_un32 x_un1 x_un0 (wu64 (x_q1.val - 1)) (wu64 (x_rhat.val + x_yn1.val))) else (bif (decide ((wu64 (x_q1.val * x_yn0.val)).val > (wu64 ((wu64 (4294967296 * x_rhat.val)).val + x_un1.val)).val)) then (bif (decide ((wu64 (x_rhat.val + x_yn1.val)).val ≥ 4294967296)) then F_bits_Div64_L1 ((4294967296 - (wu64 ((wu64 ((wu64 ((wu64 (x_un32.val * 4294967296)).val + x_un1.val)).val - (wu64 ((wu64 (x_q1.val - 1)).val * x_y.val)).val)).val - (wu64 ((wu64 (Int.tdiv (wu64 ((wu64 ((wu64 (x_un32.val * 4294967296)).val + x_un1.val)).val - (wu64 ((wu64 (x_q1.val - 1)).val * x_y.val)).val)).val x_yn1.val)).val * x_yn1.val)).val)).val).toNat + 1) x_y x_s x_yn1 x_yn0 x_un0 (wu64 (x_q1.val - 1)) (wu64 ((wu64 ((wu64 (x_un32.val * 4294967296)).val + x_un1.val)).val - (wu64 ((wu64 (x_q1.val - 1)).val * x_y.val)).val)) (wu64 ((wu64 ((wu64 ((wu64 (x_un32.val * 4294967296)).val + x_un1.val)).val - (wu64 ((wu64 (x_q1.val - 1)).val * x_y.val)).val)).val - (wu64 ((wu64 (Int.tdiv (wu64 ((wu64 ((wu64 (x_un32.val * 4294967296)).val + x_un1.val)).val - (wu64 ((wu64 (x_q1.val - 1)).val * x_y.val)).val)).val x_yn1.val)).val * x_yn1.val)).val)) (wu64 (Int.tdiv (wu64 ((wu64 ((wu64 (x_un32.val * 4294967296)).val + x_un1.val)).val - (wu64 ((wu64 (x_q1.val - 1)).val * x_y.val)).val)).val x_yn1.val)) else F_bits_Div64_L0 fu x_y x_s x_yn1 x_yn0 x_un32 x_un1 x_un0 (wu64 (x_q1.val - 1)) (wu64 (x_rhat.val + x_yn1.val))) else F_bits_Div64_L1 ((4294967296 - (wu64 ((wu64 ((wu64 ((wu64 (x_un32.val * 4294967296)).val + x_un1.val)).val - (wu64 (x_q1.val * x_y.val)).val)).val - (wu64 ((wu64 (Int.tdiv (wu64 ((wu64 ((wu64 (x_un32.val * 4294967296)).val + x_un1.val)).val - (wu64 (x_q1.val * x_y.val)).val)).val x_yn1.val)).val * x_yn1.val)).val)).val).toNat + 1) x_y x_s x_yn1 x_yn0 x_un0 x_q1 (wu64 ((wu64 ((wu64 (x_un32.val * 4294967296)).val + x_un1.val)).val - (wu64 (x_q1.val * x_y.val)).val)) (wu64 ((wu64 ((wu64 ((wu64 (x_un32.val * 4294967296)).val + x_un1.val)).val - (wu64 (x_q1.val * x_y.val)).val)).val - (wu64 ((wu64 (Int.tdiv (wu64 ((wu64 ((wu64 (x_un32.val * 4294967296)).val + x_un1.val)).val - (wu64 (x_q1.val * x_y.val)).val)).val x_yn1.val)).val * x_yn1.val)).val)) (wu64 (Int.tdiv (wu64 ((wu64 ((wu64 (x_un32.val * 4294967296)).val + x_un1.val)).val - (wu64 (x_q1.val * x_y.val)).val)).val x_yn1.val))))

def F_bits_Div64 (a0 : U64) (a1 : U64) (a2 : U64) : U64 × U64 :=
  (bif (a0.val == 0) then ((wu64 (Int.tdiv a1.val a2.val)), (imod a1 a2.val)) else bindP (F_bits_LeadingZeros64 a2) fun r2 => F_bits_Div64_L0 ((4294967296 - (wu64 ((ior .u64 (ishl .u64 a0.val (wu64 r2.val).val).val (ishr a1 (wu64 (64 - (wu64 r2.val).val)).val).val).val - (wu64 ((wu64 (Int.tdiv (ior .u64 (ishl .u64 a0.val (wu64 r2.val).val).val (ishr a1 (wu64 (64 - (wu64 r2.val).val)).val).val).val (ishr (ishl .u64 a2.val (wu64 r2.val).val) 32).val)).val * (ishr (ishl .u64 a2.val (wu64 r2.val).val) 32).val)).val)).val).toNat + 1) (ishl .u64 a2.val (wu64 r2.val).val) (wu64 r2.val) (ishr (ishl .u64 a2.val (wu64 r2.val).val) 32) (iand .u64 (ishl .u64 a2.val (wu64 r2.val).val).val 4294967295) (ior .u64 (ishl .u64 a0.val (wu64 r2.val).val).val (ishr a1 (wu64 (64 - (wu64 r2.val).val)).val).val) (ishr (ishl .u64 a1.val (wu64 r2.val).val) 32) (iand .u64 (ishl .u64 a1.val (wu64 r2.val).val).val 4294967295) (wu64 (Int.tdiv (ior .u64 (ishl .u64 a0.val (wu64 r2.val).val).val (ishr a1 (wu64 (64 - (wu64 r2.val).val)).val).val).val (ishr (ishl .u64 a2.val (wu64 r2.val).val) 32).val)) (wu64 ((ior .u64 (ishl .u64 a0.val (wu64 r2.val).val).val (ishr a1 (wu64 (64 - (wu64 r2.val).val)).val).val).val - (wu64 ((wu64 (Int.tdiv (ior .u64 (ishl .u64 a0.val (wu64 r2.val).val).val (ishr a1 (wu64 (64 - (wu64 r2.val).val)).val).val).val (ishr (ishl .u64 a2.val (wu64 r2.val).val) 32).val)).val * (ishr (ishl .u64 a2.val (wu64 r2.val).val) 32).val)).val)))

def F_impl_divided (a0 : U64) (a1 : U64) (a2 : U64) : U64 × U64 × U64 :=
  bindP (F_bits_Div64 (imod a0 a2.val) a1 a2) fun r1 => ((wu64 (Int.tdiv a0.val a2.val)), r1.1, r1.2)

def F_impl_Wide_negative (a0 : Wd) : Wd :=
  (⟨(w64 (sbb_lo (cu64 0) (wu64 a0.hi.val) (sbb_hi (cu64 0) a0.lo (cu64 0))).val), (sbb_lo (cu64 0) a0.lo (cu64 0))⟩ : Wd)

def F_impl_WideDiv (a0 : Wd) (a1 : I64) : Wd × I64 × Bool :=
  (bif (decide (a1.val ≤ 0)) then ((⟨(c64 0), (cu64 0)⟩ : Wd), (c64 0), false) else (bif (decide (a0.hi.val ≥ 0)) then bindP (F_impl_divided (wu64 a0.hi.val) a0.lo (wu64 a1.val)) fun r3 => ((⟨(w64 r3.1.val), r3.2.1⟩ : Wd), (w64 r3.2.2.val), true) else bindP (F_impl_Wide_negative a0) fun r4 => bindP (F_impl_divided (wu64 r4.hi.val) r4.lo (wu64 a1.val)) fun r5 => (bif (r5.2.2.val == 0) then bindP (F_impl_Wide_negative (⟨(w64 r5.1.val), r5.2.1⟩ : Wd)) fun r7 => (r7, (c64 0), true) else bindP (F_impl_Wide_negative (⟨(w64 (wu64 (r5.1.val + (adc_hi r5.2.1 (cu64 1) (cu64 0)).val)).val), (adc_lo r5.2.1 (cu64 1) (cu64 0))⟩ : Wd)) fun r8 => (r8, (w64 (a1.val - (w64 r5.2.2.val).val)), true))))

def F_impl_MulDivFloor (a0 : I64) (a1 : I64) (a2 : I64) : I64 × Bool :=
  bindP (F_impl_WideMul a0 a1) fun r1 => bindP (F_impl_WideDiv r1 a2) fun r2 => (bif (!r2.2.2) then ((c64 0), false) else bindP (F_impl_WideInt r2.1) fun r3 => (r3.1, r3.2))

def F_impl_FixFloor (a0 : I64) (a1 : I64) : I64 × Bool :=
  bindP (F_impl_MulDivFloor a0 (c64 4294967296) a1) fun r1 => bindP (F_impl_fixed r1.1 r1.2) fun r2 => (r2.1, r2.2)

def F_impl_mulDivCeil (a0 : I64) (a1 : I64) (a2 : I64) : I64 × Bool :=
  bindP (F_impl_WideMul a0 a1) fun r1 => bindP (F_impl_WideDiv r1 a2) fun r2 => (bif (!r2.2.2) then ((c64 0), false) else bindP (F_impl_WideInt r2.1) fun r3 => (bif (!r3.2) then ((c64 0), false) else (bif (decide (r2.2.1.val > 0)) then (bif (r3.1.val == 9223372036854775807) then ((c64 0), false) else (bif (decide (r2.2.1.val > 0)) then ((w64 (r3.1.val + 1)), true) else (r3.1, true))) else (bif (decide (r2.2.1.val > 0)) then ((w64 (r3.1.val + 1)), true) else (r3.1, true)))))

def F_impl_FixCeil (a0 : I64) (a1 : I64) : I64 × Bool :=
  bindP (F_impl_mulDivCeil a0 (c64 4294967296) a1) fun r1 => bindP (F_impl_fixed r1.1 r1.2) fun r2 => (r2.1, r2.2)

def F_impl_Quotient (a0 : I64) (a1 : I64) : Iv :=
  (bif (decide (a1.val < 0)) then (bif (decide ((w64 (0 - a1.val)).val < 0)) then bindP (F_impl_Whole) fun r1 => r1 else (bif ((w64 (0 - a0.val)).val == (-9223372036854775808)) then bindP (F_impl_Whole) fun r2 => r2 else bindP (F_impl_FixFloor (w64 (0 - a0.val)) (w64 (0 - a1.val))) fun r3 => bindP (F_impl_FixCeil (w64 (0 - a0.val)) (w64 (0 - a1.val))) fun r4 => (bif r3.2 then bindP (F_impl_bounded r3.1 r4.1 r4.2) fun r5 => r5 else bindP (F_impl_bounded r3.1 r4.1 false) fun r6 => r6))) else bindP (F_impl_FixFloor a0 a1) fun r7 => bindP (F_impl_FixCeil a0 a1) fun r8 => (bif r7.2 then bindP (F_impl_bounded r7.1 r8.1 r8.2) fun r9 => r9 else bindP (F_impl_bounded r7.1 r8.1 false) fun r10 => r10))

def F_impl_IsWhole (a0 : Iv) : Bool :=
  bindP (F_impl_ValidInterval a0) fun r1 => (!r1)

def F_impl_NegI (a0 : Iv) : Iv :=
  bindP (F_impl_IsWhole a0) fun r1 => (bif r1 then bindP (F_impl_Whole) fun r2 => r2 else (⟨(w64 (0 - a0.hi.val)), (w64 (0 - a0.lo.val))⟩ : Iv))

def F_impl_TurnI_r : Nat → I64 → Iv
  | 0, _ => (⟨(c64 0), (c64 0)⟩ : Iv)
  | fu + 1, a0 => bindP (F_impl_within a0 (c64 (-4096)) (c64 4096)) fun r1 => (bif (!r1) then bindP (F_impl_Whole) fun r3 => r3 else (bif (decide (a0.val < 0)) then bindP (F_impl_TurnI_r fu (w64 (0 - a0.val))) fun r5 => bindP (F_impl_NegI r5) fun r6 => r6 else (bif (a0.val == 0) then (⟨(c64 0), (c64 0)⟩ : Iv) else bindP (F_impl_MulFloor a0 (c64 7244019458077122842) (c64 30)) fun r8 => (⟨r8.1, (w64 (r8.1.val + 1))⟩ : Iv))))
def F_impl_TurnI (a0 : I64) : Iv := F_impl_TurnI_r 2 a0

def F_impl_PiI : Iv :=
  bindP (F_impl_TurnI (c64 2)) fun r1 => r1

def F_impl_affineOf_1__pIv (b0 : Iv) (a0 : I64) : Iv :=
  bindP (F_impl_PiI) fun r1 => bindP (F_impl_Quotient a0 (c64 648000000000)) fun r2 => bindP (F_impl_MulI r1 r2) fun r3 => bindP (F_impl_MulI b0 r3) fun r4 => r4

def F_impl_affineOf (a0 : Sf) : Af :=
  bindP (F_impl_Integer (c64 1)) fun r1 => bindP (F_impl_Quotient a0.sc (c64 1000000000)) fun r2 => bindP (F_impl_AddI r1 r2) fun r3 => bindP (F_impl_affineOf_1__pIv r3 a0.rx) fun r4 => bindP (F_impl_affineOf_1__pIv r3 a0.ry) fun r5 => bindP (F_impl_affineOf_1__pIv r3 a0.rz) fun r6 => bindP (F_impl_NegI r5) fun r7 => bindP (F_impl_NegI r6) fun r8 => bindP (F_impl_NegI r4) fun r9 => bindP (F_impl_Quotient a0.tx (c64 1000)) fun r10 => bindP (F_impl_Quotient a0.ty (c64 1000)) fun r11 => bindP (F_impl_Quotient a0.tz (c64 1000)) fun r12 => (⟨(⟨(⟨r3, r6, r7⟩ : Vc), (⟨r8, r3, r4⟩ : Vc), (⟨r5, r9, r3⟩ : Vc)⟩ : Mt), (⟨r10, r11, r12⟩ : Vc)⟩ : Af)

def F_impl_AffineOf (a0 : Sf) : Af × I64 :=
  bindP (F_impl_ValidShift a0) fun r1 => (bif (!r1) then ((⟨(⟨(⟨(⟨(c64 0), (c64 0)⟩ : Iv), (⟨(c64 0), (c64 0)⟩ : Iv), (⟨(c64 0), (c64 0)⟩ : Iv)⟩ : Vc), (⟨(⟨(c64 0), (c64 0)⟩ : Iv), (⟨(c64 0), (c64 0)⟩ : Iv), (⟨(c64 0), (c64 0)⟩ : Iv)⟩ : Vc), (⟨(⟨(c64 0), (c64 0)⟩ : Iv), (⟨(c64 0), (c64 0)⟩ : Iv), (⟨(c64 0), (c64 0)⟩ : Iv)⟩ : Vc)⟩ : Mt), (⟨(⟨(c64 0), (c64 0)⟩ : Iv), (⟨(c64 0), (c64 0)⟩ : Iv), (⟨(c64 0), (c64 0)⟩ : Iv)⟩ : Vc)⟩ : Af), (c64 1)) else bindP (F_impl_affineOf a0) fun r2 => (r2, (c64 0)))

def F_laws_FnExactAffineOf (a0 : Sf) : Bool :=
  bindP (F_laws_toShift a0) fun r1 => bindP (F_spec_AffineOf r1) fun r2 => bindP (F_laws_toShift a0) fun r3 => bindP (F_impl_AffineOf r3) fun r4 => bindP (F_laws_eqAffine r4.1 r2.1) fun r5 => (bif (!r5) then false else (bif (r4.2.val != r2.2.val) then false else true))

def F_spec_SubI (a0 : Iv) (a1 : Iv) : Iv :=
  bindP (F_spec_l04Ok a0) fun r1 => (bif (!r1) then bindP (F_spec_l04Whole) fun r2 => r2 else bindP (F_spec_l04Ok a1) fun r3 => (bif (!r3) then bindP (F_spec_l04Whole) fun r4 => r4 else bindP (F_spec_l04Make (w64 (a0.lo.val - a1.hi.val)) (w64 (a0.hi.val - a1.lo.val))) fun r5 => r5))

def F_spec_CrossV (a0 : Vc) (a1 : Vc) : Vc :=
  bindP (F_spec_MulI a0.y a1.z) fun r1 => bindP (F_spec_MulI a0.z a1.y) fun r2 => bindP (F_spec_SubI r1 r2) fun r3 => bindP (F_spec_MulI a0.z a1.x) fun r4 => bindP (F_spec_MulI a0.x a1.z) fun r5 => bindP (F_spec_SubI r4 r5) fun r6 => bindP (F_spec_MulI a0.x a1.y) fun r7 => bindP (F_spec_MulI a0.y a1.x) fun r8 => bindP (F_spec_SubI r7 r8) fun r9 => (⟨r3, r6, r9⟩ : Vc)

def F_spec_l04Has (a0 : Iv) (a1 : I64) : Bool :=
  bindP (F_spec_l00In a1 a0.lo a0.hi) fun r1 => r1

def F_spec_HasI (a0 : Iv) (a1 : I64) : Bool :=
  bindP (F_spec_l04Ok a0) fun r1 => (bif (!r1) then true else bindP (F_spec_l04Has a0 a1) fun r2 => r2)

def F_spec_l03DivDown (a0 : I64) (a1 : I64) : I64 × Bool :=
  bindP (F_spec_l03Ok a0) fun r1 => (bif (!r1) then ((c64 0), false) else bindP (F_spec_l03Ok a1) fun r2 => (bif (!r2) then ((c64 0), false) else (bif (a1.val == 0) then ((c64 0), false) else (bif (decide (a1.val < 0)) then bindP (F_spec_MulDivFloor (w64 (0 - a0.val)) (c64 4294967296) (w64 (0 - a1.val))) fun r3 => bindP (F_spec_l03End r3.1 r3.2) fun r4 => (r4.1, r4.2) else bindP (F_spec_MulDivFloor a0 (c64 4294967296) a1) fun r5 => bindP (F_spec_l03End r5.1 r5.2) fun r6 => (r6.1, r6.2)))))

def F_spec_l03DivUp (a0 : I64) (a1 : I64) : I64 × Bool :=
  bindP (F_spec_l03Ok a0) fun r1 => (bif (!r1) then ((c64 0), false) else bindP (F_spec_l03DivDown (w64 (0 - a0.val)) a1) fun r2 => ((w64 (0 - r2.1.val)), r2.2))

def F_spec_DivI (a0 : Iv) (a1 : Iv) : Iv :=
  bindP (F_spec_l04Ok a0) fun r1 => (bif (!r1) then bindP (F_spec_l04Whole) fun r2 => r2 else bindP (F_spec_l04Ok a1) fun r3 => (bif (!r3) then bindP (F_spec_l04Whole) fun r4 => r4 else bindP (F_spec_l04Has a1 (c64 0)) fun r5 => (bif r5 then bindP (F_spec_l04Whole) fun r6 => r6 else bindP (F_spec_l03DivDown a0.lo a1.lo) fun r7 => bindP (F_spec_l03DivUp a0.lo a1.lo) fun r8 => (bif (!r7.2) then bindP (F_spec_l04Whole) fun r9 => r9 else (bif (!r8.2) then bindP (F_spec_l04Whole) fun r10 => r10 else bindP (F_spec_l00Min (c64 1152921504606846976) r7.1) fun r11 => bindP (F_spec_l00Max (c64 (-1152921504606846976)) r8.1) fun r12 => bindP (F_spec_l03DivDown a0.lo a1.hi) fun r13 => bindP (F_spec_l03DivUp a0.lo a1.hi) fun r14 => (bif (!r13.2) then bindP (F_spec_l04Whole) fun r15 => r15 else (bif (!r14.2) then bindP (F_spec_l04Whole) fun r16 => r16 else bindP (F_spec_l00Min r11 r13.1) fun r17 => bindP (F_spec_l00Max r12 r14.1) fun r18 => bindP (F_spec_l03DivDown a0.hi a1.lo) fun r19 => bindP (F_spec_l03DivUp a0.hi a1.lo) fun r20 => (bif (!r19.2) then bindP (F_spec_l04Whole) fun r21 => r21 else (bif (!r20.2) then bindP (F_spec_l04Whole) fun r22 => r22 else bindP (F_spec_l00Min r17 r19.1) fun r23 => bindP (F_spec_l00Max r18 r20.1) fun r24 => bindP (F_spec_l03DivDown a0.hi a1.hi) fun r25 => bindP (F_spec_l03DivUp a0.hi a1.hi) fun r26 => (bif (!r25.2) then bindP (F_spec_l04Whole) fun r27 => r27 else (bif (!r26.2) then bindP (F_spec_l04Whole) fun r28 => r28 else bindP (F_spec_l00Min r23 r25.1) fun r29 => bindP (F_spec_l00Max r24 r26.1) fun r30 => bindP (F_spec_l04Make r29 r30) fun r31 => r31)))))))))))

def F_spec_l10Over (a0 : Vc) (a1 : Iv) : Vc :=
  bindP (F_spec_DivI a0.x a1) fun r1 => bindP (F_spec_DivI a0.y a1) fun r2 => bindP (F_spec_DivI a0.z a1) fun r3 => (⟨r1, r2, r3⟩ : Vc)

def F_spec_InverseM (a0 : Mt) : Mt × Bool :=
  bindP (F_spec_CrossV a0.b a0.c) fun r1 => bindP (F_spec_CrossV a0.c a0.a) fun r2 => bindP (F_spec_CrossV a0.a a0.b) fun r3 => bindP (F_spec_DotV a0.a r1) fun r4 => bindP (F_spec_HasI r4 (c64 0)) fun r5 => (bif r5 then ((⟨(⟨(⟨(c64 0), (c64 0)⟩ : Iv), (⟨(c64 0), (c64 0)⟩ : Iv), (⟨(c64 0), (c64 0)⟩ : Iv)⟩ : Vc), (⟨(⟨(c64 0), (c64 0)⟩ : Iv), (⟨(c64 0), (c64 0)⟩ : Iv), (⟨(c64 0), (c64 0)⟩ : Iv)⟩ : Vc), (⟨(⟨(c64 0), (c64 0)⟩ : Iv), (⟨(c64 0), (c64 0)⟩ : Iv), (⟨(c64 0), (c64 0)⟩ : Iv)⟩ : Vc)⟩ : Mt), false) else bindP (F_spec_l10Columns (⟨r1, r2, r3⟩ : Mt)) fun r6 => bindP (F_spec_l10Over r6.a r4) fun r7 => bindP (F_spec_l10Over r6.b r4) fun r8 => bindP (F_spec_l10Over r6.c r4) fun r9 => ((⟨r7, r8, r9⟩ : Mt), true))

def F_spec_InvertAffine (a0 : Af) : Af × Bool :=
  bindP (F_spec_InverseM a0.m) fun r1 => (bif (!r1.2) then ((⟨(⟨(⟨(⟨(c64 0), (c64 0)⟩ : Iv), (⟨(c64 0), (c64 0)⟩ : Iv), (⟨(c64 0), (c64 0)⟩ : Iv)⟩ : Vc), (⟨(⟨(c64 0), (c64 0)⟩ : Iv), (⟨(c64 0), (c64 0)⟩ : Iv), (⟨(c64 0), (c64 0)⟩ : Iv)⟩ : Vc), (⟨(⟨(c64 0), (c64 0)⟩ : Iv), (⟨(c64 0), (c64 0)⟩ : Iv), (⟨(c64 0), (c64 0)⟩ : Iv)⟩ : Vc)⟩ : Mt), (⟨(⟨(c64 0), (c64 0)⟩ : Iv), (⟨(c64 0), (c64 0)⟩ : Iv), (⟨(c64 0), (c64 0)⟩ : Iv)⟩ : Vc)⟩ : Af), false) else bindP (F_spec_ApplyM r1.1 a0.t) fun r2 => bindP (F_spec_NegI r2.x) fun r3 => bindP (F_spec_NegI r2.y) fun r4 => bindP (F_spec_NegI r2.z) fun r5 => ((⟨r1.1, (⟨r3, r4, r5⟩ : Vc)⟩ : Af), true))

def F_impl_SubI (a0 : Iv) (a1 : Iv) : Iv :=
  bindP (F_impl_NegI a1) fun r1 => bindP (F_impl_AddI a0 r1) fun r2 => r2

def F_impl_CrossV (a0 : Vc) (a1 : Vc) : Vc :=
  bindP (F_impl_MulI a0.y a1.z) fun r1 => bindP (F_impl_MulI a0.z a1.y) fun r2 => bindP (F_impl_SubI r1 r2) fun r3 => bindP (F_impl_MulI a0.z a1.x) fun r4 => bindP (F_impl_MulI a0.x a1.z) fun r5 => bindP (F_impl_SubI r4 r5) fun r6 => bindP (F_impl_MulI a0.x a1.y) fun r7 => bindP (F_impl_MulI a0.y a1.x) fun r8 => bindP (F_impl_SubI r7 r8) fun r9 => (⟨r3, r6, r9⟩ : Vc)

def F_impl_HasI (a0 : Iv) (a1 : I64) : Bool :=
  bindP (F_impl_IsWhole a0) fun r1 => (bif r1 then true else bindP (F_impl_within a1 a0.lo a0.hi) fun r2 => r2)

def F_impl_DivDown (a0 : I64) (a1 : I64) : I64 × Bool :=
  bindP (F_impl_ValidFix a0) fun r1 => (bif (!r1) then ((c64 0), false) else bindP (F_impl_ValidFix a1) fun r2 => (bif (!r2) then ((c64 0), false) else (bif (decide (a1.val < 0)) then bindP (F_impl_MulDivFloor (w64 (0 - a0.val)) (c64 4294967296) (w64 (0 - a1.val))) fun r3 => bindP (F_impl_fixed r3.1 r3.2) fun r4 => (r4.1, r4.2) else bindP (F_impl_MulDivFloor a0 (c64 4294967296) a1) fun r5 => bindP (F_impl_fixed r5.1 r5.2) fun r6 => (r6.1, r6.2))))

def F_impl_DivUp (a0 : I64) (a1 : I64) : I64 × Bool :=
  bindP (F_impl_ValidFix a0) fun r1 => (bif (!r1) then ((c64 0), false) else bindP (F_impl_ValidFix a1) fun r2 => (bif (!r2) then ((c64 0), false) else bindP (F_impl_DivDown (w64 (0 - a0.val)) a1) fun r3 => ((w64 (0 - r3.1.val)), r3.2)))

def F_impl_combine__impl_DivDown__impl_DivUp (a0 : Iv) (a1 : Iv) : Iv :=
  bindP (F_impl_DivDown a0.lo a1.lo) fun r1 => bindP (F_impl_DivUp a0.lo a1.lo) fun r2 => (bif (!r1.2) then bindP (F_impl_Whole) fun r3 => r3 else (bif (!r2.2) then bindP (F_impl_Whole) fun r4 => r4 else bindP (F_impl_DivDown a0.lo a1.hi) fun r5 => bindP (F_impl_DivUp a0.lo a1.hi) fun r6 => (bif (!r5.2) then bindP (F_impl_Whole) fun r7 => r7 else (bif (!r6.2) then bindP (F_impl_Whole) fun r8 => r8 else bindP (F_impl_DivDown a0.hi a1.lo) fun r9 => bindP (F_impl_DivUp a0.hi a1.lo) fun r10 => (bif (!r9.2) then bindP (F_impl_Whole) fun r11 => r11 else (bif (!r10.2) then bindP (F_impl_Whole) fun r12 => r12 else bindP (F_impl_DivDown a0.hi a1.hi) fun r13 => bindP (F_impl_DivUp a0.hi a1.hi) fun r14 => (bif (!r13.2) then bindP (F_impl_Whole) fun r15 => r15 else (bif (!r14.2) then bindP (F_impl_Whole) fun r16 => r16 else bindP (F_impl_bounded (mn (mn (mn (mn r1.1 r1.1) r5.1) r9.1) r13.1) (mx (mx (mx (mx r2.1 r2.1) r6.1) r10.1) r14.1) true) fun r17 => r17))))))))

def F_impl_DivI (a0 : Iv) (a1 : Iv) : Iv :=
  bindP (F_impl_areBounded a0 a1) fun r1 => (bif (!r1) then bindP (F_impl_Whole) fun r2 => r2 else bindP (F_impl_HasI a1 (c64 0)) fun r3 => (bif r3 then bindP (F_impl_Whole) fun r4 => r4 else bindP (F_impl_combine__impl_DivDown__impl_DivUp a0 a1) fun r5 => r5))

end Go.Proofs.Ytkbkopmelaiffaa.Abs
