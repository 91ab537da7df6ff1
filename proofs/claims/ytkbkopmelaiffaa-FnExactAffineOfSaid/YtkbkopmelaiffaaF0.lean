/- The functions, on numbers; part 0 (written by w.py). -/
import Derived.Test.YtkbkopmelaiffaaAbsT
import Derived.Lib.BitFns
set_option linter.unusedVariables false
set_option linter.unusedSimpArgs false
namespace Go.Proofs.Ytkbkopmelaiffaa.Abs
open Go Go.RowKit

def vT_U_U (a : U64 × U64) : Value := .tuple #[vU a.1, vU a.2]
def vT_I_B (a : I64 × Bool) : Value := .tuple #[vI a.1, vB a.2]
def vT_U_U_U (a : U64 × U64 × U64) : Value := .tuple #[vU a.1, vU a.2.1, vU a.2.2]
def vT_Wd_I (a : Wd × I64) : Value := .tuple #[vWd a.1, vI a.2]
def vT_Af_I (a : Af × I64) : Value := .tuple #[vAf a.1, vI a.2]
def vT_Wd_I_B (a : Wd × I64 × Bool) : Value := .tuple #[vWd a.1, vI a.2.1, vB a.2.2]
def vT_Mt_B (a : Mt × Bool) : Value := .tuple #[vMt a.1, vB a.2]
def vT_Af_B (a : Af × Bool) : Value := .tuple #[vAf a.1, vB a.2]

def F_laws_toInterval (a0 : Iv) : Iv :=
  a0

def F_laws_toVec (a0 : Vc) : Vc :=
  bindP (F_laws_toInterval a0.x) fun r1 => bindP (F_laws_toInterval a0.y) fun r2 => bindP (F_laws_toInterval a0.z) fun r3 => (⟨r1, r2, r3⟩ : Vc)

def F_laws_toMat (a0 : Mt) : Mt :=
  bindP (F_laws_toVec a0.a) fun r1 => bindP (F_laws_toVec a0.b) fun r2 => bindP (F_laws_toVec a0.c) fun r3 => (⟨r1, r2, r3⟩ : Mt)

def F_laws_toAffine (a0 : Af) : Af :=
  bindP (F_laws_toMat a0.m) fun r1 => bindP (F_laws_toVec a0.t) fun r2 => (⟨r1, r2⟩ : Af)

def F_spec_l04Ok (a0 : Iv) : Bool :=
  (bif (decide ((-1152921504606846976) < a0.lo.val)) then (bif (decide (a0.lo.val ≤ a0.hi.val)) then (decide (a0.hi.val < 1152921504606846976)) else false) else false)

def F_spec_l04Whole : Iv :=
  (⟨(c64 (-1152921504606846976)), (c64 1152921504606846976)⟩ : Iv)

def F_spec_l00In (a0 : I64) (a1 : I64) (a2 : I64) : Bool :=
  (bif (decide (a0.val ≥ a1.val)) then (decide (a0.val ≤ a2.val)) else false)

def F_spec_l03Ok (a0 : I64) : Bool :=
  bindP (F_spec_l00In a0 (c64 (-1152921504606846976)) (c64 1152921504606846976)) fun r1 => r1

def F_spec_l02Size (a0 : I64) : U64 :=
  (bif (decide (a0.val < 0)) then (wu64 (0 - (wu64 a0.val).val)) else (wu64 a0.val))

def F_spec_l02Times (a0 : U64) (a1 : U64) : U64 × U64 :=
  ((wu64 ((wu64 ((wu64 ((ishr a0 32).val * (ishr a1 32).val)).val + (ishr (wu64 ((wu64 ((ishr a0 32).val * (iand .u64 a1.val 4294967295).val)).val + (ishr (wu64 ((iand .u64 a0.val 4294967295).val * (iand .u64 a1.val 4294967295).val)) 32).val)) 32).val)).val + (ishr (wu64 ((wu64 ((iand .u64 a0.val 4294967295).val * (ishr a1 32).val)).val + (iand .u64 (wu64 ((wu64 ((ishr a0 32).val * (iand .u64 a1.val 4294967295).val)).val + (ishr (wu64 ((iand .u64 a0.val 4294967295).val * (iand .u64 a1.val 4294967295).val)) 32).val)).val 4294967295).val)) 32).val)), (wu64 (a0.val * a1.val)))

def F_spec_l02Minus (a0 : Wd) : Wd :=
  (bif (a0.lo.val == 0) then (⟨(w64 (0 - a0.hi.val)), (wu64 (0 - a0.lo.val))⟩ : Wd) else (⟨(inot .i64 a0.hi.val), (wu64 (0 - a0.lo.val))⟩ : Wd))

def F_spec_l02Mul (a0 : I64) (a1 : I64) : Wd :=
  bindP (F_spec_l02Size a0) fun r1 => bindP (F_spec_l02Size a1) fun r2 => bindP (F_spec_l02Times r1 r2) fun r3 => (bif (!((decide (a0.val < 0)) == (decide (a1.val < 0)))) then bindP (F_spec_l02Minus (⟨(w64 r3.1.val), r3.2⟩ : Wd)) fun r4 => r4 else (⟨(w64 r3.1.val), r3.2⟩ : Wd))

def F_spec_l02Shift (a0 : Wd) (a1 : I64) : Wd :=
  (bif (a1.val == 0) then a0 else (bif (decide (a1.val < 64)) then (⟨(ishr a0.hi (wu64 a1.val).val), (ior .u64 (ishr a0.lo (wu64 a1.val).val).val (ishl .u64 (wu64 a0.hi.val).val (wu64 (w64 (64 - a1.val)).val).val).val)⟩ : Wd) else (⟨(ishr a0.hi 63), (wu64 (ishr a0.hi (wu64 (w64 (a1.val - 64)).val).val).val)⟩ : Wd)))

def F_spec_l02Of (a0 : I64) : Wd :=
  (bif (decide (a0.val < 0)) then (⟨(c64 (-1)), (wu64 a0.val)⟩ : Wd) else (⟨(c64 0), (wu64 a0.val)⟩ : Wd))

def F_spec_l02Int (a0 : Wd) : I64 × Bool :=
  bindP (F_spec_l02Of (w64 a0.lo.val)) fun r1 => (bif (!((r1.hi.val == a0.hi.val) && (r1.lo.val == a0.lo.val))) then ((c64 0), false) else ((w64 a0.lo.val), true))

def F_spec_MulFloor (a0 : I64) (a1 : I64) (a2 : I64) : I64 × Bool :=
  bindP (F_spec_l00In a2 (c64 0) (c64 126)) fun r1 => (bif (!r1) then ((c64 0), false) else bindP (F_spec_l02Mul a0 a1) fun r2 => bindP (F_spec_l02Shift r2 a2) fun r3 => bindP (F_spec_l02Int r3) fun r4 => (r4.1, r4.2))

def F_spec_l03End (a0 : I64) (a1 : Bool) : I64 × Bool :=
  (bif (!a1) then ((c64 0), false) else bindP (F_spec_l03Ok a0) fun r1 => (bif (!r1) then ((c64 0), false) else (a0, true)))

def F_spec_l03MulDown (a0 : I64) (a1 : I64) : I64 × Bool :=
  bindP (F_spec_l03Ok a0) fun r1 => (bif (!r1) then ((c64 0), false) else bindP (F_spec_l03Ok a1) fun r2 => (bif (!r2) then ((c64 0), false) else bindP (F_spec_MulFloor a0 a1 (c64 32)) fun r3 => bindP (F_spec_l03End r3.1 r3.2) fun r4 => (r4.1, r4.2)))

def F_spec_l03MulUp (a0 : I64) (a1 : I64) : I64 × Bool :=
  bindP (F_spec_l03MulDown (w64 (0 - a0.val)) a1) fun r1 => bindP (F_spec_l03Ok a0) fun r2 => (bif (!r2) then ((c64 0), false) else (bif (!r1.2) then ((c64 0), false) else ((w64 (0 - r1.1.val)), true)))

def F_spec_l00Min (a0 : I64) (a1 : I64) : I64 :=
  (bif (decide (a0.val < a1.val)) then a0 else a1)

def F_spec_l00Max (a0 : I64) (a1 : I64) : I64 :=
  (bif (decide (a0.val > a1.val)) then a0 else a1)

def F_spec_l04Make (a0 : I64) (a1 : I64) : Iv :=
  bindP (F_spec_l04Ok (⟨a0, a1⟩ : Iv)) fun r1 => (bif (!r1) then bindP (F_spec_l04Whole) fun r2 => r2 else (⟨a0, a1⟩ : Iv))

def F_spec_MulI (a0 : Iv) (a1 : Iv) : Iv :=
  bindP (F_spec_l04Ok a0) fun r1 => (bif (!r1) then bindP (F_spec_l04Whole) fun r2 => r2 else bindP (F_spec_l04Ok a1) fun r3 => (bif (!r3) then bindP (F_spec_l04Whole) fun r4 => r4 else bindP (F_spec_l03MulDown a0.lo a1.lo) fun r5 => bindP (F_spec_l03MulUp a0.lo a1.lo) fun r6 => (bif (!r5.2) then bindP (F_spec_l04Whole) fun r7 => r7 else (bif (!r6.2) then bindP (F_spec_l04Whole) fun r8 => r8 else bindP (F_spec_l00Min (c64 1152921504606846976) r5.1) fun r9 => bindP (F_spec_l00Max (c64 (-1152921504606846976)) r6.1) fun r10 => bindP (F_spec_l03MulDown a0.lo a1.hi) fun r11 => bindP (F_spec_l03MulUp a0.lo a1.hi) fun r12 => (bif (!r11.2) then bindP (F_spec_l04Whole) fun r13 => r13 else (bif (!r12.2) then bindP (F_spec_l04Whole) fun r14 => r14 else bindP (F_spec_l00Min r9 r11.1) fun r15 => bindP (F_spec_l00Max r10 r12.1) fun r16 => bindP (F_spec_l03MulDown a0.hi a1.lo) fun r17 => bindP (F_spec_l03MulUp a0.hi a1.lo) fun r18 => (bif (!r17.2) then bindP (F_spec_l04Whole) fun r19 => r19 else (bif (!r18.2) then bindP (F_spec_l04Whole) fun r20 => r20 else bindP (F_spec_l00Min r15 r17.1) fun r21 => bindP (F_spec_l00Max r16 r18.1) fun r22 => bindP (F_spec_l03MulDown a0.hi a1.hi) fun r23 => bindP (F_spec_l03MulUp a0.hi a1.hi) fun r24 => (bif (!r23.2) then bindP (F_spec_l04Whole) fun r25 => r25 else (bif (!r24.2) then bindP (F_spec_l04Whole) fun r26 => r26 else bindP (F_spec_l00Min r21 r23.1) fun r27 => bindP (F_spec_l00Max r22 r24.1) fun r28 => bindP (F_spec_l04Make r27 r28) fun r29 => r29))))))))))

def F_spec_AddI (a0 : Iv) (a1 : Iv) : Iv :=
  bindP (F_spec_l04Ok a0) fun r1 => (bif (!r1) then bindP (F_spec_l04Whole) fun r2 => r2 else bindP (F_spec_l04Ok a1) fun r3 => (bif (!r3) then bindP (F_spec_l04Whole) fun r4 => r4 else bindP (F_spec_l04Make (w64 (a0.lo.val + a1.lo.val)) (w64 (a0.hi.val + a1.hi.val))) fun r5 => r5))

def F_spec_DotV (a0 : Vc) (a1 : Vc) : Iv :=
  bindP (F_spec_MulI a0.x a1.x) fun r1 => bindP (F_spec_MulI a0.y a1.y) fun r2 => bindP (F_spec_AddI r1 r2) fun r3 => bindP (F_spec_MulI a0.z a1.z) fun r4 => bindP (F_spec_AddI r3 r4) fun r5 => r5

def F_spec_ApplyM (a0 : Mt) (a1 : Vc) : Vc :=
  bindP (F_spec_DotV a0.a a1) fun r1 => bindP (F_spec_DotV a0.b a1) fun r2 => bindP (F_spec_DotV a0.c a1) fun r3 => (⟨r1, r2, r3⟩ : Vc)

def F_spec_AddV (a0 : Vc) (a1 : Vc) : Vc :=
  bindP (F_spec_AddI a0.x a1.x) fun r1 => bindP (F_spec_AddI a0.y a1.y) fun r2 => bindP (F_spec_AddI a0.z a1.z) fun r3 => (⟨r1, r2, r3⟩ : Vc)

def F_spec_ApplyAffine (a0 : Af) (a1 : Vc) : Vc :=
  bindP (F_spec_ApplyM a0.m a1) fun r1 => bindP (F_spec_AddV r1 a0.t) fun r2 => r2

def F_impl_ValidInterval (a0 : Iv) : Bool :=
  (bif (decide ((-1152921504606846976) < a0.lo.val)) then (bif (decide (a0.lo.val ≤ a0.hi.val)) then (decide (a0.hi.val < 1152921504606846976)) else false) else false)

def F_impl_areBounded (a0 : Iv) (a1 : Iv) : Bool :=
  bindP (F_impl_ValidInterval a0) fun r1 => (bif r1 then bindP (F_impl_ValidInterval a1) fun r2 => r2 else false)

def F_impl_Whole : Iv :=
  (⟨(c64 (-1152921504606846976)), (c64 1152921504606846976)⟩ : Iv)

def F_impl_within (a0 : I64) (a1 : I64) (a2 : I64) : Bool :=
  (bif (decide (a0.val ≥ a1.val)) then (decide (a0.val ≤ a2.val)) else false)

def F_impl_ValidFix (a0 : I64) : Bool :=
  bindP (F_impl_within a0 (c64 (-1152921504606846976)) (c64 1152921504606846976)) fun r1 => r1

def F_bits_Mul64 (a0 : U64) (a1 : U64) : U64 × U64 :=
  ((wu64 ((wu64 ((wu64 ((ishr a0 32).val * (ishr a1 32).val)).val + (ishr (wu64 ((wu64 ((ishr a0 32).val * (iand .u64 a1.val 4294967295).val)).val + (ishr (wu64 ((iand .u64 a0.val 4294967295).val * (iand .u64 a1.val 4294967295).val)) 32).val)) 32).val)).val + (ishr (wu64 ((iand .u64 (wu64 ((wu64 ((ishr a0 32).val * (iand .u64 a1.val 4294967295).val)).val + (ishr (wu64 ((iand .u64 a0.val 4294967295).val * (iand .u64 a1.val 4294967295).val)) 32).val)).val 4294967295).val + (wu64 ((iand .u64 a0.val 4294967295).val * (ishr a1 32).val)).val)) 32).val)), (wu64 (a0.val * a1.val)))

def F_impl_WideMul (a0 : I64) (a1 : I64) : Wd :=
  bindP (F_bits_Mul64 (wu64 a0.val) (wu64 a1.val)) fun r1 => (bif (decide (a0.val < 0)) then (bif (decide (a1.val < 0)) then (⟨(w64 (wu64 ((wu64 (r1.1.val - (wu64 a1.val).val)).val - (wu64 a0.val).val)).val), r1.2⟩ : Wd) else (⟨(w64 (wu64 (r1.1.val - (wu64 a1.val).val)).val), r1.2⟩ : Wd)) else (bif (decide (a1.val < 0)) then (⟨(w64 (wu64 (r1.1.val - (wu64 a0.val).val)).val), r1.2⟩ : Wd) else (⟨(w64 r1.1.val), r1.2⟩ : Wd)))

def F_impl_WideShift (a0 : Wd) (a1 : I64) : Wd :=
  bindP (F_impl_within a1 (c64 0) (c64 127)) fun r1 => (bif (!r1) then (⟨(c64 0), (cu64 0)⟩ : Wd) else (bif (decide (a1.val ≥ 64)) then (⟨(ishr a0.hi 63), (wu64 (ishr a0.hi (w64 (a1.val - 64)).val).val)⟩ : Wd) else (⟨(ishr a0.hi a1.val), (ior .u64 (ishr a0.lo a1.val).val (ishl .u64 (wu64 a0.hi.val).val (w64 (64 - a1.val)).val).val)⟩ : Wd)))

def F_impl_WideOf (a0 : I64) : Wd :=
  (⟨(ishr a0 63), (wu64 a0.val)⟩ : Wd)

def F_impl_WideInt (a0 : Wd) : I64 × Bool :=
  bindP (F_impl_WideOf (w64 a0.lo.val)) fun r1 => (bif (!((r1.hi.val == a0.hi.val) && (r1.lo.val == a0.lo.val))) then ((c64 0), false) else ((w64 a0.lo.val), true))

def F_impl_MulFloor (a0 : I64) (a1 : I64) (a2 : I64) : I64 × Bool :=
  bindP (F_impl_within a2 (c64 0) (c64 126)) fun r1 => (bif (!r1) then ((c64 0), false) else bindP (F_impl_WideMul a0 a1) fun r2 => bindP (F_impl_WideShift r2 a2) fun r3 => bindP (F_impl_WideInt r3) fun r4 => (r4.1, r4.2))

def F_impl_fixed (a0 : I64) (a1 : Bool) : I64 × Bool :=
  (bif (!a1) then ((c64 0), false) else bindP (F_impl_ValidFix a0) fun r1 => (bif (!r1) then ((c64 0), false) else (a0, true)))

def F_impl_MulDown (a0 : I64) (a1 : I64) : I64 × Bool :=
  bindP (F_impl_ValidFix a0) fun r1 => (bif (!r1) then ((c64 0), false) else bindP (F_impl_ValidFix a1) fun r2 => (bif (!r2) then ((c64 0), false) else bindP (F_impl_MulFloor a0 a1 (c64 32)) fun r3 => bindP (F_impl_fixed r3.1 r3.2) fun r4 => (r4.1, r4.2)))

def F_impl_MulUp (a0 : I64) (a1 : I64) : I64 × Bool :=
  bindP (F_impl_ValidFix a0) fun r1 => (bif (!r1) then ((c64 0), false) else bindP (F_impl_ValidFix a1) fun r2 => (bif (!r2) then ((c64 0), false) else bindP (F_impl_MulDown (w64 (0 - a0.val)) a1) fun r3 => ((w64 (0 - r3.1.val)), r3.2)))

def F_impl_bounded (a0 : I64) (a1 : I64) (a2 : Bool) : Iv :=
  (bif a2 then bindP (F_impl_ValidInterval (⟨a0, a1⟩ : Iv)) fun r1 => (bif r1 then (⟨a0, a1⟩ : Iv) else bindP (F_impl_Whole) fun r2 => r2) else bindP (F_impl_Whole) fun r3 => r3)

def F_impl_combine__impl_MulDown__impl_MulUp (a0 : Iv) (a1 : Iv) : Iv :=
  bindP (F_impl_MulDown a0.lo a1.lo) fun r1 => bindP (F_impl_MulUp a0.lo a1.lo) fun r2 => (bif (!r1.2) then bindP (F_impl_Whole) fun r3 => r3 else (bif (!r2.2) then bindP (F_impl_Whole) fun r4 => r4 else bindP (F_impl_MulDown a0.lo a1.hi) fun r5 => bindP (F_impl_MulUp a0.lo a1.hi) fun r6 => (bif (!r5.2) then bindP (F_impl_Whole) fun r7 => r7 else (bif (!r6.2) then bindP (F_impl_Whole) fun r8 => r8 else bindP (F_impl_MulDown a0.hi a1.lo) fun r9 => bindP (F_impl_MulUp a0.hi a1.lo) fun r10 => (bif (!r9.2) then bindP (F_impl_Whole) fun r11 => r11 else (bif (!r10.2) then bindP (F_impl_Whole) fun r12 => r12 else bindP (F_impl_MulDown a0.hi a1.hi) fun r13 => bindP (F_impl_MulUp a0.hi a1.hi) fun r14 => (bif (!r13.2) then bindP (F_impl_Whole) fun r15 => r15 else (bif (!r14.2) then bindP (F_impl_Whole) fun r16 => r16 else bindP (F_impl_bounded (mn (mn (mn (mn r1.1 r1.1) r5.1) r9.1) r13.1) (mx (mx (mx (mx r2.1 r2.1) r6.1) r10.1) r14.1) true) fun r17 => r17))))))))

def F_impl_MulI (a0 : Iv) (a1 : Iv) : Iv :=
  bindP (F_impl_areBounded a0 a1) fun r1 => (bif (!r1) then bindP (F_impl_Whole) fun r2 => r2 else bindP (F_impl_combine__impl_MulDown__impl_MulUp a0 a1) fun r3 => r3)

def F_impl_AddI (a0 : Iv) (a1 : Iv) : Iv :=
  bindP (F_impl_areBounded a0 a1) fun r1 => (bif (!r1) then bindP (F_impl_Whole) fun r2 => r2 else bindP (F_impl_bounded (w64 (a0.lo.val + a1.lo.val)) (w64 (a0.hi.val + a1.hi.val)) true) fun r3 => r3)

def F_impl_DotV (a0 : Vc) (a1 : Vc) : Iv :=
  bindP (F_impl_MulI a0.x a1.x) fun r1 => bindP (F_impl_MulI a0.y a1.y) fun r2 => bindP (F_impl_AddI r1 r2) fun r3 => bindP (F_impl_MulI a0.z a1.z) fun r4 => bindP (F_impl_AddI r3 r4) fun r5 => r5

def F_impl_ApplyM (a0 : Mt) (a1 : Vc) : Vc :=
  bindP (F_impl_DotV a0.a a1) fun r1 => bindP (F_impl_DotV a0.b a1) fun r2 => bindP (F_impl_DotV a0.c a1) fun r3 => (⟨r1, r2, r3⟩ : Vc)

def F_impl_AddV (a0 : Vc) (a1 : Vc) : Vc :=
  bindP (F_impl_AddI a0.x a1.x) fun r1 => bindP (F_impl_AddI a0.y a1.y) fun r2 => bindP (F_impl_AddI a0.z a1.z) fun r3 => (⟨r1, r2, r3⟩ : Vc)

def F_impl_ApplyAffine (a0 : Af) (a1 : Vc) : Vc :=
  bindP (F_impl_ApplyM a0.m a1) fun r1 => bindP (F_impl_AddV r1 a0.t) fun r2 => r2

def F_laws_eqInterval (a0 : Iv) (a1 : Iv) : Bool :=
  (bif (a0.lo.val != a1.lo.val) then false else (bif (a0.hi.val != a1.hi.val) then false else true))

def F_laws_eqVec (a0 : Vc) (a1 : Vc) : Bool :=
  bindP (F_laws_eqInterval a0.x a1.x) fun r1 => (bif (!r1) then false else bindP (F_laws_eqInterval a0.y a1.y) fun r2 => (bif (!r2) then false else bindP (F_laws_eqInterval a0.z a1.z) fun r3 => (bif (!r3) then false else true)))

def F_laws_FnExactApplyAffine (a0 : Af) (a1 : Vc) : Bool :=
  bindP (F_laws_toAffine a0) fun r1 => bindP (F_laws_toVec a1) fun r2 => bindP (F_spec_ApplyAffine r1 r2) fun r3 => bindP (F_laws_toAffine a0) fun r4 => bindP (F_laws_toVec a1) fun r5 => bindP (F_impl_ApplyAffine r4 r5) fun r6 => bindP (F_laws_eqVec r6 r3) fun r7 => (bif (!r7) then false else true)

def F_spec_l10Columns (a0 : Mt) : Mt :=
  (⟨(⟨a0.a.x, a0.b.x, a0.c.x⟩ : Vc), (⟨a0.a.y, a0.b.y, a0.c.y⟩ : Vc), (⟨a0.a.z, a0.b.z, a0.c.z⟩ : Vc)⟩ : Mt)

def F_spec_MulM (a0 : Mt) (a1 : Mt) : Mt :=
  bindP (F_spec_l10Columns a1) fun r1 => bindP (F_spec_ApplyM r1 a0.a) fun r2 => bindP (F_spec_ApplyM r1 a0.b) fun r3 => bindP (F_spec_ApplyM r1 a0.c) fun r4 => (⟨r2, r3, r4⟩ : Mt)

def F_spec_ThenAffine (a0 : Af) (a1 : Af) : Af :=
  bindP (F_spec_MulM a1.m a0.m) fun r1 => bindP (F_spec_ApplyAffine a1 a0.t) fun r2 => (⟨r1, r2⟩ : Af)

def F_impl_transposed (a0 : Mt) : Mt :=
  (⟨(⟨a0.a.x, a0.b.x, a0.c.x⟩ : Vc), (⟨a0.a.y, a0.b.y, a0.c.y⟩ : Vc), (⟨a0.a.z, a0.b.z, a0.c.z⟩ : Vc)⟩ : Mt)

def F_impl_MulM (a0 : Mt) (a1 : Mt) : Mt :=
  bindP (F_impl_transposed a1) fun r1 => bindP (F_impl_ApplyM r1 a0.a) fun r2 => bindP (F_impl_ApplyM r1 a0.b) fun r3 => bindP (F_impl_ApplyM r1 a0.c) fun r4 => (⟨r2, r3, r4⟩ : Mt)

def F_impl_ThenAffine (a0 : Af) (a1 : Af) : Af :=
  bindP (F_impl_MulM a1.m a0.m) fun r1 => bindP (F_impl_ApplyAffine a1 a0.t) fun r2 => (⟨r1, r2⟩ : Af)

def F_laws_eqMat (a0 : Mt) (a1 : Mt) : Bool :=
  bindP (F_laws_eqVec a0.a a1.a) fun r1 => (bif (!r1) then false else bindP (F_laws_eqVec a0.b a1.b) fun r2 => (bif (!r2) then false else bindP (F_laws_eqVec a0.c a1.c) fun r3 => (bif (!r3) then false else true)))

end Go.Proofs.Ytkbkopmelaiffaa.Abs
