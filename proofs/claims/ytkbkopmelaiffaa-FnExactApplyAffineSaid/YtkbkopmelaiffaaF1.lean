/- The functions, on numbers; part 1 (written by w.py). -/
import Derived.Test.YtkbkopmelaiffaaF0
set_option linter.unusedVariables false
set_option linter.unusedSimpArgs false
namespace Go.Proofs.Ytkbkopmelaiffaa.Abs
open Go Go.RowKit

def F_laws_eqAffine (a0 : Af) (a1 : Af) : Bool :=
  bindP (F_laws_eqMat a0.m a1.m) fun r1 => (bif (!r1) then false else bindP (F_laws_eqVec a0.t a1.t) fun r2 => (bif (!r2) then false else true))

def F_laws_FnExactThenAffine (a0 : Af) (a1 : Af) : Bool :=
  bindP (F_laws_toAffine a0) fun r1 => bindP (F_laws_toAffine a1) fun r2 => bindP (F_spec_ThenAffine r1 r2) fun r3 => bindP (F_laws_toAffine a0) fun r4 => bindP (F_laws_toAffine a1) fun r5 => bindP (F_impl_ThenAffine r4 r5) fun r6 => bindP (F_laws_eqAffine r6 r3) fun r7 => (bif (!r7) then false else true)

def F_laws_toShift (a0 : Sf) : Sf :=
  a0

def F_spec_l23Ok__pSf (b0 : Sf) : Bool :=
  bindP (F_spec_l00In b0.tx (c64 (-10000000)) (c64 10000000)) fun r1 => (bif (!r1) then false else bindP (F_spec_l00In b0.rx (c64 (-100000000)) (c64 100000000)) fun r2 => (bif (!r2) then false else bindP (F_spec_l00In b0.ty (c64 (-10000000)) (c64 10000000)) fun r3 => (bif (!r3) then false else bindP (F_spec_l00In b0.ry (c64 (-100000000)) (c64 100000000)) fun r4 => (bif (!r4) then false else bindP (F_spec_l00In b0.tz (c64 (-10000000)) (c64 10000000)) fun r5 => (bif (!r5) then false else bindP (F_spec_l00In b0.rz (c64 (-100000000)) (c64 100000000)) fun r6 => (bif (!r6) then false else bindP (F_spec_l00In b0.sc (c64 (-1000000)) (c64 1000000)) fun r7 => r7))))))

def F_spec_Integer (a0 : I64) : Iv :=
  bindP (F_spec_l00In a0 (c64 (-268435455)) (c64 268435455)) fun r1 => (bif (!r1) then bindP (F_spec_l04Whole) fun r2 => r2 else bindP (F_spec_l04Make (w64 (a0.val * 4294967296)) (w64 (a0.val * 4294967296))) fun r3 => r3)

def F_spec_SubI (a0 : Iv) (a1 : Iv) : Iv :=
  bindP (F_spec_l04Ok a0) fun r1 => (bif (!r1) then bindP (F_spec_l04Whole) fun r2 => r2 else bindP (F_spec_l04Ok a1) fun r3 => (bif (!r3) then bindP (F_spec_l04Whole) fun r4 => r4 else bindP (F_spec_l04Make (w64 (a0.lo.val - a1.hi.val)) (w64 (a0.hi.val - a1.lo.val))) fun r5 => r5))

def F_spec_CrossV (a0 : Vc) (a1 : Vc) : Vc :=
  bindP (F_spec_MulI a0.y a1.z) fun r1 => bindP (F_spec_MulI a0.z a1.y) fun r2 => bindP (F_spec_SubI r1 r2) fun r3 => bindP (F_spec_MulI a0.z a1.x) fun r4 => bindP (F_spec_MulI a0.x a1.z) fun r5 => bindP (F_spec_SubI r4 r5) fun r6 => bindP (F_spec_MulI a0.x a1.y) fun r7 => bindP (F_spec_MulI a0.y a1.x) fun r8 => bindP (F_spec_SubI r7 r8) fun r9 => (⟨r3, r6, r9⟩ : Vc)

def F_spec_l04Has (a0 : Iv) (a1 : I64) : Bool :=
  bindP (F_spec_l00In a1 a0.lo a0.hi) fun r1 => r1

def F_spec_HasI (a0 : Iv) (a1 : I64) : Bool :=
  bindP (F_spec_l04Ok a0) fun r1 => (bif (!r1) then true else bindP (F_spec_l04Has a0 a1) fun r2 => r2)

end Go.Proofs.Ytkbkopmelaiffaa.Abs
