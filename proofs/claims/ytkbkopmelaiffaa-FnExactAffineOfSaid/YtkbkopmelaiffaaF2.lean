/- The functions, on numbers; part 2 (written by w.py). -/
import Derived.Test.YtkbkopmelaiffaaF1
set_option linter.unusedVariables false
set_option linter.unusedSimpArgs false
namespace Go.Proofs.Ytkbkopmelaiffaa.Abs
open Go Go.RowKit

def F_impl_dividedV (a0 : Vc) (a1 : Iv) : Vc :=
  bindP (F_impl_DivI a0.x a1) fun r1 => bindP (F_impl_DivI a0.y a1) fun r2 => bindP (F_impl_DivI a0.z a1) fun r3 => (⟨r1, r2, r3⟩ : Vc)

def F_impl_InverseM (a0 : Mt) : Mt × Bool :=
  bindP (F_impl_CrossV a0.b a0.c) fun r1 => bindP (F_impl_CrossV a0.c a0.a) fun r2 => bindP (F_impl_CrossV a0.a a0.b) fun r3 => bindP (F_impl_DotV a0.a r1) fun r4 => bindP (F_impl_HasI r4 (c64 0)) fun r5 => (bif r5 then ((⟨(⟨(⟨(c64 0), (c64 0)⟩ : Iv), (⟨(c64 0), (c64 0)⟩ : Iv), (⟨(c64 0), (c64 0)⟩ : Iv)⟩ : Vc), (⟨(⟨(c64 0), (c64 0)⟩ : Iv), (⟨(c64 0), (c64 0)⟩ : Iv), (⟨(c64 0), (c64 0)⟩ : Iv)⟩ : Vc), (⟨(⟨(c64 0), (c64 0)⟩ : Iv), (⟨(c64 0), (c64 0)⟩ : Iv), (⟨(c64 0), (c64 0)⟩ : Iv)⟩ : Vc)⟩ : Mt), false) else bindP (F_impl_transposed (⟨r1, r2, r3⟩ : Mt)) fun r6 => bindP (F_impl_dividedV r6.a r4) fun r7 => bindP (F_impl_dividedV r6.b r4) fun r8 => bindP (F_impl_dividedV r6.c r4) fun r9 => ((⟨r7, r8, r9⟩ : Mt), true))

def F_impl_InvertAffine (a0 : Af) : Af × Bool :=
  bindP (F_impl_InverseM a0.m) fun r1 => (bif (!r1.2) then ((⟨(⟨(⟨(⟨(c64 0), (c64 0)⟩ : Iv), (⟨(c64 0), (c64 0)⟩ : Iv), (⟨(c64 0), (c64 0)⟩ : Iv)⟩ : Vc), (⟨(⟨(c64 0), (c64 0)⟩ : Iv), (⟨(c64 0), (c64 0)⟩ : Iv), (⟨(c64 0), (c64 0)⟩ : Iv)⟩ : Vc), (⟨(⟨(c64 0), (c64 0)⟩ : Iv), (⟨(c64 0), (c64 0)⟩ : Iv), (⟨(c64 0), (c64 0)⟩ : Iv)⟩ : Vc)⟩ : Mt), (⟨(⟨(c64 0), (c64 0)⟩ : Iv), (⟨(c64 0), (c64 0)⟩ : Iv), (⟨(c64 0), (c64 0)⟩ : Iv)⟩ : Vc)⟩ : Af), false) else bindP (F_impl_ApplyM r1.1 a0.t) fun r2 => bindP (F_impl_NegI r2.x) fun r3 => bindP (F_impl_NegI r2.y) fun r4 => bindP (F_impl_NegI r2.z) fun r5 => ((⟨r1.1, (⟨r3, r4, r5⟩ : Vc)⟩ : Af), true))

def F_laws_FnExactInvertAffine (a0 : Af) : Bool :=
  bindP (F_laws_toAffine a0) fun r1 => bindP (F_spec_InvertAffine r1) fun r2 => bindP (F_laws_toAffine a0) fun r3 => bindP (F_impl_InvertAffine r3) fun r4 => bindP (F_laws_eqAffine r4.1 r2.1) fun r5 => (bif (!r5) then false else (bif (!(r4.2 == r2.2)) then false else true))

end Go.Proofs.Ytkbkopmelaiffaa.Abs
