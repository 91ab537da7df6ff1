/- The functions, on numbers; part 6 (written by w.py). -/
import Derived.Test.YtjckiicaegpghaaGreatF5
set_option linter.unusedVariables false
set_option linter.unusedSimpArgs false
namespace Go.Proofs.YtjckiicaegpghaaGreat.Abs
open Go Go.RowKit

def F_laws_eqPlanar (a0 : Pn) (a1 : Pn) : Bool :=
  bindP (F_laws_eqInterval a0.x a1.x) fun r1 => (bif (!r1) then false else bindP (F_laws_eqInterval a0.y a1.y) fun r2 => (bif (!r2) then false else true))

def F_laws_FnExactProject (a0 : Pj) (a1 : Pt) : Bool :=
  bindP (F_laws_toProjection a0) fun r1 => bindP (F_laws_toPoint a1) fun r2 => bindP (F_spec_Project r1 r2) fun r3 => bindP (F_laws_toProjection a0) fun r4 => bindP (F_laws_toPoint a1) fun r5 => bindP (F_impl_Project r4 r5) fun r6 => bindP (F_laws_eqPlanar r6.1 r3.1) fun r7 => (bif (!r7) then false else (bif (r6.2.val != r3.2.val) then false else true))

def F_spec_l22Distance (a0 : Pj) (a1 : Pt) (a2 : Pt) : Iv × I64 :=
  bindP (F_spec_l22Project a0 a1) fun r1 => (bif (r1.2.val != 0) then ((⟨(c64 0), (c64 0)⟩ : Iv), r1.2) else bindP (F_spec_l22Project a0 a2) fun r2 => (bif (r2.2.val != 0) then ((⟨(c64 0), (c64 0)⟩ : Iv), r2.2) else bindP (F_spec_SubI r1.1.x r2.1.x) fun r3 => bindP (F_spec_SqrI r3) fun r4 => bindP (F_spec_SubI r1.1.y r2.1.y) fun r5 => bindP (F_spec_SqrI r5) fun r6 => bindP (F_spec_AddI r4 r6) fun r7 => bindP (F_spec_SqrtI r7) fun r8 => bindP (F_spec_l19Known r8) fun r9 => (r9.1, r9.2)))

def F_spec_MapDistance (a0 : Pj) (a1 : Pt) (a2 : Pt) : Iv × I64 :=
  bindP (F_spec_l22Distance a0 a1 a2) fun r1 => (r1.1, r1.2)

def F_impl_MapDistance (a0 : Pj) (a1 : Pt) (a2 : Pt) : Iv × I64 :=
  bindP (F_impl_Project a0 a1) fun r1 => (bif (r1.2.val != 0) then ((⟨(c64 0), (c64 0)⟩ : Iv), r1.2) else bindP (F_impl_Project a0 a2) fun r2 => (bif (r2.2.val != 0) then ((⟨(c64 0), (c64 0)⟩ : Iv), r2.2) else bindP (F_impl_SubI r1.1.x r2.1.x) fun r3 => bindP (F_impl_SqrI r3) fun r4 => bindP (F_impl_SubI r1.1.y r2.1.y) fun r5 => bindP (F_impl_SqrI r5) fun r6 => bindP (F_impl_AddI r4 r6) fun r7 => bindP (F_impl_SqrtI r7) fun r8 => bindP (F_impl_knownI r8) fun r9 => (r9.1, r9.2)))

def F_laws_FnExactMapDistance (a0 : Pj) (a1 : Pt) (a2 : Pt) : Bool :=
  bindP (F_laws_toProjection a0) fun r1 => bindP (F_laws_toPoint a1) fun r2 => bindP (F_laws_toPoint a2) fun r3 => bindP (F_spec_MapDistance r1 r2 r3) fun r4 => bindP (F_laws_toProjection a0) fun r5 => bindP (F_laws_toPoint a1) fun r6 => bindP (F_laws_toPoint a2) fun r7 => bindP (F_impl_MapDistance r5 r6 r7) fun r8 => bindP (F_laws_eqInterval r8.1 r4.1) fun r9 => (bif (!r9) then false else (bif (r8.2.val != r4.2.val) then false else true))

def F_spec_StretchOf (a0 : Pj) (a1 : Pt) (a2 : Pt) : Iv × I64 :=
  bindP (F_spec_l22Distance a0 a1 a2) fun r1 => (bif (r1.2.val != 0) then ((⟨(c64 0), (c64 0)⟩ : Iv), r1.2) else bindP (F_spec_AngleBetween a1 a2) fun r2 => bindP (F_spec_DivI r1.1 r2.1) fun r3 => bindP (F_spec_l19Known r3) fun r4 => (r4.1, r4.2))

def F_impl_StretchOf (a0 : Pj) (a1 : Pt) (a2 : Pt) : Iv × I64 :=
  bindP (F_impl_MapDistance a0 a1 a2) fun r1 => (bif (r1.2.val != 0) then ((⟨(c64 0), (c64 0)⟩ : Iv), r1.2) else bindP (F_impl_AngleBetween a1 a2) fun r2 => (bif (r2.2.val != 0) then ((⟨(c64 0), (c64 0)⟩ : Iv), r2.2) else bindP (F_impl_DivI r1.1 r2.1) fun r3 => bindP (F_impl_knownI r3) fun r4 => (r4.1, r4.2)))

def F_laws_FnExactStretchOf (a0 : Pj) (a1 : Pt) (a2 : Pt) : Bool :=
  bindP (F_laws_toProjection a0) fun r1 => bindP (F_laws_toPoint a1) fun r2 => bindP (F_laws_toPoint a2) fun r3 => bindP (F_spec_StretchOf r1 r2 r3) fun r4 => bindP (F_laws_toProjection a0) fun r5 => bindP (F_laws_toPoint a1) fun r6 => bindP (F_laws_toPoint a2) fun r7 => bindP (F_impl_StretchOf r5 r6 r7) fun r8 => bindP (F_laws_eqInterval r8.1 r4.1) fun r9 => (bif (!r9) then false else (bif (r8.2.val != r4.2.val) then false else true))

end Go.Proofs.YtjckiicaegpghaaGreat.Abs
