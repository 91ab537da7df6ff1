/- The functions, on numbers; part 3 (written by w.py). -/
import Derived.Test.YtmkiegnnaabmaaaGreatF2
set_option linter.unusedVariables false
set_option linter.unusedSimpArgs false
namespace Go.Proofs.YtmkiegnnaabmaaaGreat.Abs
open Go Go.RowKit

def F_impl_SqrtFloor (a0 : I64) (a1 : I64) : I64 × Bool :=
  (bif (decide (a0.val < 0)) then ((c64 0), false) else (bif (decide (a1.val < 0)) then ((c64 0), false) else bindP (F_impl_WideMul a0 a1) fun r1 => bindP (F_impl_WideSqrt r1) fun r2 => ((w64 r2.1.val), r2.2)))

def F_impl_SqrtDown (a0 : I64) : I64 × Bool :=
  bindP (F_impl_ValidFix a0) fun r1 => (bif (!r1) then ((c64 0), false) else bindP (F_impl_SqrtFloor a0 (c64 4294967296)) fun r2 => bindP (F_impl_fixed r2.1 r2.2) fun r3 => (r3.1, r3.2))

def F_impl_SqrtUp (a0 : I64) : I64 × Bool :=
  bindP (F_impl_SqrtDown a0) fun r1 => (bif r1.2 then bindP (F_impl_WideMul r1.1 r1.1) fun r2 => bindP (F_impl_WideMul a0 (c64 4294967296)) fun r3 => (bif (!((r2.hi.val == r3.hi.val) && (r2.lo.val == r3.lo.val))) then bindP (F_impl_fixed (w64 (r1.1.val + 1)) r1.2) fun r4 => (r4.1, r4.2) else bindP (F_impl_fixed r1.1 r1.2) fun r5 => (r5.1, r5.2)) else bindP (F_impl_fixed r1.1 r1.2) fun r6 => (r6.1, r6.2))

def F_impl_SqrtI (a0 : Iv) : Iv :=
  bindP (F_impl_IsWhole a0) fun r1 => (bif r1 then bindP (F_impl_Whole) fun r2 => r2 else (bif (decide (a0.lo.val < 0)) then bindP (F_impl_Whole) fun r3 => r3 else bindP (F_impl_SqrtDown a0.lo) fun r4 => bindP (F_impl_SqrtUp a0.hi) fun r5 => (bif r4.2 then bindP (F_impl_bounded r4.1 r5.1 r5.2) fun r6 => r6 else bindP (F_impl_bounded r4.1 r5.1 false) fun r7 => r7)))

def F_impl_knownI (a0 : Iv) : Iv × I64 :=
  bindP (F_impl_IsWhole a0) fun r1 => (bif r1 then ((⟨(c64 0), (c64 0)⟩ : Iv), (c64 9)) else (a0, (c64 0)))

def F_impl_TransverseScale (a0 : Pj) (a1 : Pt) : Iv × I64 :=
  bindP (F_impl_transverse a0 a1) fun r1 => (bif (r1.2.2.2.val != 0) then ((⟨(c64 0), (c64 0)⟩ : Iv), r1.2.2.2) else bindP (F_impl_Integer (c64 1)) fun r2 => bindP (F_impl_SqrI r1.2.2.1) fun r3 => bindP (F_impl_oneLess r3) fun r4 => bindP (F_impl_SqrtI r4) fun r5 => bindP (F_impl_DivI r2 r5) fun r6 => bindP (F_impl_knownI r6) fun r7 => (r7.1, r7.2))

def F_laws_FnExactTransverseScale (a0 : Pj) (a1 : Pt) : Bool :=
  bindP (F_laws_toProjection a0) fun r1 => bindP (F_laws_toPoint a1) fun r2 => bindP (F_spec_TransverseScale r1 r2) fun r3 => bindP (F_laws_toProjection a0) fun r4 => bindP (F_laws_toPoint a1) fun r5 => bindP (F_impl_TransverseScale r4 r5) fun r6 => bindP (F_laws_eqInterval r6.1 r3.1) fun r7 => (bif (!r7) then false else (bif (r6.2.val != r3.2.val) then false else true))

def F_spec_l20Kind (a0 : I64) : Bool :=
  bindP (F_spec_l00In a0 (c64 13) (c64 15)) fun r1 => r1

def F_spec_l20Root (a0 : I64) : Iv :=
  (bif (a0.val == 14) then bindP (F_spec_Integer (c64 2)) fun r1 => bindP (F_spec_SqrtI r1) fun r2 => r2 else bindP (F_spec_Integer (c64 2)) fun r3 => bindP (F_spec_PiI) fun r4 => bindP (F_spec_AddI r3 r4) fun r5 => bindP (F_spec_SqrtI r5) fun r6 => r6)

def F_spec_l20Parallel (a0 : I64) (a1 : Iv) : Iv × Iv :=
  (bif (a0.val == 13) then bindP (F_spec_CosI a1) fun r1 => (r1, a1) else (bif (a0.val == 14) then bindP (F_spec_Integer (c64 2)) fun r2 => bindP (F_spec_l20Root a0) fun r3 => bindP (F_spec_MulI r2 r3) fun r4 => bindP (F_spec_CosI a1) fun r5 => bindP (F_spec_MulI r4 r5) fun r6 => bindP (F_spec_PiI) fun r7 => bindP (F_spec_DivI r6 r7) fun r8 => bindP (F_spec_l20Root a0) fun r9 => bindP (F_spec_SinI a1) fun r10 => bindP (F_spec_MulI r9 r10) fun r11 => (r8, r11) else bindP (F_spec_Integer (c64 1)) fun r12 => bindP (F_spec_CosI a1) fun r13 => bindP (F_spec_AddI r12 r13) fun r14 => bindP (F_spec_l20Root a0) fun r15 => bindP (F_spec_DivI r14 r15) fun r16 => bindP (F_spec_Integer (c64 2)) fun r17 => bindP (F_spec_MulI r17 a1) fun r18 => bindP (F_spec_l20Root a0) fun r19 => bindP (F_spec_DivI r18 r19) fun r20 => (r16, r20)))

def F_spec_ParallelOf (a0 : I64) (a1 : Iv) : Iv × Iv :=
  bindP (F_spec_l20Kind a0) fun r1 => (bif (!r1) then bindP (F_spec_Whole) fun r2 => bindP (F_spec_Whole) fun r3 => (r2, r3) else bindP (F_spec_ThetaOf a0 a1) fun r4 => bindP (F_spec_l20Parallel a0 r4) fun r5 => (r5.1, r5.2))

def F_impl_pseudoRadius (a0 : I64) : Iv :=
  (bif (a0.val == 14) then bindP (F_impl_Integer (c64 2)) fun r1 => bindP (F_impl_SqrtI r1) fun r2 => r2 else bindP (F_impl_Integer (c64 2)) fun r3 => bindP (F_impl_PiI) fun r4 => bindP (F_impl_AddI r3 r4) fun r5 => bindP (F_impl_SqrtI r5) fun r6 => r6)

def F_impl_times (a0 : I64) (a1 : Iv) : Iv :=
  bindP (F_impl_Integer a0) fun r1 => bindP (F_impl_MulI r1 a1) fun r2 => r2

def F_impl_parallelLength (a0 : I64) (a1 : Iv) : Iv :=
  bindP (F_impl_pseudoRadius a0) fun r1 => (bif (a0.val == 13) then bindP (F_impl_CosI a1) fun r2 => r2 else (bif (a0.val == 14) then bindP (F_impl_times (c64 2) r1) fun r3 => bindP (F_impl_CosI a1) fun r4 => bindP (F_impl_MulI r3 r4) fun r5 => bindP (F_impl_PiI) fun r6 => bindP (F_impl_DivI r5 r6) fun r7 => r7 else bindP (F_impl_Integer (c64 1)) fun r8 => bindP (F_impl_CosI a1) fun r9 => bindP (F_impl_AddI r8 r9) fun r10 => bindP (F_impl_DivI r10 r1) fun r11 => r11))

def F_impl_parallelHeight (a0 : I64) (a1 : Iv) : Iv :=
  bindP (F_impl_pseudoRadius a0) fun r1 => (bif (a0.val == 13) then a1 else (bif (a0.val == 14) then bindP (F_impl_SinI a1) fun r2 => bindP (F_impl_MulI r1 r2) fun r3 => r3 else bindP (F_impl_times (c64 2) a1) fun r4 => bindP (F_impl_DivI r4 r1) fun r5 => r5))

def F_impl_ParallelOf (a0 : I64) (a1 : Iv) : Iv × Iv :=
  bindP (F_impl_isPseudo a0) fun r1 => (bif (!r1) then bindP (F_impl_Whole) fun r2 => bindP (F_impl_Whole) fun r3 => (r2, r3) else bindP (F_impl_ThetaOf a0 a1) fun r4 => bindP (F_impl_parallelLength a0 r4) fun r5 => bindP (F_impl_parallelHeight a0 r4) fun r6 => (r5, r6))

def F_laws_FnExactParallelOf (a0 : I64) (a1 : Iv) : Bool :=
  bindP (F_laws_toInterval a1) fun r1 => bindP (F_spec_ParallelOf a0 r1) fun r2 => bindP (F_laws_toInterval a1) fun r3 => bindP (F_impl_ParallelOf a0 r3) fun r4 => bindP (F_laws_eqInterval r4.1 r2.1) fun r5 => (bif (!r5) then false else bindP (F_laws_eqInterval r4.2 r2.2) fun r6 => (bif (!r6) then false else true))

def F_spec_l20Ok__pPj (b0 : Pj) : Bool :=
  bindP (F_spec_l20Kind b0.kind) fun r1 => (bif r1 then bindP (F_spec_ValidProjection b0) fun r2 => r2 else false)

def F_spec_PseudoForward (a0 : Pj) (a1 : Pt) : Pn × I64 :=
  bindP (F_spec_l20Ok__pPj a0) fun r1 => (bif (!r1) then ((⟨(⟨(c64 0), (c64 0)⟩ : Iv), (⟨(c64 0), (c64 0)⟩ : Iv)⟩ : Pn), (c64 1)) else bindP (F_spec_l11Ok a1) fun r2 => (bif (!r2) then ((⟨(⟨(c64 0), (c64 0)⟩ : Iv), (⟨(c64 0), (c64 0)⟩ : Iv)⟩ : Pn), (c64 1)) else bindP (F_spec_RadiansOf a1.lat) fun r3 => bindP (F_spec_ParallelOf a0.kind r3) fun r4 => bindP (F_spec_l11Wrap (w64 (a1.lon.val - a0.lon0.val))) fun r5 => bindP (F_spec_RadiansOf r5) fun r6 => bindP (F_spec_MulI r6 r4.1) fun r7 => bindP (F_spec_IsWhole r7) fun r8 => (bif r8 then ((⟨(⟨(c64 0), (c64 0)⟩ : Iv), (⟨(c64 0), (c64 0)⟩ : Iv)⟩ : Pn), (c64 9)) else bindP (F_spec_IsWhole r4.2) fun r9 => (bif r9 then ((⟨(⟨(c64 0), (c64 0)⟩ : Iv), (⟨(c64 0), (c64 0)⟩ : Iv)⟩ : Pn), (c64 9)) else ((⟨r7, r4.2⟩ : Pn), (c64 0))))))

def F_impl_isPseudoOne (a0 : Pj) : Bool :=
  bindP (F_impl_ValidProjection a0) fun r1 => (bif r1 then bindP (F_impl_isPseudo a0.kind) fun r2 => r2 else false)

def F_impl_planar (a0 : Iv) (a1 : Iv) : Pn × I64 :=
  bindP (F_impl_areBounded a0 a1) fun r1 => (bif (!r1) then ((⟨(⟨(c64 0), (c64 0)⟩ : Iv), (⟨(c64 0), (c64 0)⟩ : Iv)⟩ : Pn), (c64 9)) else ((⟨a0, a1⟩ : Pn), (c64 0)))

def F_impl_PseudoForward (a0 : Pj) (a1 : Pt) : Pn × I64 :=
  bindP (F_impl_isPseudoOne a0) fun r1 => (bif (!r1) then ((⟨(⟨(c64 0), (c64 0)⟩ : Iv), (⟨(c64 0), (c64 0)⟩ : Iv)⟩ : Pn), (c64 1)) else bindP (F_impl_ValidPoint a1) fun r2 => (bif (!r2) then ((⟨(⟨(c64 0), (c64 0)⟩ : Iv), (⟨(c64 0), (c64 0)⟩ : Iv)⟩ : Pn), (c64 1)) else bindP (F_impl_LatOf a1) fun r3 => bindP (F_impl_ParallelOf a0.kind r3) fun r4 => bindP (F_impl_LonFrom a0 a1) fun r5 => bindP (F_impl_MulI r5 r4.1) fun r6 => bindP (F_impl_planar r6 r4.2) fun r7 => (r7.1, r7.2)))

def F_laws_eqPlanar (a0 : Pn) (a1 : Pn) : Bool :=
  bindP (F_laws_eqInterval a0.x a1.x) fun r1 => (bif (!r1) then false else bindP (F_laws_eqInterval a0.y a1.y) fun r2 => (bif (!r2) then false else true))

def F_laws_FnExactPseudoForward (a0 : Pj) (a1 : Pt) : Bool :=
  bindP (F_laws_toProjection a0) fun r1 => bindP (F_laws_toPoint a1) fun r2 => bindP (F_spec_PseudoForward r1 r2) fun r3 => bindP (F_laws_toProjection a0) fun r4 => bindP (F_laws_toPoint a1) fun r5 => bindP (F_impl_PseudoForward r4 r5) fun r6 => bindP (F_laws_eqPlanar r6.1 r3.1) fun r7 => (bif (!r7) then false else (bif (r6.2.val != r3.2.val) then false else true))

end Go.Proofs.YtmkiegnnaabmaaaGreat.Abs
