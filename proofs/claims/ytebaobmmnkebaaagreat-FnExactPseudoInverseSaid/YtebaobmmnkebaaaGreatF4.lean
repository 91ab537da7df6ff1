/- The functions, on numbers; part 4 (written by w.py). -/
import Derived.Test.YtebaobmmnkebaaaGreatF3
set_option linter.unusedVariables false
set_option linter.unusedSimpArgs false
namespace Go.Proofs.YtebaobmmnkebaaaGreat.Abs
open Go Go.RowKit

def F_spec_l20Right (a0 : I64) : Iv :=
  (bif (a0.val == 14) then bindP (F_spec_PiI) fun r1 => r1 else bindP (F_spec_Integer (c64 1)) fun r2 => bindP (F_spec_TurnI (c64 1)) fun r3 => bindP (F_spec_AddI r2 r3) fun r4 => r4)

def F_spec_l20Lat (a0 : I64) (a1 : Iv) : Iv :=
  (bif (a0.val == 13) then a1 else (bif (a0.val == 14) then bindP (F_spec_DoubleI a1) fun r1 => bindP (F_spec_SinI r1) fun r2 => bindP (F_spec_AddI r1 r2) fun r3 => bindP (F_spec_l20Right a0) fun r4 => bindP (F_spec_DivI r3 r4) fun r5 => bindP (F_spec_AsinI r5) fun r6 => r6 else bindP (F_spec_SinI a1) fun r7 => bindP (F_spec_AddI a1 r7) fun r8 => bindP (F_spec_l20Right a0) fun r9 => bindP (F_spec_DivI r8 r9) fun r10 => bindP (F_spec_AsinI r10) fun r11 => r11))

def F_spec_PseudoInverse (a0 : Pj) (a1 : Pn) : Iv × Iv × I64 :=
  bindP (F_spec_l20Ok__pPj a0) fun r1 => (bif (!r1) then ((⟨(c64 0), (c64 0)⟩ : Iv), (⟨(c64 0), (c64 0)⟩ : Iv), (c64 1)) else bindP (F_spec_l20High a0.kind) fun r2 => bindP (F_spec_AbsI a1.y) fun r3 => bindP (F_spec_LessI r2 r3) fun r4 => (bif (r4.val == 1) then ((⟨(c64 0), (c64 0)⟩ : Iv), (⟨(c64 0), (c64 0)⟩ : Iv), (c64 8)) else bindP (F_spec_l20Back a0.kind a1.y) fun r5 => bindP (F_spec_l20Parallel a0.kind r5) fun r6 => bindP (F_spec_l20Lat a0.kind r5) fun r7 => bindP (F_spec_DivI a1.x r6.1) fun r8 => bindP (F_spec_PiI) fun r9 => bindP (F_spec_AbsI r8) fun r10 => bindP (F_spec_LessI r9 r10) fun r11 => (bif (r11.val == 1) then ((⟨(c64 0), (c64 0)⟩ : Iv), (⟨(c64 0), (c64 0)⟩ : Iv), (c64 8)) else bindP (F_spec_IsWhole r7) fun r12 => (bif r12 then ((⟨(c64 0), (c64 0)⟩ : Iv), (⟨(c64 0), (c64 0)⟩ : Iv), (c64 9)) else bindP (F_spec_RadiansOf a0.lon0) fun r13 => bindP (F_spec_AddI r13 r8) fun r14 => (r7, r14, (c64 0))))))

def F_impl_leftFactor (a0 : I64) : Iv :=
  (bif (a0.val == 14) then bindP (F_impl_PiI) fun r1 => r1 else bindP (F_impl_Integer (c64 1)) fun r2 => bindP (F_impl_TurnI (c64 1)) fun r3 => bindP (F_impl_AddI r2 r3) fun r4 => r4)

def F_impl_latitudeFor (a0 : I64) (a1 : Iv) : Iv :=
  (bif (a0.val == 13) then a1 else (bif (a0.val == 14) then bindP (F_impl_DoubleI a1) fun r1 => bindP (F_impl_SinI r1) fun r2 => bindP (F_impl_AddI r1 r2) fun r3 => bindP (F_impl_leftFactor a0) fun r4 => bindP (F_impl_DivI r3 r4) fun r5 => bindP (F_impl_AsinI r5) fun r6 => r6 else bindP (F_impl_SinI a1) fun r7 => bindP (F_impl_AddI a1 r7) fun r8 => bindP (F_impl_leftFactor a0) fun r9 => bindP (F_impl_DivI r8 r9) fun r10 => bindP (F_impl_AsinI r10) fun r11 => r11))

def F_impl_PseudoInverse (a0 : Pj) (a1 : Pn) : Iv × Iv × I64 :=
  bindP (F_impl_isPseudoOne a0) fun r1 => (bif (!r1) then ((⟨(c64 0), (c64 0)⟩ : Iv), (⟨(c64 0), (c64 0)⟩ : Iv), (c64 1)) else bindP (F_impl_inverseParameter a0.kind a1.y) fun r2 => bindP (F_impl_parallelLength a0.kind r2) fun r3 => bindP (F_impl_DivI a1.x r3) fun r4 => bindP (F_impl_poleHeight a0.kind) fun r5 => bindP (F_impl_AbsI a1.y) fun r6 => bindP (F_impl_LessI r5 r6) fun r7 => (bif (r7.val == 1) then ((⟨(c64 0), (c64 0)⟩ : Iv), (⟨(c64 0), (c64 0)⟩ : Iv), (c64 8)) else bindP (F_impl_PiI) fun r8 => bindP (F_impl_AbsI r4) fun r9 => bindP (F_impl_LessI r8 r9) fun r10 => (bif (r10.val == 1) then ((⟨(c64 0), (c64 0)⟩ : Iv), (⟨(c64 0), (c64 0)⟩ : Iv), (c64 8)) else bindP (F_impl_latitudeFor a0.kind r2) fun r11 => bindP (F_impl_knownI r11) fun r12 => (bif (r12.2.val != 0) then ((⟨(c64 0), (c64 0)⟩ : Iv), (⟨(c64 0), (c64 0)⟩ : Iv), r12.2) else bindP (F_impl_RadiansOf a0.lon0) fun r13 => bindP (F_impl_AddI r13 r4) fun r14 => (r12.1, r14, (c64 0))))))

def F_laws_FnExactPseudoInverse (a0 : Pj) (a1 : Pn) : Bool :=
  bindP (F_laws_toProjection a0) fun r1 => bindP (F_laws_toPlanar a1) fun r2 => bindP (F_spec_PseudoInverse r1 r2) fun r3 => bindP (F_laws_toProjection a0) fun r4 => bindP (F_laws_toPlanar a1) fun r5 => bindP (F_impl_PseudoInverse r4 r5) fun r6 => bindP (F_laws_eqInterval r6.1 r3.1) fun r7 => (bif (!r7) then false else bindP (F_laws_eqInterval r6.2.1 r3.2.1) fun r8 => (bif (!r8) then false else (bif (r6.2.2.val != r3.2.2.val) then false else true)))

end Go.Proofs.YtebaobmmnkebaaaGreat.Abs
