/- The functions, on numbers; part 3 (written by w.py). -/
import Derived.Test.YtebaobmmnkebaaaGreatF2
set_option linter.unusedVariables false
set_option linter.unusedSimpArgs false
namespace Go.Proofs.YtebaobmmnkebaaaGreat.Abs
open Go Go.RowKit

def F_impl_DirectionAt (a0 : I64) (a1 : I64) : Iv :=
  bindP (F_impl_isOpen a0) fun r1 => (bif (!r1) then bindP (F_impl_Whole) fun r2 => r2 else bindP (F_impl_isOpen a1) fun r3 => (bif (!r3) then bindP (F_impl_Whole) fun r4 => r4 else (bif (a0.val == 0) then (bif (a1.val == 0) then bindP (F_impl_Whole) fun r5 => r5 else bindP (F_impl_abs a0) fun r6 => bindP (F_impl_abs a1) fun r7 => (bif (decide (r6.val > r7.val)) then bindP (F_impl_TurnI (c64 1)) fun r8 => (bif (decide (a0.val < 0)) then bindP (F_impl_TurnI (c64 (-1))) fun r9 => bindP (F_impl_at a1) fun r10 => bindP (F_impl_at a0) fun r11 => bindP (F_impl_DivI r10 r11) fun r12 => bindP (F_impl_AtanI r12) fun r13 => bindP (F_impl_SubI r9 r13) fun r14 => r14 else bindP (F_impl_at a1) fun r15 => bindP (F_impl_at a0) fun r16 => bindP (F_impl_DivI r15 r16) fun r17 => bindP (F_impl_AtanI r17) fun r18 => bindP (F_impl_SubI r8 r18) fun r19 => r19) else bindP (F_impl_at a0) fun r20 => bindP (F_impl_at a1) fun r21 => bindP (F_impl_DivI r20 r21) fun r22 => bindP (F_impl_AtanI r22) fun r23 => (bif (decide (a1.val > 0)) then r23 else (bif (decide (a0.val < 0)) then bindP (F_impl_TurnI (c64 (-2))) fun r24 => bindP (F_impl_AddI r23 r24) fun r25 => r25 else bindP (F_impl_TurnI (c64 2)) fun r26 => bindP (F_impl_AddI r23 r26) fun r27 => r27)))) else bindP (F_impl_abs a0) fun r28 => bindP (F_impl_abs a1) fun r29 => (bif (decide (r28.val > r29.val)) then bindP (F_impl_TurnI (c64 1)) fun r30 => (bif (decide (a0.val < 0)) then bindP (F_impl_TurnI (c64 (-1))) fun r31 => bindP (F_impl_at a1) fun r32 => bindP (F_impl_at a0) fun r33 => bindP (F_impl_DivI r32 r33) fun r34 => bindP (F_impl_AtanI r34) fun r35 => bindP (F_impl_SubI r31 r35) fun r36 => r36 else bindP (F_impl_at a1) fun r37 => bindP (F_impl_at a0) fun r38 => bindP (F_impl_DivI r37 r38) fun r39 => bindP (F_impl_AtanI r39) fun r40 => bindP (F_impl_SubI r30 r40) fun r41 => r41) else bindP (F_impl_at a0) fun r42 => bindP (F_impl_at a1) fun r43 => bindP (F_impl_DivI r42 r43) fun r44 => bindP (F_impl_AtanI r44) fun r45 => (bif (decide (a1.val > 0)) then r45 else (bif (decide (a0.val < 0)) then bindP (F_impl_TurnI (c64 (-2))) fun r46 => bindP (F_impl_AddI r45 r46) fun r47 => r47 else bindP (F_impl_TurnI (c64 2)) fun r48 => bindP (F_impl_AddI r45 r48) fun r49 => r49))))))

def F_impl_DirectionI (a0 : Iv) (a1 : Iv) : Iv :=
  bindP (F_impl_areBounded a0 a1) fun r1 => (bif (!r1) then bindP (F_impl_Whole) fun r2 => r2 else bindP (F_impl_HasI a0 (c64 0)) fun r3 => (bif r3 then bindP (F_impl_HasI a1 (c64 0)) fun r4 => (bif r4 then bindP (F_impl_Whole) fun r5 => r5 else (bif (decide (a1.lo.val < 0)) then (bif (decide (a0.lo.val < 0)) then (bif (decide (a0.hi.val ≥ 0)) then bindP (F_impl_Whole) fun r6 => r6 else bindP (F_impl_DirectionAt a0.lo a1.lo) fun r7 => bindP (F_impl_DirectionAt a0.lo a1.hi) fun r8 => bindP (F_impl_HullI r7 r8) fun r9 => bindP (F_impl_DirectionAt a0.hi a1.lo) fun r10 => bindP (F_impl_DirectionAt a0.hi a1.hi) fun r11 => bindP (F_impl_HullI r10 r11) fun r12 => bindP (F_impl_HullI r9 r12) fun r13 => r13) else bindP (F_impl_DirectionAt a0.lo a1.lo) fun r14 => bindP (F_impl_DirectionAt a0.lo a1.hi) fun r15 => bindP (F_impl_HullI r14 r15) fun r16 => bindP (F_impl_DirectionAt a0.hi a1.lo) fun r17 => bindP (F_impl_DirectionAt a0.hi a1.hi) fun r18 => bindP (F_impl_HullI r17 r18) fun r19 => bindP (F_impl_HullI r16 r19) fun r20 => r20) else bindP (F_impl_DirectionAt a0.lo a1.lo) fun r21 => bindP (F_impl_DirectionAt a0.lo a1.hi) fun r22 => bindP (F_impl_HullI r21 r22) fun r23 => bindP (F_impl_DirectionAt a0.hi a1.lo) fun r24 => bindP (F_impl_DirectionAt a0.hi a1.hi) fun r25 => bindP (F_impl_HullI r24 r25) fun r26 => bindP (F_impl_HullI r23 r26) fun r27 => r27)) else (bif (decide (a1.lo.val < 0)) then (bif (decide (a0.lo.val < 0)) then (bif (decide (a0.hi.val ≥ 0)) then bindP (F_impl_Whole) fun r28 => r28 else bindP (F_impl_DirectionAt a0.lo a1.lo) fun r29 => bindP (F_impl_DirectionAt a0.lo a1.hi) fun r30 => bindP (F_impl_HullI r29 r30) fun r31 => bindP (F_impl_DirectionAt a0.hi a1.lo) fun r32 => bindP (F_impl_DirectionAt a0.hi a1.hi) fun r33 => bindP (F_impl_HullI r32 r33) fun r34 => bindP (F_impl_HullI r31 r34) fun r35 => r35) else bindP (F_impl_DirectionAt a0.lo a1.lo) fun r36 => bindP (F_impl_DirectionAt a0.lo a1.hi) fun r37 => bindP (F_impl_HullI r36 r37) fun r38 => bindP (F_impl_DirectionAt a0.hi a1.lo) fun r39 => bindP (F_impl_DirectionAt a0.hi a1.hi) fun r40 => bindP (F_impl_HullI r39 r40) fun r41 => bindP (F_impl_HullI r38 r41) fun r42 => r42) else bindP (F_impl_DirectionAt a0.lo a1.lo) fun r43 => bindP (F_impl_DirectionAt a0.lo a1.hi) fun r44 => bindP (F_impl_HullI r43 r44) fun r45 => bindP (F_impl_DirectionAt a0.hi a1.lo) fun r46 => bindP (F_impl_DirectionAt a0.hi a1.hi) fun r47 => bindP (F_impl_HullI r46 r47) fun r48 => bindP (F_impl_HullI r45 r48) fun r49 => r49)))

def F_impl_knownI (a0 : Iv) : Iv × I64 :=
  bindP (F_impl_IsWhole a0) fun r1 => (bif r1 then ((⟨(c64 0), (c64 0)⟩ : Iv), (c64 9)) else (a0, (c64 0)))

def F_impl_TransverseTurn (a0 : Pj) (a1 : Pt) : Iv × I64 :=
  bindP (F_impl_transverse a0 a1) fun r1 => (bif (r1.2.2.2.val != 0) then ((⟨(c64 0), (c64 0)⟩ : Iv), r1.2.2.2) else bindP (F_impl_SinI r1.1) fun r2 => bindP (F_impl_SinI r1.2.1) fun r3 => bindP (F_impl_MulI r2 r3) fun r4 => bindP (F_impl_CosI r1.2.1) fun r5 => bindP (F_impl_DirectionI r4 r5) fun r6 => bindP (F_impl_knownI r6) fun r7 => (r7.1, r7.2))

def F_laws_eqInterval (a0 : Iv) (a1 : Iv) : Bool :=
  (bif (a0.lo.val != a1.lo.val) then false else (bif (a0.hi.val != a1.hi.val) then false else true))

def F_laws_FnExactTransverseTurn (a0 : Pj) (a1 : Pt) : Bool :=
  bindP (F_laws_toProjection a0) fun r1 => bindP (F_laws_toPoint a1) fun r2 => bindP (F_spec_TransverseTurn r1 r2) fun r3 => bindP (F_laws_toProjection a0) fun r4 => bindP (F_laws_toPoint a1) fun r5 => bindP (F_impl_TransverseTurn r4 r5) fun r6 => bindP (F_laws_eqInterval r6.1 r3.1) fun r7 => (bif (!r7) then false else (bif (r6.2.val != r3.2.val) then false else true))

def F_laws_toInterval (a0 : Iv) : Iv :=
  a0

def F_laws_toPlanar (a0 : Pn) : Pn :=
  bindP (F_laws_toInterval a0.x) fun r1 => bindP (F_laws_toInterval a0.y) fun r2 => (⟨r1, r2⟩ : Pn)

def F_spec_l20Kind (a0 : I64) : Bool :=
  bindP (F_spec_l00In a0 (c64 13) (c64 15)) fun r1 => r1

def F_spec_l20Ok__pPj (b0 : Pj) : Bool :=
  bindP (F_spec_l20Kind b0.kind) fun r1 => (bif r1 then bindP (F_spec_ValidProjection b0) fun r2 => r2 else false)

def F_spec_PiI : Iv :=
  bindP (F_spec_l05Turn (c64 2)) fun r1 => r1

def F_spec_l20Root (a0 : I64) : Iv :=
  (bif (a0.val == 14) then bindP (F_spec_Integer (c64 2)) fun r1 => bindP (F_spec_SqrtI r1) fun r2 => r2 else bindP (F_spec_Integer (c64 2)) fun r3 => bindP (F_spec_PiI) fun r4 => bindP (F_spec_AddI r3 r4) fun r5 => bindP (F_spec_SqrtI r5) fun r6 => r6)

def F_spec_l20High (a0 : I64) : Iv :=
  (bif (a0.val == 13) then bindP (F_spec_TurnI (c64 1)) fun r1 => r1 else (bif (a0.val == 14) then bindP (F_spec_l20Root a0) fun r2 => r2 else bindP (F_spec_PiI) fun r3 => bindP (F_spec_l20Root a0) fun r4 => bindP (F_spec_DivI r3 r4) fun r5 => r5))

def F_spec_AbsI (a0 : Iv) : Iv :=
  bindP (F_spec_l04Ok a0) fun r1 => (bif (!r1) then bindP (F_spec_l04Whole) fun r2 => r2 else bindP (F_spec_l04Ends a0) fun r3 => bindP (F_spec_l04Make r3.1 r3.2) fun r4 => r4)

def F_spec_LessI (a0 : Iv) (a1 : Iv) : I64 :=
  bindP (F_spec_l04Ok a0) fun r1 => (bif (!r1) then (c64 2) else bindP (F_spec_l04Ok a1) fun r2 => (bif (!r2) then (c64 2) else (bif (decide (a0.hi.val < a1.lo.val)) then (c64 1) else (bif (decide (a0.lo.val ≥ a1.hi.val)) then (c64 0) else (c64 2)))))

def F_spec_WideMul (a0 : I64) (a1 : I64) : Wd :=
  bindP (F_spec_l02Mul a0 a1) fun r1 => r1

def F_spec_CircleAt (a0 : I64) : Iv :=
  bindP (F_spec_l00In a0 (c64 (-4294967296)) (c64 4294967296)) fun r1 => (bif (!r1) then bindP (F_spec_Whole) fun r2 => r2 else bindP (F_spec_SqrtFloor (w64 (4294967296 - a0.val)) (w64 (4294967296 + a0.val))) fun r3 => bindP (F_spec_WideMul r3.1 r3.1) fun r4 => bindP (F_spec_WideMul (w64 (4294967296 - a0.val)) (w64 (4294967296 + a0.val))) fun r5 => (bif (!((r4.hi.val == r5.hi.val) && (r4.lo.val == r5.lo.val))) then (⟨r3.1, (w64 (r3.1.val + 1))⟩ : Iv) else (⟨r3.1, r3.1⟩ : Iv)))

def F_spec_AsinAt (a0 : I64) : Iv :=
  bindP (F_spec_l00In a0 (c64 (-4294967296)) (c64 4294967296)) fun r1 => (bif (!r1) then bindP (F_spec_Whole) fun r2 => r2 else bindP (F_spec_l05At a0) fun r3 => bindP (F_spec_Integer (c64 1)) fun r4 => bindP (F_spec_CircleAt a0) fun r5 => bindP (F_spec_AddI r4 r5) fun r6 => bindP (F_spec_DivI r3 r6) fun r7 => bindP (F_spec_AtanI r7) fun r8 => bindP (F_spec_DoubleI r8) fun r9 => bindP (F_spec_l07Quarter) fun r10 => bindP (F_spec_MeetI r9 r10) fun r11 => r11.1)

def F_spec_AsinI (a0 : Iv) : Iv :=
  bindP (F_spec_l06Ring) fun r1 => bindP (F_spec_MeetI a0 r1) fun r2 => (bif (!r2.2) then bindP (F_spec_Whole) fun r3 => r3 else bindP (F_spec_AsinAt r2.1.lo) fun r4 => bindP (F_spec_AsinAt r2.1.hi) fun r5 => bindP (F_spec_HullI r4 r5) fun r6 => r6)

def F_spec_HalfI (a0 : Iv) : Iv :=
  bindP (F_spec_l04Ok a0) fun r1 => (bif (!r1) then bindP (F_spec_l04Whole) fun r2 => r2 else bindP (F_spec_l04Make (ishr a0.lo 1) (ishr (w64 (a0.hi.val + 1)) 1)) fun r3 => r3)

def F_spec_l20Back (a0 : I64) (a1 : Iv) : Iv :=
  (bif (a0.val == 13) then a1 else (bif (a0.val == 14) then bindP (F_spec_l20Root a0) fun r1 => bindP (F_spec_DivI a1 r1) fun r2 => bindP (F_spec_AsinI r2) fun r3 => r3 else bindP (F_spec_l20Root a0) fun r4 => bindP (F_spec_MulI a1 r4) fun r5 => bindP (F_spec_HalfI r5) fun r6 => r6))

def F_spec_l20Parallel (a0 : I64) (a1 : Iv) : Iv × Iv :=
  (bif (a0.val == 13) then bindP (F_spec_CosI a1) fun r1 => (r1, a1) else (bif (a0.val == 14) then bindP (F_spec_Integer (c64 2)) fun r2 => bindP (F_spec_l20Root a0) fun r3 => bindP (F_spec_MulI r2 r3) fun r4 => bindP (F_spec_CosI a1) fun r5 => bindP (F_spec_MulI r4 r5) fun r6 => bindP (F_spec_PiI) fun r7 => bindP (F_spec_DivI r6 r7) fun r8 => bindP (F_spec_l20Root a0) fun r9 => bindP (F_spec_SinI a1) fun r10 => bindP (F_spec_MulI r9 r10) fun r11 => (r8, r11) else bindP (F_spec_Integer (c64 1)) fun r12 => bindP (F_spec_CosI a1) fun r13 => bindP (F_spec_AddI r12 r13) fun r14 => bindP (F_spec_l20Root a0) fun r15 => bindP (F_spec_DivI r14 r15) fun r16 => bindP (F_spec_Integer (c64 2)) fun r17 => bindP (F_spec_MulI r17 a1) fun r18 => bindP (F_spec_l20Root a0) fun r19 => bindP (F_spec_DivI r18 r19) fun r20 => (r16, r20)))

def F_spec_OnMap (a0 : Pj) (a1 : Pn) : I64 × I64 :=
  bindP (F_spec_l20Ok__pPj a0) fun r1 => (bif (!r1) then ((c64 0), (c64 1)) else bindP (F_spec_l20High a0.kind) fun r2 => bindP (F_spec_AbsI a1.y) fun r3 => bindP (F_spec_LessI r2 r3) fun r4 => (bif (r4.val == 1) then ((c64 0), (c64 0)) else bindP (F_spec_l20Back a0.kind a1.y) fun r5 => bindP (F_spec_l20Parallel a0.kind r5) fun r6 => bindP (F_spec_PiI) fun r7 => bindP (F_spec_MulI r7 r6.1) fun r8 => bindP (F_spec_AbsI a1.x) fun r9 => bindP (F_spec_LessI r8 r9) fun r10 => (bif (r10.val == 1) then ((c64 0), (c64 0)) else (bif (r10.val == 0) then (bif (r4.val == 0) then ((c64 1), (c64 0)) else ((c64 2), (c64 0))) else ((c64 2), (c64 0))))))

def F_impl_isPseudo (a0 : I64) : Bool :=
  bindP (F_impl_within a0 (c64 13) (c64 15)) fun r1 => r1

def F_impl_isPseudoOne (a0 : Pj) : Bool :=
  bindP (F_impl_ValidProjection a0) fun r1 => (bif r1 then bindP (F_impl_isPseudo a0.kind) fun r2 => r2 else false)

def F_impl_normalI (a0 : Iv) : Iv :=
  bindP (F_impl_bounded a0.lo a0.hi true) fun r1 => r1

def F_impl_PiI : Iv :=
  bindP (F_impl_TurnI (c64 2)) fun r1 => r1

def F_impl_pseudoRadius (a0 : I64) : Iv :=
  (bif (a0.val == 14) then bindP (F_impl_Integer (c64 2)) fun r1 => bindP (F_impl_SqrtI r1) fun r2 => r2 else bindP (F_impl_Integer (c64 2)) fun r3 => bindP (F_impl_PiI) fun r4 => bindP (F_impl_AddI r3 r4) fun r5 => bindP (F_impl_SqrtI r5) fun r6 => r6)

def F_impl_CircleAt (a0 : I64) : Iv :=
  bindP (F_impl_within a0 (c64 (-4294967296)) (c64 4294967296)) fun r1 => (bif (!r1) then bindP (F_impl_Whole) fun r2 => r2 else bindP (F_impl_SqrtFloor (w64 (4294967296 - a0.val)) (w64 (4294967296 + a0.val))) fun r3 => bindP (F_impl_WideMul r3.1 r3.1) fun r4 => bindP (F_impl_WideMul (w64 (4294967296 - a0.val)) (w64 (4294967296 + a0.val))) fun r5 => (bif ((r4.hi.val == r5.hi.val) && (r4.lo.val == r5.lo.val)) then bindP (F_impl_at r3.1) fun r6 => r6 else (⟨r3.1, (w64 (r3.1.val + 1))⟩ : Iv)))

def F_impl_AsinAt (a0 : I64) : Iv :=
  bindP (F_impl_within a0 (c64 (-4294967296)) (c64 4294967296)) fun r1 => (bif (!r1) then bindP (F_impl_Whole) fun r2 => r2 else bindP (F_impl_at a0) fun r3 => bindP (F_impl_Integer (c64 1)) fun r4 => bindP (F_impl_CircleAt a0) fun r5 => bindP (F_impl_AddI r4 r5) fun r6 => bindP (F_impl_DivI r3 r6) fun r7 => bindP (F_impl_AtanI r7) fun r8 => bindP (F_impl_DoubleI r8) fun r9 => bindP (F_impl_halfCircle) fun r10 => bindP (F_impl_MeetI r9 r10) fun r11 => r11.1)

def F_impl_AsinI (a0 : Iv) : Iv :=
  bindP (F_impl_ring) fun r1 => bindP (F_impl_MeetI a0 r1) fun r2 => (bif (!r2.2) then bindP (F_impl_Whole) fun r3 => r3 else bindP (F_impl_AsinAt r2.1.lo) fun r4 => bindP (F_impl_AsinAt r2.1.hi) fun r5 => bindP (F_impl_HullI r4 r5) fun r6 => r6)

def F_impl_HalfI (a0 : Iv) : Iv :=
  bindP (F_impl_IsWhole a0) fun r1 => (bif r1 then bindP (F_impl_Whole) fun r2 => r2 else (⟨(ishr a0.lo 1), (ishr (w64 (a0.hi.val + 1)) 1)⟩ : Iv))

def F_impl_inverseParameter (a0 : I64) (a1 : Iv) : Iv :=
  (bif (a0.val == 13) then bindP (F_impl_normalI a1) fun r1 => r1 else (bif (a0.val == 14) then bindP (F_impl_pseudoRadius a0) fun r2 => bindP (F_impl_DivI a1 r2) fun r3 => bindP (F_impl_AsinI r3) fun r4 => r4 else bindP (F_impl_pseudoRadius a0) fun r5 => bindP (F_impl_MulI a1 r5) fun r6 => bindP (F_impl_HalfI r6) fun r7 => r7))

def F_impl_times (a0 : I64) (a1 : Iv) : Iv :=
  bindP (F_impl_Integer a0) fun r1 => bindP (F_impl_MulI r1 a1) fun r2 => r2

def F_impl_parallelLength (a0 : I64) (a1 : Iv) : Iv :=
  bindP (F_impl_pseudoRadius a0) fun r1 => (bif (a0.val == 13) then bindP (F_impl_CosI a1) fun r2 => r2 else (bif (a0.val == 14) then bindP (F_impl_times (c64 2) r1) fun r3 => bindP (F_impl_CosI a1) fun r4 => bindP (F_impl_MulI r3 r4) fun r5 => bindP (F_impl_PiI) fun r6 => bindP (F_impl_DivI r5 r6) fun r7 => r7 else bindP (F_impl_Integer (c64 1)) fun r8 => bindP (F_impl_CosI a1) fun r9 => bindP (F_impl_AddI r8 r9) fun r10 => bindP (F_impl_DivI r10 r1) fun r11 => r11))

def F_impl_poleHeight (a0 : I64) : Iv :=
  (bif (a0.val == 13) then bindP (F_impl_TurnI (c64 1)) fun r1 => r1 else (bif (a0.val == 14) then bindP (F_impl_pseudoRadius a0) fun r2 => r2 else bindP (F_impl_PiI) fun r3 => bindP (F_impl_pseudoRadius a0) fun r4 => bindP (F_impl_DivI r3 r4) fun r5 => r5))

def F_impl_LessI (a0 : Iv) (a1 : Iv) : I64 :=
  bindP (F_impl_areBounded a0 a1) fun r1 => (bif (!r1) then (c64 2) else (bif (decide (a0.hi.val < a1.lo.val)) then (c64 1) else (bif (decide (a0.lo.val ≥ a1.hi.val)) then (c64 0) else (c64 2))))

def F_impl_NotAnswer (a0 : I64) : I64 :=
  (bif (a0.val == 0) then (c64 1) else (bif (a0.val == 1) then (c64 0) else (c64 2)))

def F_impl_AndAnswer (a0 : I64) (a1 : I64) : I64 :=
  (bif (a0.val == 0) then (c64 0) else (bif (a1.val == 0) then (c64 0) else (bif (a0.val == 1) then (bif (a1.val == 1) then (c64 1) else (c64 2)) else (c64 2))))

def F_impl_OrAnswer (a0 : I64) (a1 : I64) : I64 :=
  bindP (F_impl_NotAnswer a0) fun r1 => bindP (F_impl_NotAnswer a1) fun r2 => bindP (F_impl_AndAnswer r1 r2) fun r3 => bindP (F_impl_NotAnswer r3) fun r4 => r4

def F_impl_OnMap (a0 : Pj) (a1 : Pn) : I64 × I64 :=
  bindP (F_impl_isPseudoOne a0) fun r1 => (bif (!r1) then ((c64 0), (c64 1)) else bindP (F_impl_inverseParameter a0.kind a1.y) fun r2 => bindP (F_impl_parallelLength a0.kind r2) fun r3 => bindP (F_impl_poleHeight a0.kind) fun r4 => bindP (F_impl_AbsI a1.y) fun r5 => bindP (F_impl_LessI r4 r5) fun r6 => bindP (F_impl_PiI) fun r7 => bindP (F_impl_MulI r7 r3) fun r8 => bindP (F_impl_AbsI a1.x) fun r9 => bindP (F_impl_LessI r8 r9) fun r10 => bindP (F_impl_OrAnswer r6 r10) fun r11 => bindP (F_impl_NotAnswer r11) fun r12 => (r12, (c64 0)))

def F_laws_FnExactOnMap (a0 : Pj) (a1 : Pn) : Bool :=
  bindP (F_laws_toProjection a0) fun r1 => bindP (F_laws_toPlanar a1) fun r2 => bindP (F_spec_OnMap r1 r2) fun r3 => bindP (F_laws_toProjection a0) fun r4 => bindP (F_laws_toPlanar a1) fun r5 => bindP (F_impl_OnMap r4 r5) fun r6 => (bif (r6.1.val != r3.1.val) then false else (bif (r6.2.val != r3.2.val) then false else true))

def F_laws_toVec (a0 : Vc) : Vc :=
  bindP (F_laws_toInterval a0.x) fun r1 => bindP (F_laws_toInterval a0.y) fun r2 => bindP (F_laws_toInterval a0.z) fun r3 => (⟨r1, r2, r3⟩ : Vc)

def F_spec_l18Kind (a0 : I64) : Bool :=
  bindP (F_spec_l00In a0 (c64 5) (c64 9)) fun r1 => r1

def F_spec_l18Ok__pPj (b0 : Pj) : Bool :=
  bindP (F_spec_l18Kind b0.kind) fun r1 => (bif r1 then bindP (F_spec_ValidProjection b0) fun r2 => r2 else false)

def F_spec_l10Ends (a0 : Iv) : I64 × I64 :=
  bindP (F_spec_AbsI a0) fun r1 => (r1.lo, r1.hi)

def F_spec_l10Sum (a0 : I64) (a1 : I64) (a2 : I64) : Wd :=
  bindP (F_spec_l02Mul a0 a0) fun r1 => bindP (F_spec_l02Mul a1 a1) fun r2 => bindP (F_spec_l02Plus r1 r2) fun r3 => bindP (F_spec_l02Mul a2 a2) fun r4 => bindP (F_spec_l02Plus r3 r4) fun r5 => r5

def F_spec_NormV (a0 : Vc) : Iv :=
  bindP (F_spec_IsWhole a0.x) fun r1 => (bif r1 then bindP (F_spec_Whole) fun r2 => r2 else bindP (F_spec_IsWhole a0.y) fun r3 => (bif r3 then bindP (F_spec_Whole) fun r4 => r4 else bindP (F_spec_IsWhole a0.z) fun r5 => (bif r5 then bindP (F_spec_Whole) fun r6 => r6 else bindP (F_spec_l10Ends a0.x) fun r7 => bindP (F_spec_l10Ends a0.y) fun r8 => bindP (F_spec_l10Ends a0.z) fun r9 => bindP (F_spec_l10Sum r7.1 r8.1 r9.1) fun r10 => bindP (F_spec_l02Root r10) fun r11 => bindP (F_spec_l10Sum r7.2 r8.2 r9.2) fun r12 => bindP (F_spec_l02Root r12) fun r13 => bindP (F_spec_l02Mul (w64 r13.val) (w64 r13.val)) fun r14 => (bif (!((r14.hi.val == r12.hi.val) && (r14.lo.val == r12.lo.val))) then (bif (decide ((w64 ((w64 r13.val).val + 1)).val ≥ 1152921504606846976)) then bindP (F_spec_Whole) fun r15 => r15 else (⟨(w64 r11.val), (w64 ((w64 r13.val).val + 1))⟩ : Iv)) else (bif (decide ((w64 r13.val).val ≥ 1152921504606846976)) then bindP (F_spec_Whole) fun r16 => r16 else (⟨(w64 r11.val), (w64 r13.val)⟩ : Iv))))))

def F_spec_l15Flat (a0 : Vc) : Iv :=
  bindP (F_spec_NormV (⟨a0.x, a0.y, (⟨(c64 0), (c64 0)⟩ : Iv)⟩ : Vc)) fun r1 => r1

def F_spec_PositionOf (a0 : Vc) : Iv × Iv × I64 :=
  bindP (F_spec_l15Flat a0) fun r1 => bindP (F_spec_DirectionI a0.z r1) fun r2 => bindP (F_spec_IsWhole r2) fun r3 => (bif r3 then ((⟨(c64 0), (c64 0)⟩ : Iv), (⟨(c64 0), (c64 0)⟩ : Iv), (c64 9)) else bindP (F_spec_DirectionI a0.y a0.x) fun r4 => (r2, r4, (c64 0)))

def F_spec_GlobalOf (a0 : Pj) (a1 : Vc) : Iv × Iv × I64 :=
  bindP (F_spec_l18Ok__pPj a0) fun r1 => (bif (!r1) then ((⟨(c64 0), (c64 0)⟩ : Iv), (⟨(c64 0), (c64 0)⟩ : Iv), (c64 1)) else bindP (F_spec_RadiansOf a0.lat0) fun r2 => bindP (F_spec_CosI r2) fun r3 => bindP (F_spec_MulI a1.z r3) fun r4 => bindP (F_spec_SinI r2) fun r5 => bindP (F_spec_MulI a1.y r5) fun r6 => bindP (F_spec_SubI r4 r6) fun r7 => bindP (F_spec_SinI r2) fun r8 => bindP (F_spec_MulI a1.z r8) fun r9 => bindP (F_spec_CosI r2) fun r10 => bindP (F_spec_MulI a1.y r10) fun r11 => bindP (F_spec_AddI r9 r11) fun r12 => bindP (F_spec_PositionOf (⟨r7, a1.x, r12⟩ : Vc)) fun r13 => (bif (r13.2.2.val != 0) then ((⟨(c64 0), (c64 0)⟩ : Iv), (⟨(c64 0), (c64 0)⟩ : Iv), r13.2.2) else bindP (F_spec_RadiansOf a0.lon0) fun r14 => bindP (F_spec_AddI r14 r13.2.1) fun r15 => (r13.1, r15, (c64 0))))

def F_impl_isAzimuthalOne (a0 : Pj) : Bool :=
  bindP (F_impl_ValidProjection a0) fun r1 => (bif r1 then bindP (F_impl_isAzimuthal a0.kind) fun r2 => r2 else false)

def F_impl_Projection_centre (a0 : Pj) : Pt :=
  (⟨a0.lat0, a0.lon0⟩ : Pt)

def F_impl_WideAdd (a0 : Wd) (a1 : Wd) : Wd × Bool :=
  (bif (decide ((iand .i64 (ixor .i64 a0.hi.val (w64 (adc_lo (wu64 a0.hi.val) (wu64 a1.hi.val) (adc_hi a0.lo a1.lo (cu64 0))).val).val).val (ixor .i64 a1.hi.val (w64 (adc_lo (wu64 a0.hi.val) (wu64 a1.hi.val) (adc_hi a0.lo a1.lo (cu64 0))).val).val).val).val < 0)) then ((⟨(c64 0), (cu64 0)⟩ : Wd), false) else ((⟨(w64 (adc_lo (wu64 a0.hi.val) (wu64 a1.hi.val) (adc_hi a0.lo a1.lo (cu64 0))).val), (adc_lo a0.lo a1.lo (cu64 0))⟩ : Wd), true))

def F_impl_rootOfSquares (a0 : I64) (a1 : I64) (a2 : I64) : I64 × I64 :=
  bindP (F_impl_WideMul a0 a0) fun r1 => bindP (F_impl_WideMul a1 a1) fun r2 => bindP (F_impl_WideAdd r1 r2) fun r3 => bindP (F_impl_WideMul a2 a2) fun r4 => bindP (F_impl_WideAdd r3.1 r4) fun r5 => bindP (F_impl_WideSqrt r5.1) fun r6 => bindP (F_impl_WideMul (w64 r6.1.val) (w64 r6.1.val)) fun r7 => (bif (!((r7.hi.val == r5.1.hi.val) && (r7.lo.val == r5.1.lo.val))) then ((w64 r6.1.val), (w64 ((w64 r6.1.val).val + 1))) else ((w64 r6.1.val), (w64 r6.1.val)))

def F_impl_NormV (a0 : Vc) : Iv :=
  bindP (F_impl_areBounded a0.x a0.y) fun r1 => (bif (!r1) then bindP (F_impl_Whole) fun r2 => r2 else bindP (F_impl_IsWhole a0.z) fun r3 => (bif r3 then bindP (F_impl_Whole) fun r4 => r4 else bindP (F_impl_AbsI a0.x) fun r5 => bindP (F_impl_AbsI a0.y) fun r6 => bindP (F_impl_AbsI a0.z) fun r7 => bindP (F_impl_rootOfSquares r5.lo r6.lo r7.lo) fun r8 => bindP (F_impl_rootOfSquares r5.hi r6.hi r7.hi) fun r9 => bindP (F_impl_bounded r8.1 r9.2 true) fun r10 => r10))

def F_impl_fromAxis (a0 : Vc) : Iv :=
  bindP (F_impl_NormV (⟨a0.x, a0.y, (⟨(c64 0), (c64 0)⟩ : Iv)⟩ : Vc)) fun r1 => r1

def F_impl_PositionOf (a0 : Vc) : Iv × Iv × I64 :=
  bindP (F_impl_fromAxis a0) fun r1 => bindP (F_impl_DirectionI a0.z r1) fun r2 => bindP (F_impl_knownI r2) fun r3 => (bif (r3.2.val != 0) then ((⟨(c64 0), (c64 0)⟩ : Iv), (⟨(c64 0), (c64 0)⟩ : Iv), r3.2) else bindP (F_impl_DirectionI a0.y a0.x) fun r4 => (r3.1, r4, (c64 0)))

def F_impl_GlobalOf (a0 : Pj) (a1 : Vc) : Iv × Iv × I64 :=
  bindP (F_impl_isAzimuthalOne a0) fun r1 => (bif (!r1) then ((⟨(c64 0), (c64 0)⟩ : Iv), (⟨(c64 0), (c64 0)⟩ : Iv), (c64 1)) else bindP (F_impl_Projection_centre a0) fun r2 => bindP (F_impl_LatOf r2) fun r3 => bindP (F_impl_CosI r3) fun r4 => bindP (F_impl_MulI a1.z r4) fun r5 => bindP (F_impl_SinI r3) fun r6 => bindP (F_impl_MulI a1.y r6) fun r7 => bindP (F_impl_SubI r5 r7) fun r8 => bindP (F_impl_SinI r3) fun r9 => bindP (F_impl_MulI a1.z r9) fun r10 => bindP (F_impl_CosI r3) fun r11 => bindP (F_impl_MulI a1.y r11) fun r12 => bindP (F_impl_AddI r10 r12) fun r13 => bindP (F_impl_PositionOf (⟨r8, a1.x, r13⟩ : Vc)) fun r14 => (bif (r14.2.2.val != 0) then ((⟨(c64 0), (c64 0)⟩ : Iv), (⟨(c64 0), (c64 0)⟩ : Iv), r14.2.2) else bindP (F_impl_RadiansOf a0.lon0) fun r15 => bindP (F_impl_AddI r15 r14.2.1) fun r16 => (r14.1, r16, (c64 0))))

def F_laws_FnExactGlobalOf (a0 : Pj) (a1 : Vc) : Bool :=
  bindP (F_laws_toProjection a0) fun r1 => bindP (F_laws_toVec a1) fun r2 => bindP (F_spec_GlobalOf r1 r2) fun r3 => bindP (F_laws_toProjection a0) fun r4 => bindP (F_laws_toVec a1) fun r5 => bindP (F_impl_GlobalOf r4 r5) fun r6 => bindP (F_laws_eqInterval r6.1 r3.1) fun r7 => (bif (!r7) then false else bindP (F_laws_eqInterval r6.2.1 r3.2.1) fun r8 => (bif (!r8) then false else (bif (r6.2.2.val != r3.2.2.val) then false else true)))

end Go.Proofs.YtebaobmmnkebaaaGreat.Abs
