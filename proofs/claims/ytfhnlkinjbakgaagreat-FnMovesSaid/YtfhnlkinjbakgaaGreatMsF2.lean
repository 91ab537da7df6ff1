/- The functions, on numbers; part 2 (written by w.py). -/
import Derived.Test.YtfhnlkinjbakgaaGreatMsF1
set_option linter.unusedVariables false
set_option linter.unusedSimpArgs false
namespace Go.Proofs.YtfhnlkinjbakgaaGreat.Abs
open Go Go.RowKit
def I_CosAt (a0 : I64) : Iv:=
  bindP (I_circleValue a0 (c64 1)) fun r1=>r1
def I_fromAxis (a0 : Vc) : Iv:=
  bindP (I_NormV (⟨a0.x,a0.y,(⟨(c64 0),(c64 0)⟩ : Iv)⟩ : Vc)) fun r1=>r1
def I_SideAt (a0 : El) (a1 : Vc) (a2 : I64) : Iv:=
  bindP (I_ValidEllipsoid a0) fun r1=>(bif (!r1) then bindP (I_Whole) fun r2=>r2 else bindP (I_SinAt a2) fun r3=>bindP (I_CosAt a2) fun r4=>bindP (I_EccI a0) fun r5=>bindP (I_at a2) fun r6=>bindP (I_RadiusN a0 r6) fun r7=>bindP (I_MulI r5 r7) fun r8=>bindP (I_MulI r8 r3) fun r9=>bindP (I_MulI r9 r4) fun r10=>bindP (I_fromAxis a1) fun r11=>bindP (I_MulI r11 r3) fun r12=>bindP (I_MulI a1.z r4) fun r13=>bindP (I_SubI r12 r13) fun r14=>bindP (I_SubI r14 r10) fun r15=>r15)
def I_latitudeOf_L1 : Nat → El → Vc → I64 → I64 → I64 → Iv
  | 0,_,_,_,_,_=>(⟨(c64 0),(c64 0)⟩ : Iv)
  | fu + 1,a0,a1,x_low,x_lowq,x_high=>(bif (decide ((w64 (x_high.val - x_lowq.val)).val > 1)) then bindP (I_SideAt a0 a1 (ishr (w64 (x_lowq.val + x_high.val)) 1)) fun r8=>(bif (decide (r8.lo.val > 0)) then I_latitudeOf_L1 fu a0 a1 x_low x_lowq (ishr (w64 (x_lowq.val + x_high.val)) 1) else I_latitudeOf_L1 fu a0 a1 x_low (ishr (w64 (x_lowq.val + x_high.val)) 1) x_high) else (⟨x_low,x_high⟩ : Iv))
def I_latitudeOf_L0 : Nat → El → Vc → I64 → I64 → Iv
  | 0,_,_,_,_=>(⟨(c64 0),(c64 0)⟩ : Iv)
  | fu + 1,a0,a1,x_low,x_high=>(bif (decide ((w64 (x_high.val - x_low.val)).val > 1)) then bindP (I_SideAt a0 a1 (ishr (w64 (x_low.val + x_high.val)) 1)) fun r4=>(bif (decide (r4.hi.val < 0)) then I_latitudeOf_L0 fu a0 a1 (ishr (w64 (x_low.val + x_high.val)) 1) x_high else I_latitudeOf_L0 fu a0 a1 x_low (ishr (w64 (x_low.val + x_high.val)) 1)) else bindP (I_quarter) fun r6=>I_latitudeOf_L1 ((r6.val - x_low.val).toNat + 1) a0 a1 x_low x_low r6)
def I_latitudeOf (a0 : El) (a1 : Vc) : Iv:=
  bindP (I_quarter) fun r1=>bindP (I_quarter) fun r2=>I_latitudeOf_L0 ((r2.val - (w64 (0 - r1.val)).val).toNat + 1) a0 a1 (w64 (0 - r1.val)) r2
def I_isOpen (a0 : I64) : Bool:=
  (bif (decide ((-1152921504606846976) < a0.val)) then (decide (a0.val < 1152921504606846976)) else false)
def I_halfCircle : Iv:=
  bindP (I_TurnI (c64 1)) fun r1=>bindP (I_TurnI (c64 1)) fun r2=>(⟨(w64 (0 - r1.hi.val)),r2.hi⟩ : Iv)
def I_halved (a0 : Iv) : Iv:=
  bindP (I_Integer (c64 1)) fun r1=>bindP (I_Integer (c64 1)) fun r2=>bindP (I_SqrI a0) fun r3=>bindP (I_AddI r2 r3) fun r4=>bindP (I_SqrtI r4) fun r5=>bindP (I_AddI r1 r5) fun r6=>bindP (I_DivI a0 r6) fun r7=>r7
def I_ArcSeries (a0 : Iv) : Iv:=
  bindP (I_InsideI a0 (⟨(c64 (-1073741824)),(c64 1073741824)⟩ : Iv)) fun r1=>(bif (!r1) then bindP (I_Whole) fun r2=>r2 else bindP (I_SqrI a0) fun r3=>bindP (I_Quotient (c64 1) (c64 21)) fun r4=>bindP (I_Quotient (c64 1) (c64 19)) fun r5=>bindP (I_MulI r3 r4) fun r6=>bindP (I_SubI r5 r6) fun r7=>bindP (I_Quotient (c64 1) (c64 17)) fun r8=>bindP (I_MulI r3 r7) fun r9=>bindP (I_SubI r8 r9) fun r10=>bindP (I_Quotient (c64 1) (c64 15)) fun r11=>bindP (I_MulI r3 r10) fun r12=>bindP (I_SubI r11 r12) fun r13=>bindP (I_Quotient (c64 1) (c64 13)) fun r14=>bindP (I_MulI r3 r13) fun r15=>bindP (I_SubI r14 r15) fun r16=>bindP (I_Quotient (c64 1) (c64 11)) fun r17=>bindP (I_MulI r3 r16) fun r18=>bindP (I_SubI r17 r18) fun r19=>bindP (I_Quotient (c64 1) (c64 9)) fun r20=>bindP (I_MulI r3 r19) fun r21=>bindP (I_SubI r20 r21) fun r22=>bindP (I_Quotient (c64 1) (c64 7)) fun r23=>bindP (I_MulI r3 r22) fun r24=>bindP (I_SubI r23 r24) fun r25=>bindP (I_Quotient (c64 1) (c64 5)) fun r26=>bindP (I_MulI r3 r25) fun r27=>bindP (I_SubI r26 r27) fun r28=>bindP (I_Quotient (c64 1) (c64 3)) fun r29=>bindP (I_MulI r3 r28) fun r30=>bindP (I_SubI r29 r30) fun r31=>bindP (I_Quotient (c64 1) (c64 1)) fun r32=>bindP (I_MulI r3 r31) fun r33=>bindP (I_SubI r32 r33) fun r34=>bindP (I_MulI a0 r34) fun r35=>bindP (I_tiny) fun r36=>bindP (I_AddI r35 r36) fun r37=>r37)
def I_DoubleI (a0 : Iv) : Iv:=
  bindP (I_AddI a0 a0) fun r1=>r1
def I_fourfold (a0 : Iv) : Iv:=
  bindP (I_halved a0) fun r1=>bindP (I_halved r1) fun r2=>bindP (I_ArcSeries r2) fun r3=>bindP (I_DoubleI r3) fun r4=>bindP (I_DoubleI r4) fun r5=>r5
def I_AtanAt_b (self : I64 → Iv) (a0 : I64) : Iv:=
  bindP (I_isOpen a0) fun r1=>(bif (!r1) then bindP (I_halfCircle) fun r3=>r3 else (bif (decide (a0.val < 0)) then bindP (self (w64 (0 - a0.val))) fun r5=>bindP (I_NegI r5) fun r6=>r6 else (bif (decide (a0.val > 4294967296)) then bindP (I_TurnI (c64 1)) fun r8=>bindP (I_Integer (c64 1)) fun r9=>bindP (I_at a0) fun r10=>bindP (I_DivI r9 r10) fun r11=>bindP (I_fourfold r11) fun r12=>bindP (I_SubI r8 r12) fun r13=>r13 else bindP (I_at a0) fun r14=>bindP (I_fourfold r14) fun r15=>r15)))
def I_AtanAt_r : Nat → I64 → Iv
  | 0,_=>(⟨(c64 0),(c64 0)⟩ : Iv)
  | fu + 1,a0=>I_AtanAt_b (I_AtanAt_r fu) a0
def I_AtanAt (a0 : I64) : Iv:=I_AtanAt_r 2 a0
def I_AtanI (a0 : Iv) : Iv:=
  bindP (I_IsWhole a0) fun r1=>(bif r1 then bindP (I_halfCircle) fun r2=>r2 else bindP (I_AtanAt a0.lo) fun r3=>bindP (I_AtanAt a0.hi) fun r4=>bindP (I_HullI r3 r4) fun r5=>r5)
def I_DirectionAt (a0 : I64) (a1 : I64) : Iv:=
  bindP (I_isOpen a0) fun r1=>(bif (!r1) then bindP (I_Whole) fun r2=>r2 else bindP (I_isOpen a1) fun r3=>(bif (!r3) then bindP (I_Whole) fun r4=>r4 else (bif (a0.val == 0) then (bif (a1.val == 0) then bindP (I_Whole) fun r5=>r5 else bindP (I_abs a0) fun r6=>bindP (I_abs a1) fun r7=>(bif (decide (r6.val > r7.val)) then bindP (I_TurnI (c64 1)) fun r8=>(bif (decide (a0.val < 0)) then bindP (I_TurnI (c64 (-1))) fun r9=>bindP (I_at a1) fun r10=>bindP (I_at a0) fun r11=>bindP (I_DivI r10 r11) fun r12=>bindP (I_AtanI r12) fun r13=>bindP (I_SubI r9 r13) fun r14=>r14 else bindP (I_at a1) fun r15=>bindP (I_at a0) fun r16=>bindP (I_DivI r15 r16) fun r17=>bindP (I_AtanI r17) fun r18=>bindP (I_SubI r8 r18) fun r19=>r19) else bindP (I_at a0) fun r20=>bindP (I_at a1) fun r21=>bindP (I_DivI r20 r21) fun r22=>bindP (I_AtanI r22) fun r23=>(bif (decide (a1.val > 0)) then r23 else (bif (decide (a0.val < 0)) then bindP (I_TurnI (c64 (-2))) fun r24=>bindP (I_AddI r23 r24) fun r25=>r25 else bindP (I_TurnI (c64 2)) fun r26=>bindP (I_AddI r23 r26) fun r27=>r27)))) else bindP (I_abs a0) fun r28=>bindP (I_abs a1) fun r29=>(bif (decide (r28.val > r29.val)) then bindP (I_TurnI (c64 1)) fun r30=>(bif (decide (a0.val < 0)) then bindP (I_TurnI (c64 (-1))) fun r31=>bindP (I_at a1) fun r32=>bindP (I_at a0) fun r33=>bindP (I_DivI r32 r33) fun r34=>bindP (I_AtanI r34) fun r35=>bindP (I_SubI r31 r35) fun r36=>r36 else bindP (I_at a1) fun r37=>bindP (I_at a0) fun r38=>bindP (I_DivI r37 r38) fun r39=>bindP (I_AtanI r39) fun r40=>bindP (I_SubI r30 r40) fun r41=>r41) else bindP (I_at a0) fun r42=>bindP (I_at a1) fun r43=>bindP (I_DivI r42 r43) fun r44=>bindP (I_AtanI r44) fun r45=>(bif (decide (a1.val > 0)) then r45 else (bif (decide (a0.val < 0)) then bindP (I_TurnI (c64 (-2))) fun r46=>bindP (I_AddI r45 r46) fun r47=>r47 else bindP (I_TurnI (c64 2)) fun r48=>bindP (I_AddI r45 r48) fun r49=>r49))))))
def I_DirectionI (a0 : Iv) (a1 : Iv) : Iv:=
  bindP (I_areBounded a0 a1) fun r1=>(bif (!r1) then bindP (I_Whole) fun r2=>r2 else bindP (I_HasI a0 (c64 0)) fun r3=>(bif r3 then bindP (I_HasI a1 (c64 0)) fun r4=>(bif r4 then bindP (I_Whole) fun r5=>r5 else (bif (decide (a1.lo.val < 0)) then (bif (decide (a0.lo.val < 0)) then (bif (decide (a0.hi.val ≥ 0)) then bindP (I_Whole) fun r6=>r6 else bindP (I_DirectionAt a0.lo a1.lo) fun r7=>bindP (I_DirectionAt a0.lo a1.hi) fun r8=>bindP (I_HullI r7 r8) fun r9=>bindP (I_DirectionAt a0.hi a1.lo) fun r10=>bindP (I_DirectionAt a0.hi a1.hi) fun r11=>bindP (I_HullI r10 r11) fun r12=>bindP (I_HullI r9 r12) fun r13=>r13) else bindP (I_DirectionAt a0.lo a1.lo) fun r14=>bindP (I_DirectionAt a0.lo a1.hi) fun r15=>bindP (I_HullI r14 r15) fun r16=>bindP (I_DirectionAt a0.hi a1.lo) fun r17=>bindP (I_DirectionAt a0.hi a1.hi) fun r18=>bindP (I_HullI r17 r18) fun r19=>bindP (I_HullI r16 r19) fun r20=>r20) else bindP (I_DirectionAt a0.lo a1.lo) fun r21=>bindP (I_DirectionAt a0.lo a1.hi) fun r22=>bindP (I_HullI r21 r22) fun r23=>bindP (I_DirectionAt a0.hi a1.lo) fun r24=>bindP (I_DirectionAt a0.hi a1.hi) fun r25=>bindP (I_HullI r24 r25) fun r26=>bindP (I_HullI r23 r26) fun r27=>r27)) else (bif (decide (a1.lo.val < 0)) then (bif (decide (a0.lo.val < 0)) then (bif (decide (a0.hi.val ≥ 0)) then bindP (I_Whole) fun r28=>r28 else bindP (I_DirectionAt a0.lo a1.lo) fun r29=>bindP (I_DirectionAt a0.lo a1.hi) fun r30=>bindP (I_HullI r29 r30) fun r31=>bindP (I_DirectionAt a0.hi a1.lo) fun r32=>bindP (I_DirectionAt a0.hi a1.hi) fun r33=>bindP (I_HullI r32 r33) fun r34=>bindP (I_HullI r31 r34) fun r35=>r35) else bindP (I_DirectionAt a0.lo a1.lo) fun r36=>bindP (I_DirectionAt a0.lo a1.hi) fun r37=>bindP (I_HullI r36 r37) fun r38=>bindP (I_DirectionAt a0.hi a1.lo) fun r39=>bindP (I_DirectionAt a0.hi a1.hi) fun r40=>bindP (I_HullI r39 r40) fun r41=>bindP (I_HullI r38 r41) fun r42=>r42) else bindP (I_DirectionAt a0.lo a1.lo) fun r43=>bindP (I_DirectionAt a0.lo a1.hi) fun r44=>bindP (I_HullI r43 r44) fun r45=>bindP (I_DirectionAt a0.hi a1.lo) fun r46=>bindP (I_DirectionAt a0.hi a1.hi) fun r47=>bindP (I_HullI r46 r47) fun r48=>bindP (I_HullI r45 r48) fun r49=>r49)))
def I_FromCartesian (a0 : El) (a1 : Vc) : Iv × Iv × Iv × I64:=
  bindP (I_centreCode a0 a1) fun r1=>(bif (r1.val != 0) then ((⟨(c64 0),(c64 0)⟩ : Iv),(⟨(c64 0),(c64 0)⟩ : Iv),(⟨(c64 0),(c64 0)⟩ : Iv),r1) else bindP (I_latitudeOf a0 a1) fun r2=>bindP (I_SinI r2) fun r3=>bindP (I_fromAxis a1) fun r4=>bindP (I_CosI r2) fun r5=>bindP (I_MulI r4 r5) fun r6=>bindP (I_MulI a1.z r3) fun r7=>bindP (I_AddI r6 r7) fun r8=>bindP (I_MajorI a0) fun r9=>bindP (I_weightOf a0 r3) fun r10=>bindP (I_SqrtI r10) fun r11=>bindP (I_MulI r9 r11) fun r12=>bindP (I_SubI r8 r12) fun r13=>bindP (I_IsWhole r13) fun r14=>(bif r14 then ((⟨(c64 0),(c64 0)⟩ : Iv),(⟨(c64 0),(c64 0)⟩ : Iv),(⟨(c64 0),(c64 0)⟩ : Iv),(c64 9)) else bindP (I_DirectionI a1.y a1.x) fun r15=>(r2,r15,r13,(c64 0))))
def I_MovePlace (a0 : El) (a1 : Sf) (a2 : El) (a3 : Pl) : Iv × Iv × Iv × I64:=
  bindP (I_ValidEllipsoid a0) fun r1=>(bif (!r1) then ((⟨(c64 0),(c64 0)⟩ : Iv),(⟨(c64 0),(c64 0)⟩ : Iv),(⟨(c64 0),(c64 0)⟩ : Iv),(c64 1)) else bindP (I_ValidEllipsoid a2) fun r2=>(bif (!r2) then ((⟨(c64 0),(c64 0)⟩ : Iv),(⟨(c64 0),(c64 0)⟩ : Iv),(⟨(c64 0),(c64 0)⟩ : Iv),(c64 1)) else bindP (I_ValidShift a1) fun r3=>(bif (!r3) then ((⟨(c64 0),(c64 0)⟩ : Iv),(⟨(c64 0),(c64 0)⟩ : Iv),(⟨(c64 0),(c64 0)⟩ : Iv),(c64 1)) else bindP (I_ValidPlace a3) fun r4=>(bif (!r4) then ((⟨(c64 0),(c64 0)⟩ : Iv),(⟨(c64 0),(c64 0)⟩ : Iv),(⟨(c64 0),(c64 0)⟩ : Iv),(c64 1)) else bindP (I_affineOf a1) fun r5=>bindP (I_toCartesian a0 a3) fun r6=>bindP (I_ApplyAffine r5 r6) fun r7=>bindP (I_FromCartesian a2 r7) fun r8=>(r8.1,r8.2.1,r8.2.2.1,r8.2.2.2)))))
def S_l00In (a0 : I64) (a1 : I64) (a2 : I64) : Bool:=
  (bif (decide (a0.val ≥ a1.val)) then (decide (a0.val ≤ a2.val)) else false)
def S_l12Ok (a0 : El) : Bool:=
  bindP (S_l00In a0.a (c64 1000) (c64 100000000000)) fun r1=>(bif r1 then bindP (S_l00In a0.den (c64 1) (c64 1000000000000)) fun r2=>(bif r2 then (bif (decide (a0.num.val ≥ 0)) then (decide (a0.num.val ≤ (w64 (Int.tdiv a0.den.val 100)).val)) else false) else false) else false)
def S_ValidEllipsoid (a0 : El) : Bool:=
  bindP (S_l12Ok a0) fun r1=>r1
def S_l23Ok__pSf (b0 : Sf) : Bool:=
  bindP (S_l00In b0.tx (c64 (-10000000)) (c64 10000000)) fun r1=>(bif (!r1) then false else bindP (S_l00In b0.rx (c64 (-100000000)) (c64 100000000)) fun r2=>(bif (!r2) then false else bindP (S_l00In b0.ty (c64 (-10000000)) (c64 10000000)) fun r3=>(bif (!r3) then false else bindP (S_l00In b0.ry (c64 (-100000000)) (c64 100000000)) fun r4=>(bif (!r4) then false else bindP (S_l00In b0.tz (c64 (-10000000)) (c64 10000000)) fun r5=>(bif (!r5) then false else bindP (S_l00In b0.rz (c64 (-100000000)) (c64 100000000)) fun r6=>(bif (!r6) then false else bindP (S_l00In b0.sc (c64 (-1000000)) (c64 1000000)) fun r7=>r7))))))
def S_l11Ok (a0 : Pt) : Bool:=
  bindP (S_l00In a0.lat (c64 (-900000000)) (c64 900000000)) fun r1=>(bif r1 then bindP (S_l00In a0.lon (c64 (-1799999999)) (c64 1800000000)) fun r2=>r2 else false)
def S_l14Ok__pPl (b0 : Pl) : Bool:=
  bindP (S_l11Ok b0.point) fun r1=>(bif r1 then bindP (S_l00In b0.height (c64 (-20000000)) (c64 20000000000)) fun r2=>r2 else false)
def S_l04Whole : Iv:=
  (⟨(c64 (-1152921504606846976)),(c64 1152921504606846976)⟩ : Iv)
def S_l04Ok (a0 : Iv) : Bool:=
  (bif (decide ((-1152921504606846976) < a0.lo.val)) then (bif (decide (a0.lo.val ≤ a0.hi.val)) then (decide (a0.hi.val < 1152921504606846976)) else false) else false)
def S_l04Make (a0 : I64) (a1 : I64) : Iv:=
  bindP (S_l04Ok (⟨a0,a1⟩ : Iv)) fun r1=>(bif (!r1) then bindP (S_l04Whole) fun r2=>r2 else (⟨a0,a1⟩ : Iv))
def S_Integer (a0 : I64) : Iv:=
  bindP (S_l00In a0 (c64 (-268435455)) (c64 268435455)) fun r1=>(bif (!r1) then bindP (S_l04Whole) fun r2=>r2 else bindP (S_l04Make (w64 (a0.val * 4294967296)) (w64 (a0.val * 4294967296))) fun r3=>r3)
def S_l02Size (a0 : I64) : U64:=
  (bif (decide (a0.val < 0)) then (wu64 (0 - (wu64 a0.val).val)) else (wu64 a0.val))
def S_l02Times (a0 : U64) (a1 : U64) : U64 × U64:=
  ((wu64 ((wu64 ((wu64 ((ishr a0 32).val * (ishr a1 32).val)).val + (ishr (wu64 ((wu64 ((ishr a0 32).val * (iand .u64 a1.val 4294967295).val)).val + (ishr (wu64 ((iand .u64 a0.val 4294967295).val * (iand .u64 a1.val 4294967295).val)) 32).val)) 32).val)).val + (ishr (wu64 ((wu64 ((iand .u64 a0.val 4294967295).val * (ishr a1 32).val)).val + (iand .u64 (wu64 ((wu64 ((ishr a0 32).val * (iand .u64 a1.val 4294967295).val)).val + (ishr (wu64 ((iand .u64 a0.val 4294967295).val * (iand .u64 a1.val 4294967295).val)) 32).val)).val 4294967295).val)) 32).val)),(wu64 (a0.val * a1.val)))
def S_l02Minus (a0 : Wd) : Wd:=
  (bif (a0.lo.val == 0) then (⟨(w64 (0 - a0.hi.val)),(wu64 (0 - a0.lo.val))⟩ : Wd) else (⟨(inot .i64 a0.hi.val),(wu64 (0 - a0.lo.val))⟩ : Wd))
def S_l02Mul (a0 : I64) (a1 : I64) : Wd:=
  bindP (S_l02Size a0) fun r1=>bindP (S_l02Size a1) fun r2=>bindP (S_l02Times r1 r2) fun r3=>(bif (!((decide (a0.val < 0)) == (decide (a1.val < 0)))) then bindP (S_l02Minus (⟨(w64 r3.1.val),r3.2⟩ : Wd)) fun r4=>r4 else (⟨(w64 r3.1.val),r3.2⟩ : Wd))
def S_l02Divide_L0 : Nat → U64 → U64 → U64 → U64 → U64 → I64 → U64 × U64 × U64
  | 0,_,_,_,_,_,_=>((cu64 0),(cu64 0),(cu64 0))
  | fu + 1,a1,a2,x_qhi,x_rest,x_q,x_i=>(bif (decide (x_i.val ≥ 0)) then (bif ((ishr x_rest 63).val == 1) then S_l02Divide_L0 fu a1 a2 x_qhi (wu64 ((ior .u64 (ishl .u64 x_rest.val 1).val (iand .u64 (ishr a1 (wu64 x_i.val).val).val 1).val).val - a2.val)) (ior .u64 (ishl .u64 x_q.val 1).val 1) (w64 (x_i.val - 1)) else (bif (decide ((ior .u64 (ishl .u64 x_rest.val 1).val (iand .u64 (ishr a1 (wu64 x_i.val).val).val 1).val).val ≥ a2.val)) then S_l02Divide_L0 fu a1 a2 x_qhi (wu64 ((ior .u64 (ishl .u64 x_rest.val 1).val (iand .u64 (ishr a1 (wu64 x_i.val).val).val 1).val).val - a2.val)) (ior .u64 (ishl .u64 x_q.val 1).val 1) (w64 (x_i.val - 1)) else S_l02Divide_L0 fu a1 a2 x_qhi (ior .u64 (ishl .u64 x_rest.val 1).val (iand .u64 (ishr a1 (wu64 x_i.val).val).val 1).val) (ishl .u64 x_q.val 1) (w64 (x_i.val - 1)))) else (x_qhi,x_q,x_rest))
def S_l02Divide (a0 : U64) (a1 : U64) (a2 : U64) : U64 × U64 × U64:=
  S_l02Divide_L0 65 a1 a2 (wu64 (Int.tdiv a0.val a2.val)) (imod a0 a2.val) (cu64 0) (c64 63)
def S_l02Of (a0 : I64) : Wd:=
  (bif (decide (a0.val < 0)) then (⟨(c64 (-1)),(wu64 a0.val)⟩ : Wd) else (⟨(c64 0),(wu64 a0.val)⟩ : Wd))
def S_l02Plus (a0 : Wd) (a1 : Wd) : Wd:=
  (bif (decide ((wu64 (a0.lo.val + a1.lo.val)).val < a0.lo.val)) then (⟨(w64 ((w64 (a0.hi.val + a1.hi.val)).val + 1)),(wu64 (a0.lo.val + a1.lo.val))⟩ : Wd) else (⟨(w64 (a0.hi.val + a1.hi.val)),(wu64 (a0.lo.val + a1.lo.val))⟩ : Wd))
def S_l02Div (a0 : Wd) (a1 : I64) : Wd × I64:=
  (bif (decide (a0.hi.val ≥ 0)) then bindP (S_l02Divide (wu64 a0.hi.val) a0.lo (wu64 a1.val)) fun r2=>((⟨(w64 r2.1.val),r2.2.1⟩ : Wd),(w64 r2.2.2.val)) else bindP (S_l02Minus a0) fun r3=>bindP (S_l02Divide (wu64 r3.hi.val) r3.lo (wu64 a1.val)) fun r4=>bindP (S_l02Minus (⟨(w64 r4.1.val),r4.2.1⟩ : Wd)) fun r5=>(bif (r4.2.2.val == 0) then (r5,(c64 0)) else bindP (S_l02Of (c64 (-1))) fun r7=>bindP (S_l02Plus r5 r7) fun r8=>(r8,(w64 (a1.val - (w64 r4.2.2.val).val)))))
def S_l02Int (a0 : Wd) : I64 × Bool:=
  bindP (S_l02Of (w64 a0.lo.val)) fun r1=>(bif (!((r1.hi.val == a0.hi.val) && (r1.lo.val == a0.lo.val))) then ((c64 0),false) else ((w64 a0.lo.val),true))
def S_MulDivFloor (a0 : I64) (a1 : I64) (a2 : I64) : I64 × Bool:=
  (bif (decide (a2.val ≤ 0)) then ((c64 0),false) else bindP (S_l02Mul a0 a1) fun r2=>bindP (S_l02Div r2 a2) fun r3=>bindP (S_l02Int r3.1) fun r4=>(r4.1,r4.2))
def S_l03Ok (a0 : I64) : Bool:=
  bindP (S_l00In a0 (c64 (-1152921504606846976)) (c64 1152921504606846976)) fun r1=>r1
def S_l03End (a0 : I64) (a1 : Bool) : I64 × Bool:=
  (bif (!a1) then ((c64 0),false) else bindP (S_l03Ok a0) fun r1=>(bif (!r1) then ((c64 0),false) else (a0,true)))
def S_l03Floor (a0 : I64) (a1 : I64) : I64 × Bool:=
  (bif (decide (a1.val ≤ 0)) then ((c64 0),false) else bindP (S_MulDivFloor a0 (c64 4294967296) a1) fun r1=>bindP (S_l03End r1.1 r1.2) fun r2=>(r2.1,r2.2))
def S_l03Ceil (a0 : I64) (a1 : I64) : I64 × Bool:=
  (bif (decide (a1.val ≤ 0)) then ((c64 0),false) else bindP (S_MulDivFloor a0 (c64 4294967296) a1) fun r1=>(bif (!r1.2) then ((c64 0),false) else (bif ((w64 (r1.1.val * a1.val)).val != (w64 (a0.val * 4294967296)).val) then bindP (S_l03End (w64 (r1.1.val + 1)) true) fun r2=>(r2.1,r2.2) else bindP (S_l03End r1.1 true) fun r3=>(r3.1,r3.2))))
def S_Quotient (a0 : I64) (a1 : I64) : Iv:=
  (bif (decide (a1.val < 0)) then (bif (a0.val == (-9223372036854775808)) then bindP (S_l04Whole) fun r1=>r1 else (bif (a1.val == (-9223372036854775808)) then bindP (S_l04Whole) fun r2=>r2 else bindP (S_l03Floor (w64 (0 - a0.val)) (w64 (0 - a1.val))) fun r3=>bindP (S_l03Ceil (w64 (0 - a0.val)) (w64 (0 - a1.val))) fun r4=>(bif (!r3.2) then bindP (S_l04Whole) fun r5=>r5 else (bif (!r4.2) then bindP (S_l04Whole) fun r6=>r6 else bindP (S_l04Make r3.1 r4.1) fun r7=>r7)))) else bindP (S_l03Floor a0 a1) fun r8=>bindP (S_l03Ceil a0 a1) fun r9=>(bif (!r8.2) then bindP (S_l04Whole) fun r10=>r10 else (bif (!r9.2) then bindP (S_l04Whole) fun r11=>r11 else bindP (S_l04Make r8.1 r9.1) fun r12=>r12)))
def S_AddI (a0 : Iv) (a1 : Iv) : Iv:=
  bindP (S_l04Ok a0) fun r1=>(bif (!r1) then bindP (S_l04Whole) fun r2=>r2 else bindP (S_l04Ok a1) fun r3=>(bif (!r3) then bindP (S_l04Whole) fun r4=>r4 else bindP (S_l04Make (w64 (a0.lo.val + a1.lo.val)) (w64 (a0.hi.val + a1.hi.val))) fun r5=>r5))
def S_l02Shift (a0 : Wd) (a1 : I64) : Wd:=
  (bif (a1.val == 0) then a0 else (bif (decide (a1.val < 64)) then (⟨(ishr a0.hi (wu64 a1.val).val),(ior .u64 (ishr a0.lo (wu64 a1.val).val).val (ishl .u64 (wu64 a0.hi.val).val (wu64 (w64 (64 - a1.val)).val).val).val)⟩ : Wd) else (⟨(ishr a0.hi 63),(wu64 (ishr a0.hi (wu64 (w64 (a1.val - 64)).val).val).val)⟩ : Wd)))
def S_MulFloor (a0 : I64) (a1 : I64) (a2 : I64) : I64 × Bool:=
  bindP (S_l00In a2 (c64 0) (c64 126)) fun r1=>(bif (!r1) then ((c64 0),false) else bindP (S_l02Mul a0 a1) fun r2=>bindP (S_l02Shift r2 a2) fun r3=>bindP (S_l02Int r3) fun r4=>(r4.1,r4.2))
def S_l05Turn_r : Nat → I64 → Iv
  | 0,_=>(⟨(c64 0),(c64 0)⟩ : Iv)
  | fu + 1,a0=>(bif (a0.val == 0) then (⟨(c64 0),(c64 0)⟩ : Iv) else (bif (decide (a0.val < 0)) then bindP (S_l05Turn_r fu (w64 (0 - a0.val))) fun r3=>(⟨(w64 (0 - r3.hi.val)),(w64 (0 - r3.lo.val))⟩ : Iv) else bindP (S_MulFloor a0 (c64 7244019458077122842) (c64 30)) fun r4=>(⟨r4.1,(w64 (r4.1.val + 1))⟩ : Iv)))
def S_l05Turn (a0 : I64) : Iv:=S_l05Turn_r 2 a0
def S_PiI : Iv:=
  bindP (S_l05Turn (c64 2)) fun r1=>r1
def S_l03MulDown (a0 : I64) (a1 : I64) : I64 × Bool:=
  bindP (S_l03Ok a0) fun r1=>(bif (!r1) then ((c64 0),false) else bindP (S_l03Ok a1) fun r2=>(bif (!r2) then ((c64 0),false) else bindP (S_MulFloor a0 a1 (c64 32)) fun r3=>bindP (S_l03End r3.1 r3.2) fun r4=>(r4.1,r4.2)))
def S_l03MulUp (a0 : I64) (a1 : I64) : I64 × Bool:=
  bindP (S_l03MulDown (w64 (0 - a0.val)) a1) fun r1=>bindP (S_l03Ok a0) fun r2=>(bif (!r2) then ((c64 0),false) else (bif (!r1.2) then ((c64 0),false) else ((w64 (0 - r1.1.val)),true)))
def S_l00Min (a0 : I64) (a1 : I64) : I64:=
  (bif (decide (a0.val < a1.val)) then a0 else a1)
def S_l00Max (a0 : I64) (a1 : I64) : I64:=
  (bif (decide (a0.val > a1.val)) then a0 else a1)
def S_MulI (a0 : Iv) (a1 : Iv) : Iv:=
  bindP (S_l04Ok a0) fun r1=>(bif (!r1) then bindP (S_l04Whole) fun r2=>r2 else bindP (S_l04Ok a1) fun r3=>(bif (!r3) then bindP (S_l04Whole) fun r4=>r4 else bindP (S_l03MulDown a0.lo a1.lo) fun r5=>bindP (S_l03MulUp a0.lo a1.lo) fun r6=>(bif (!r5.2) then bindP (S_l04Whole) fun r7=>r7 else (bif (!r6.2) then bindP (S_l04Whole) fun r8=>r8 else bindP (S_l00Min (c64 1152921504606846976) r5.1) fun r9=>bindP (S_l00Max (c64 (-1152921504606846976)) r6.1) fun r10=>bindP (S_l03MulDown a0.lo a1.hi) fun r11=>bindP (S_l03MulUp a0.lo a1.hi) fun r12=>(bif (!r11.2) then bindP (S_l04Whole) fun r13=>r13 else (bif (!r12.2) then bindP (S_l04Whole) fun r14=>r14 else bindP (S_l00Min r9 r11.1) fun r15=>bindP (S_l00Max r10 r12.1) fun r16=>bindP (S_l03MulDown a0.hi a1.lo) fun r17=>bindP (S_l03MulUp a0.hi a1.lo) fun r18=>(bif (!r17.2) then bindP (S_l04Whole) fun r19=>r19 else (bif (!r18.2) then bindP (S_l04Whole) fun r20=>r20 else bindP (S_l00Min r15 r17.1) fun r21=>bindP (S_l00Max r16 r18.1) fun r22=>bindP (S_l03MulDown a0.hi a1.hi) fun r23=>bindP (S_l03MulUp a0.hi a1.hi) fun r24=>(bif (!r23.2) then bindP (S_l04Whole) fun r25=>r25 else (bif (!r24.2) then bindP (S_l04Whole) fun r26=>r26 else bindP (S_l00Min r21 r23.1) fun r27=>bindP (S_l00Max r22 r24.1) fun r28=>bindP (S_l04Make r27 r28) fun r29=>r29))))))))))
def S_l23Arc (a0 : I64) : Iv:=
  bindP (S_PiI) fun r1=>bindP (S_Quotient a0 (c64 648000000000)) fun r2=>bindP (S_MulI r1 r2) fun r3=>r3
def S_NegI (a0 : Iv) : Iv:=
  bindP (S_l04Ok a0) fun r1=>(bif (!r1) then bindP (S_l04Whole) fun r2=>r2 else bindP (S_l04Make (w64 (0 - a0.hi.val)) (w64 (0 - a0.lo.val))) fun r3=>r3)
def S_l23Affine__pSf (b0 : Sf) : Af:=
  bindP (S_Integer (c64 1)) fun r1=>bindP (S_Quotient b0.sc (c64 1000000000)) fun r2=>bindP (S_AddI r1 r2) fun r3=>bindP (S_l23Arc b0.rx) fun r4=>bindP (S_MulI r3 r4) fun r5=>bindP (S_l23Arc b0.ry) fun r6=>bindP (S_MulI r3 r6) fun r7=>bindP (S_l23Arc b0.rz) fun r8=>bindP (S_MulI r3 r8) fun r9=>bindP (S_NegI r7) fun r10=>bindP (S_NegI r9) fun r11=>bindP (S_NegI r5) fun r12=>bindP (S_Quotient b0.tx (c64 1000)) fun r13=>bindP (S_Quotient b0.ty (c64 1000)) fun r14=>bindP (S_Quotient b0.tz (c64 1000)) fun r15=>(⟨(⟨(⟨r3,r9,r10⟩ : Vc),(⟨r11,r3,r5⟩ : Vc),(⟨r7,r12,r3⟩ : Vc)⟩ : Mt),(⟨r13,r14,r15⟩ : Vc)⟩ : Af)
def S_Whole : Iv:=
  bindP (S_l04Whole) fun r1=>r1
def S_RadiansOf_b (self : I64 → Iv) (a0 : I64) : Iv:=
  bindP (S_l00In a0 (c64 (-36000000000)) (c64 36000000000)) fun r1=>(bif (!r1) then bindP (S_Whole) fun r3=>r3 else (bif (a0.val == 0) then (⟨(c64 0),(c64 0)⟩ : Iv) else (bif (decide (a0.val < 0)) then bindP (self (w64 (0 - a0.val))) fun r6=>bindP (S_NegI r6) fun r7=>r7 else bindP (S_MulDivFloor a0 (c64 7244019458077122842) (c64 966367641600000000)) fun r8=>bindP (S_MulDivFloor a0 (c64 7244019458077122843) (c64 966367641600000000)) fun r9=>(⟨r8.1,(w64 (r9.1.val + 1))⟩ : Iv))))
def S_RadiansOf_r : Nat → I64 → Iv
  | 0,_=>(⟨(c64 0),(c64 0)⟩ : Iv)
  | fu + 1,a0=>S_RadiansOf_b (S_RadiansOf_r fu) a0
def S_RadiansOf (a0 : I64) : Iv:=S_RadiansOf_r 2 a0
def S_MajorI (a0 : El) : Iv:=
  bindP (S_l12Ok a0) fun r1=>(bif (!r1) then bindP (S_l04Whole) fun r2=>r2 else bindP (S_Quotient a0.a (c64 1000)) fun r3=>r3)
end Go.Proofs.YtfhnlkinjbakgaaGreat.Abs
