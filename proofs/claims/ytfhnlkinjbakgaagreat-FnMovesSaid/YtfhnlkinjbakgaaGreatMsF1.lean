/- The functions, on numbers; part 1 (written by w.py). -/
import Derived.Test.YtfhnlkinjbakgaaGreatMsF0
set_option linter.unusedVariables false
set_option linter.unusedSimpArgs false
namespace Go.Proofs.YtfhnlkinjbakgaaGreat.Abs
open Go Go.RowKit
def I_LonOf (a0 : Pt) : Iv:=
  bindP (I_ValidPoint a0) fun r1=>(bif (!r1) then bindP (I_Whole) fun r2=>r2 else bindP (I_RadiansOf a0.lon) fun r3=>r3)
def I_MajorI_1__pEl (b0 : El) : Iv:=
  bindP (I_Quotient b0.a (c64 1000)) fun r1=>r1
def I_ifValid__impl_MajorI_1_pEl (b0 : El) (a0 : El) : Iv:=
  bindP (I_ValidEllipsoid a0) fun r1=>(bif (!r1) then bindP (I_Whole) fun r2=>r2 else bindP (I_MajorI_1__pEl b0) fun r3=>r3)
def I_MajorI (a0 : El) : Iv:=
  bindP (I_ifValid__impl_MajorI_1_pEl a0 a0) fun r1=>r1
def I_isAngle (a0 : I64) : Bool:=
  bindP (I_within a0 (c64 (-1099511627776)) (c64 1099511627776)) fun r1=>r1
def I_areAngles (a0 : Iv) : Bool:=
  bindP (I_ValidInterval a0) fun r1=>(bif r1 then bindP (I_isAngle a0.lo) fun r2=>(bif r2 then bindP (I_isAngle a0.hi) fun r3=>r3 else false) else false)
def I_ring : Iv:=
  (⟨(c64 (-4294967296)),(c64 4294967296)⟩ : Iv)
def I_QuarterOf (a0 : I64) : I64:=
  bindP (I_isAngle a0) fun r1=>(bif (!r1) then (c64 0) else (bif (decide ((w64 ((w64 (Int.tdiv (w64 (a0.val + 3373259426)).val 6746518852)).val * 6746518852)).val > (w64 (a0.val + 3373259426)).val)) then (w64 ((w64 (Int.tdiv (w64 (a0.val + 3373259426)).val 6746518852)).val - 1)) else (w64 (Int.tdiv (w64 (a0.val + 3373259426)).val 6746518852))))
def I_at (a0 : I64) : Iv:=
  (⟨a0,a0⟩ : Iv)
def I_SubI (a0 : Iv) (a1 : Iv) : Iv:=
  bindP (I_NegI a1) fun r1=>bindP (I_AddI a0 r1) fun r2=>r2
def I_InsideI (a0 : Iv) (a1 : Iv) : Bool:=
  bindP (I_IsWhole a0) fun r1=>(bif r1 then bindP (I_IsWhole a1) fun r2=>r2 else bindP (I_IsWhole a1) fun r3=>(bif r3 then bindP (I_IsWhole a1) fun r4=>r4 else (bif (decide (a1.lo.val ≤ a0.lo.val)) then (decide (a0.hi.val ≤ a1.hi.val)) else false)))
def I_abs (a0 : I64) : I64:=
  (mx a0 (w64 (0 - a0.val)))
def I_HasI (a0 : Iv) (a1 : I64) : Bool:=
  bindP (I_IsWhole a0) fun r1=>(bif r1 then true else bindP (I_within a1 a0.lo a0.hi) fun r2=>r2)
def I_AbsI (a0 : Iv) : Iv:=
  bindP (I_IsWhole a0) fun r1=>(bif r1 then bindP (I_Whole) fun r2=>r2 else bindP (I_abs a0.lo) fun r3=>bindP (I_abs a0.hi) fun r4=>bindP (I_abs a0.lo) fun r5=>bindP (I_abs a0.hi) fun r6=>bindP (I_HasI a0 (c64 0)) fun r7=>(bif r7 then (⟨(c64 0),(mx r5 r6)⟩ : Iv) else (⟨(mn r3 r4),(mx r5 r6)⟩ : Iv)))
def I_SqrI (a0 : Iv) : Iv:=
  bindP (I_IsWhole a0) fun r1=>(bif r1 then bindP (I_Whole) fun r2=>r2 else bindP (I_AbsI a0) fun r3=>bindP (I_MulDown r3.lo r3.lo) fun r4=>bindP (I_MulUp r3.hi r3.hi) fun r5=>(bif r4.2 then bindP (I_bounded r4.1 r5.1 r5.2) fun r6=>r6 else bindP (I_bounded r4.1 r5.1 false) fun r7=>r7))
def I_DivDown (a0 : I64) (a1 : I64) : I64 × Bool:=
  bindP (I_ValidFix a0) fun r1=>(bif (!r1) then ((c64 0),false) else bindP (I_ValidFix a1) fun r2=>(bif (!r2) then ((c64 0),false) else (bif (decide (a1.val < 0)) then bindP (I_MulDivFloor (w64 (0 - a0.val)) (c64 4294967296) (w64 (0 - a1.val))) fun r3=>bindP (I_fixed r3.1 r3.2) fun r4=>(r4.1,r4.2) else bindP (I_MulDivFloor a0 (c64 4294967296) a1) fun r5=>bindP (I_fixed r5.1 r5.2) fun r6=>(r6.1,r6.2))))
def I_DivUp (a0 : I64) (a1 : I64) : I64 × Bool:=
  bindP (I_ValidFix a0) fun r1=>(bif (!r1) then ((c64 0),false) else bindP (I_ValidFix a1) fun r2=>(bif (!r2) then ((c64 0),false) else bindP (I_DivDown (w64 (0 - a0.val)) a1) fun r3=>((w64 (0 - r3.1.val)),r3.2)))
def I_combine__impl_DivDown__impl_DivUp (a0 : Iv) (a1 : Iv) : Iv:=
  bindP (I_DivDown a0.lo a1.lo) fun r1=>bindP (I_DivUp a0.lo a1.lo) fun r2=>(bif (!r1.2) then bindP (I_Whole) fun r3=>r3 else (bif (!r2.2) then bindP (I_Whole) fun r4=>r4 else bindP (I_DivDown a0.lo a1.hi) fun r5=>bindP (I_DivUp a0.lo a1.hi) fun r6=>(bif (!r5.2) then bindP (I_Whole) fun r7=>r7 else (bif (!r6.2) then bindP (I_Whole) fun r8=>r8 else bindP (I_DivDown a0.hi a1.lo) fun r9=>bindP (I_DivUp a0.hi a1.lo) fun r10=>(bif (!r9.2) then bindP (I_Whole) fun r11=>r11 else (bif (!r10.2) then bindP (I_Whole) fun r12=>r12 else bindP (I_DivDown a0.hi a1.hi) fun r13=>bindP (I_DivUp a0.hi a1.hi) fun r14=>(bif (!r13.2) then bindP (I_Whole) fun r15=>r15 else (bif (!r14.2) then bindP (I_Whole) fun r16=>r16 else bindP (I_bounded (mn (mn (mn (mn r1.1 r1.1) r5.1) r9.1) r13.1) (mx (mx (mx (mx r2.1 r2.1) r6.1) r10.1) r14.1) true) fun r17=>r17))))))))
def I_DivI (a0 : Iv) (a1 : Iv) : Iv:=
  bindP (I_areBounded a0 a1) fun r1=>(bif (!r1) then bindP (I_Whole) fun r2=>r2 else bindP (I_HasI a1 (c64 0)) fun r3=>(bif r3 then bindP (I_Whole) fun r4=>r4 else bindP (I_combine__impl_DivDown__impl_DivUp a0 a1) fun r5=>r5))
def I_series (a0 : Iv) (a1 : I64) : Iv:=
  bindP (I_Integer (c64 1)) fun r1=>bindP (I_Integer (c64 1)) fun r2=>bindP (I_Integer (w64 ((w64 (a1.val + 14)).val * (w64 ((w64 (a1.val + 14)).val + 1)).val))) fun r3=>bindP (I_DivI a0 r3) fun r4=>bindP (I_MulI r4 r1) fun r5=>bindP (I_SubI r2 r5) fun r6=>bindP (I_Integer (c64 1)) fun r7=>bindP (I_Integer (w64 ((w64 (a1.val + 12)).val * (w64 ((w64 (a1.val + 12)).val + 1)).val))) fun r8=>bindP (I_DivI a0 r8) fun r9=>bindP (I_MulI r9 r6) fun r10=>bindP (I_SubI r7 r10) fun r11=>bindP (I_Integer (c64 1)) fun r12=>bindP (I_Integer (w64 ((w64 (a1.val + 10)).val * (w64 ((w64 (a1.val + 10)).val + 1)).val))) fun r13=>bindP (I_DivI a0 r13) fun r14=>bindP (I_MulI r14 r11) fun r15=>bindP (I_SubI r12 r15) fun r16=>bindP (I_Integer (c64 1)) fun r17=>bindP (I_Integer (w64 ((w64 (a1.val + 8)).val * (w64 ((w64 (a1.val + 8)).val + 1)).val))) fun r18=>bindP (I_DivI a0 r18) fun r19=>bindP (I_MulI r19 r16) fun r20=>bindP (I_SubI r17 r20) fun r21=>bindP (I_Integer (c64 1)) fun r22=>bindP (I_Integer (w64 ((w64 (a1.val + 6)).val * (w64 ((w64 (a1.val + 6)).val + 1)).val))) fun r23=>bindP (I_DivI a0 r23) fun r24=>bindP (I_MulI r24 r21) fun r25=>bindP (I_SubI r22 r25) fun r26=>bindP (I_Integer (c64 1)) fun r27=>bindP (I_Integer (w64 ((w64 (a1.val + 4)).val * (w64 ((w64 (a1.val + 4)).val + 1)).val))) fun r28=>bindP (I_DivI a0 r28) fun r29=>bindP (I_MulI r29 r26) fun r30=>bindP (I_SubI r27 r30) fun r31=>bindP (I_Integer (c64 1)) fun r32=>bindP (I_Integer (w64 ((w64 (a1.val + 2)).val * (w64 ((w64 (a1.val + 2)).val + 1)).val))) fun r33=>bindP (I_DivI a0 r33) fun r34=>bindP (I_MulI r34 r31) fun r35=>bindP (I_SubI r32 r35) fun r36=>bindP (I_Integer (c64 1)) fun r37=>bindP (I_Integer (w64 ((w64 (a1.val + 0)).val * (w64 ((w64 (a1.val + 0)).val + 1)).val))) fun r38=>bindP (I_DivI a0 r38) fun r39=>bindP (I_MulI r39 r36) fun r40=>bindP (I_SubI r37 r40) fun r41=>r41
def I_tiny : Iv:=
  (⟨(c64 (-1)),(c64 1)⟩ : Iv)
def I_SinSeries (a0 : Iv) : Iv:=
  bindP (I_ring) fun r1=>bindP (I_InsideI a0 r1) fun r2=>(bif (!r2) then bindP (I_Whole) fun r3=>r3 else bindP (I_SqrI a0) fun r4=>bindP (I_series r4 (c64 2)) fun r5=>bindP (I_MulI a0 r5) fun r6=>bindP (I_tiny) fun r7=>bindP (I_AddI r6 r7) fun r8=>r8)
def I_MeetI (a0 : Iv) (a1 : Iv) : Iv × Bool:=
  bindP (I_IsWhole a0) fun r1=>(bif r1 then bindP (I_IsWhole a1) fun r2=>(bif r2 then bindP (I_Whole) fun r3=>(r3,true) else bindP (I_IsWhole a0) fun r4=>(bif r4 then (a1,true) else bindP (I_IsWhole a1) fun r5=>(bif r5 then (a0,true) else (bif (decide ((mx a0.lo a1.lo).val > (mn a0.hi a1.hi).val)) then ((⟨(c64 0),(c64 0)⟩ : Iv),false) else ((⟨(mx a0.lo a1.lo),(mn a0.hi a1.hi)⟩ : Iv),true))))) else bindP (I_IsWhole a0) fun r6=>(bif r6 then (a1,true) else bindP (I_IsWhole a1) fun r7=>(bif r7 then (a0,true) else (bif (decide ((mx a0.lo a1.lo).val > (mn a0.hi a1.hi).val)) then ((⟨(c64 0),(c64 0)⟩ : Iv),false) else ((⟨(mx a0.lo a1.lo),(mn a0.hi a1.hi)⟩ : Iv),true)))))
def I_inRing (a0 : Iv) : Iv:=
  bindP (I_ring) fun r1=>bindP (I_MeetI a0 r1) fun r2=>r2.1
def I_CosSeries (a0 : Iv) : Iv:=
  bindP (I_ring) fun r1=>bindP (I_InsideI a0 r1) fun r2=>(bif (!r2) then bindP (I_Whole) fun r3=>r3 else bindP (I_SqrI a0) fun r4=>bindP (I_series r4 (c64 1)) fun r5=>bindP (I_tiny) fun r6=>bindP (I_AddI r5 r6) fun r7=>r7)
def I_circleValue (a0 : I64) (a1 : I64) : Iv:=
  bindP (I_isAngle a0) fun r1=>(bif (!r1) then bindP (I_ring) fun r2=>r2 else bindP (I_QuarterOf a0) fun r3=>bindP (I_at a0) fun r4=>bindP (I_TurnI r3) fun r5=>bindP (I_SubI r4 r5) fun r6=>(bif ((iand .i64 (w64 (r3.val + a1.val)).val 3).val == 0) then bindP (I_SinSeries r6) fun r7=>bindP (I_inRing r7) fun r8=>r8 else (bif ((iand .i64 (w64 (r3.val + a1.val)).val 3).val == 1) then bindP (I_CosSeries r6) fun r9=>bindP (I_inRing r9) fun r10=>r10 else (bif ((iand .i64 (w64 (r3.val + a1.val)).val 3).val == 2) then bindP (I_SinSeries r6) fun r11=>bindP (I_NegI r11) fun r12=>bindP (I_inRing r12) fun r13=>r13 else bindP (I_CosSeries r6) fun r14=>bindP (I_NegI r14) fun r15=>bindP (I_inRing r15) fun r16=>r16))))
def I_HullI (a0 : Iv) (a1 : Iv) : Iv:=
  bindP (I_areBounded a0 a1) fun r1=>(bif (!r1) then bindP (I_Whole) fun r2=>r2 else (⟨(mn a0.lo a1.lo),(mx a0.hi a1.hi)⟩ : Iv))
def I_OverlapI (a0 : Iv) (a1 : Iv) : Bool:=
  bindP (I_MeetI a0 a1) fun r1=>r1.2
def I_turnsIn_L0 : Nat → Iv → I64 → List I64 → List I64
  | 0,_,_,acc=>acc
  | fu + 1,a0,x_k,acc=>bindP (I_QuarterOf a0.hi) fun r1=>(bif (decide (x_k.val ≤ (w64 (r1.val + 1)).val)) then bindP (I_TurnI x_k) fun r2=>bindP (I_OverlapI r2 a0) fun r3=>(bif r3 then I_turnsIn_L0 fu a0 (w64 (x_k.val + 1)) (acc ++ [x_k]) else I_turnsIn_L0 fu a0 (w64 (x_k.val + 1)) acc) else acc)
def I_turnsIn (a0 : Iv) : List I64:=bindP (I_QuarterOf a0.lo) fun r1=>I_turnsIn_L0 ((2000 - (w64 (r1.val - 1)).val).toNat + 1) a0 (w64 (r1.val - 1)) []
def I_circleHull_L0 : Nat → I64 → List I64 → Iv → I64 → Iv → Iv
  | 0,_,_,_,_,_=>(⟨(c64 0),(c64 0)⟩ : Iv)
  | fu + 1,a1,r7,a0,x_24,y_2=>(bif (decide (x_24.val < (((r7.length : Nat) : Int)))) then (bif ((iand .i64 (w64 ((listAt r7 x_24).val + a1.val)).val 3).val == 1) then bindP (I_Integer (c64 1)) fun r10=>bindP (I_HullI y_2 r10) fun r11=>I_circleHull_L0 fu a1 r7 a0 (w64 (x_24.val + 1)) r11 else (bif ((iand .i64 (w64 ((listAt r7 x_24).val + a1.val)).val 3).val == 3) then bindP (I_Integer (c64 (-1))) fun r13=>bindP (I_HullI y_2 r13) fun r14=>I_circleHull_L0 fu a1 r7 a0 (w64 (x_24.val + 1)) r14 else I_circleHull_L0 fu a1 r7 a0 (w64 (x_24.val + 1)) y_2)) else y_2)
def I_circleHull (a0 : Iv) (a1 : I64) : Iv:=
  bindP (I_areAngles a0) fun r1=>(bif (!r1) then bindP (I_ring) fun r3=>r3 else bindP (I_circleValue a0.lo a1) fun r4=>bindP (I_circleValue a0.hi a1) fun r5=>bindP (I_HullI r4 r5) fun r6=>bindP (I_turnsIn a0) fun r7=>I_circleHull_L0 (((r7.length : Nat) : Int).toNat + 1) a1 r7 a0 (c64 0) r6)
def I_SinI (a0 : Iv) : Iv:=
  bindP (I_circleHull a0 (c64 0)) fun r1=>r1
def I_FlatteningI_1__pEl (b0 : El) : Iv:=
  bindP (I_Quotient b0.num b0.den) fun r1=>r1
def I_ifValid__impl_FlatteningI_1_pEl (b0 : El) (a0 : El) : Iv:=
  bindP (I_ValidEllipsoid a0) fun r1=>(bif (!r1) then bindP (I_Whole) fun r2=>r2 else bindP (I_FlatteningI_1__pEl b0) fun r3=>r3)
def I_FlatteningI (a0 : El) : Iv:=
  bindP (I_ifValid__impl_FlatteningI_1_pEl a0 a0) fun r1=>r1
def I_EccI (a0 : El) : Iv:=
  bindP (I_FlatteningI a0) fun r1=>bindP (I_Integer (c64 2)) fun r2=>bindP (I_SubI r2 r1) fun r3=>bindP (I_MulI r1 r3) fun r4=>r4
def I_oneLess (a0 : Iv) : Iv:=
  bindP (I_Integer (c64 1)) fun r1=>bindP (I_SubI r1 a0) fun r2=>r2
def I_weightOf (a0 : El) (a1 : Iv) : Iv:=
  bindP (I_EccI a0) fun r1=>bindP (I_SqrI a1) fun r2=>bindP (I_MulI r1 r2) fun r3=>bindP (I_oneLess r3) fun r4=>r4
def I_WideSqrt_L0 : Nat → Wd → U64 → I64 → U64 × Bool
  | 0,_,_,_=>((cu64 0),false)
  | fu + 1,a0,x_root,x_i=>(bif (decide (x_i.val ≥ 0)) then bindP (F_bits_Mul64 (ior .u64 x_root.val (ishl .u64 1 x_i.val).val) (ior .u64 x_root.val (ishl .u64 1 x_i.val).val)) fun r3=>(bif (decide (r3.1.val < (wu64 a0.hi.val).val)) then I_WideSqrt_L0 fu a0 (ior .u64 x_root.val (ishl .u64 1 x_i.val).val) (w64 (x_i.val - 1)) else (bif (r3.1.val == (wu64 a0.hi.val).val) then (bif (decide (r3.2.val ≤ a0.lo.val)) then I_WideSqrt_L0 fu a0 (ior .u64 x_root.val (ishl .u64 1 x_i.val).val) (w64 (x_i.val - 1)) else I_WideSqrt_L0 fu a0 x_root (w64 (x_i.val - 1))) else I_WideSqrt_L0 fu a0 x_root (w64 (x_i.val - 1)))) else (x_root,true))
def I_WideSqrt (a0 : Wd) : U64 × Bool:=
  (bif (decide (a0.hi.val < 0)) then ((cu64 0),false) else I_WideSqrt_L0 65 a0 (cu64 0) (c64 63))
def I_SqrtFloor (a0 : I64) (a1 : I64) : I64 × Bool:=
  (bif (decide (a0.val < 0)) then ((c64 0),false) else (bif (decide (a1.val < 0)) then ((c64 0),false) else bindP (I_WideMul a0 a1) fun r1=>bindP (I_WideSqrt r1) fun r2=>((w64 r2.1.val),r2.2)))
def I_SqrtDown (a0 : I64) : I64 × Bool:=
  bindP (I_ValidFix a0) fun r1=>(bif (!r1) then ((c64 0),false) else bindP (I_SqrtFloor a0 (c64 4294967296)) fun r2=>bindP (I_fixed r2.1 r2.2) fun r3=>(r3.1,r3.2))
def I_SqrtUp (a0 : I64) : I64 × Bool:=
  bindP (I_SqrtDown a0) fun r1=>(bif r1.2 then bindP (I_WideMul r1.1 r1.1) fun r2=>bindP (I_WideMul a0 (c64 4294967296)) fun r3=>(bif (!((r2.hi.val == r3.hi.val) && (r2.lo.val == r3.lo.val))) then bindP (I_fixed (w64 (r1.1.val + 1)) r1.2) fun r4=>(r4.1,r4.2) else bindP (I_fixed r1.1 r1.2) fun r5=>(r5.1,r5.2)) else bindP (I_fixed r1.1 r1.2) fun r6=>(r6.1,r6.2))
def I_SqrtI (a0 : Iv) : Iv:=
  bindP (I_IsWhole a0) fun r1=>(bif r1 then bindP (I_Whole) fun r2=>r2 else (bif (decide (a0.lo.val < 0)) then bindP (I_Whole) fun r3=>r3 else bindP (I_SqrtDown a0.lo) fun r4=>bindP (I_SqrtUp a0.hi) fun r5=>(bif r4.2 then bindP (I_bounded r4.1 r5.1 r5.2) fun r6=>r6 else bindP (I_bounded r4.1 r5.1 false) fun r7=>r7)))
def I_RadiusN (a0 : El) (a1 : Iv) : Iv:=
  bindP (I_MajorI a0) fun r1=>bindP (I_SinI a1) fun r2=>bindP (I_weightOf a0 r2) fun r3=>bindP (I_SqrtI r3) fun r4=>bindP (I_DivI r1 r4) fun r5=>r5
def I_HeightI (a0 : I64) : Iv:=
  bindP (I_isHeight a0) fun r1=>(bif (!r1) then bindP (I_Whole) fun r2=>r2 else bindP (I_Quotient a0 (c64 1000)) fun r3=>r3)
def I_CosI (a0 : Iv) : Iv:=
  bindP (I_circleHull a0 (c64 1)) fun r1=>r1
def I_toCartesian (a0 : El) (a1 : Pl) : Vc:=
  bindP (I_LatOf a1.point) fun r1=>bindP (I_LonOf a1.point) fun r2=>bindP (I_RadiusN a0 r1) fun r3=>bindP (I_HeightI a1.height) fun r4=>bindP (I_AddI r3 r4) fun r5=>bindP (I_CosI r1) fun r6=>bindP (I_MulI r5 r6) fun r7=>bindP (I_CosI r2) fun r8=>bindP (I_MulI r7 r8) fun r9=>bindP (I_SinI r2) fun r10=>bindP (I_MulI r7 r10) fun r11=>bindP (I_EccI a0) fun r12=>bindP (I_oneLess r12) fun r13=>bindP (I_MulI r3 r13) fun r14=>bindP (I_AddI r14 r4) fun r15=>bindP (I_SinI r1) fun r16=>bindP (I_MulI r15 r16) fun r17=>(⟨r9,r11,r17⟩ : Vc)
def I_DotV (a0 : Vc) (a1 : Vc) : Iv:=
  bindP (I_MulI a0.x a1.x) fun r1=>bindP (I_MulI a0.y a1.y) fun r2=>bindP (I_AddI r1 r2) fun r3=>bindP (I_MulI a0.z a1.z) fun r4=>bindP (I_AddI r3 r4) fun r5=>r5
def I_ApplyM (a0 : Mt) (a1 : Vc) : Vc:=
  bindP (I_DotV a0.a a1) fun r1=>bindP (I_DotV a0.b a1) fun r2=>bindP (I_DotV a0.c a1) fun r3=>(⟨r1,r2,r3⟩ : Vc)
def I_AddV (a0 : Vc) (a1 : Vc) : Vc:=
  bindP (I_AddI a0.x a1.x) fun r1=>bindP (I_AddI a0.y a1.y) fun r2=>bindP (I_AddI a0.z a1.z) fun r3=>(⟨r1,r2,r3⟩ : Vc)
def I_ApplyAffine (a0 : Af) (a1 : Vc) : Vc:=
  bindP (I_ApplyM a0.m a1) fun r1=>bindP (I_AddV r1 a0.t) fun r2=>r2
def I_WideAdd (a0 : Wd) (a1 : Wd) : Wd × Bool:=
  (bif (decide ((iand .i64 (ixor .i64 a0.hi.val (w64 (adc_lo (wu64 a0.hi.val) (wu64 a1.hi.val) (adc_hi a0.lo a1.lo (cu64 0))).val).val).val (ixor .i64 a1.hi.val (w64 (adc_lo (wu64 a0.hi.val) (wu64 a1.hi.val) (adc_hi a0.lo a1.lo (cu64 0))).val).val).val).val < 0)) then ((⟨(c64 0),(cu64 0)⟩ : Wd),false) else ((⟨(w64 (adc_lo (wu64 a0.hi.val) (wu64 a1.hi.val) (adc_hi a0.lo a1.lo (cu64 0))).val),(adc_lo a0.lo a1.lo (cu64 0))⟩ : Wd),true))
def I_rootOfSquares (a0 : I64) (a1 : I64) (a2 : I64) : I64 × I64:=
  bindP (I_WideMul a0 a0) fun r1=>bindP (I_WideMul a1 a1) fun r2=>bindP (I_WideAdd r1 r2) fun r3=>bindP (I_WideMul a2 a2) fun r4=>bindP (I_WideAdd r3.1 r4) fun r5=>bindP (I_WideSqrt r5.1) fun r6=>bindP (I_WideMul (w64 r6.1.val) (w64 r6.1.val)) fun r7=>(bif (!((r7.hi.val == r5.1.hi.val) && (r7.lo.val == r5.1.lo.val))) then ((w64 r6.1.val),(w64 ((w64 r6.1.val).val + 1))) else ((w64 r6.1.val),(w64 r6.1.val)))
def I_NormV (a0 : Vc) : Iv:=
  bindP (I_areBounded a0.x a0.y) fun r1=>(bif (!r1) then bindP (I_Whole) fun r2=>r2 else bindP (I_IsWhole a0.z) fun r3=>(bif r3 then bindP (I_Whole) fun r4=>r4 else bindP (I_AbsI a0.x) fun r5=>bindP (I_AbsI a0.y) fun r6=>bindP (I_AbsI a0.z) fun r7=>bindP (I_rootOfSquares r5.lo r6.lo r7.lo) fun r8=>bindP (I_rootOfSquares r5.hi r6.hi r7.hi) fun r9=>bindP (I_bounded r8.1 r9.2 true) fun r10=>r10))
def I_HalfI (a0 : Iv) : Iv:=
  bindP (I_IsWhole a0) fun r1=>(bif r1 then bindP (I_Whole) fun r2=>r2 else (⟨(ishr a0.lo 1),(ishr (w64 (a0.hi.val + 1)) 1)⟩ : Iv))
def I_LessI (a0 : Iv) (a1 : Iv) : I64:=
  bindP (I_areBounded a0 a1) fun r1=>(bif (!r1) then (c64 2) else (bif (decide (a0.hi.val < a1.lo.val)) then (c64 1) else (bif (decide (a0.lo.val ≥ a1.hi.val)) then (c64 0) else (c64 2))))
def I_centreCode (a0 : El) (a1 : Vc) : I64:=
  bindP (I_ValidEllipsoid a0) fun r1=>(bif (!r1) then (c64 1) else bindP (I_NormV a1) fun r2=>bindP (I_MajorI a0) fun r3=>bindP (I_HalfI r3) fun r4=>bindP (I_LessI r2 r4) fun r5=>(bif (r5.val == 1) then (c64 8) else (bif (r5.val == 2) then (c64 9) else (c64 0))))
def I_quarter : I64:=
  bindP (I_TurnI (c64 1)) fun r1=>r1.hi
def I_SinAt (a0 : I64) : Iv:=
  bindP (I_circleValue a0 (c64 0)) fun r1=>r1
end Go.Proofs.YtfhnlkinjbakgaaGreat.Abs
