/- The functions, on numbers; part 1 (written by w.py). -/
import Derived.Test.YtbipmdgocmdgdaaGreatCsF0
set_option linter.unusedVariables false
set_option linter.unusedSimpArgs false
namespace Go.Proofs.YtbipmdgocmdgdaaGreat.Abs
open Go Go.RowKit
def I_InsideI (a0 : Iv) (a1 : Iv) : Bool:=
  bindP (I_IsWhole a0) fun r1=>(bif r1 then bindP (I_IsWhole a1) fun r2=>r2 else bindP (I_IsWhole a1) fun r3=>(bif r3 then bindP (I_IsWhole a1) fun r4=>r4 else (bif (decide (a1.lo.val ≤ a0.lo.val)) then (decide (a0.hi.val ≤ a1.hi.val)) else false)))
def I_HasI (a0 : Iv) (a1 : I64) : Bool:=
  bindP (I_IsWhole a0) fun r1=>(bif r1 then true else bindP (I_within a1 a0.lo a0.hi) fun r2=>r2)
def I_AbsI (a0 : Iv) : Iv:=
  bindP (I_IsWhole a0) fun r1=>(bif r1 then bindP (I_Whole) fun r2=>r2 else bindP (I_abs a0.lo) fun r3=>bindP (I_abs a0.hi) fun r4=>bindP (I_abs a0.lo) fun r5=>bindP (I_abs a0.hi) fun r6=>bindP (I_HasI a0 (c64 0)) fun r7=>(bif r7 then (⟨(c64 0),(mx r5 r6)⟩ : Iv) else (⟨(mn r3 r4),(mx r5 r6)⟩ : Iv)))
def I_ValidFix (a0 : I64) : Bool:=
  bindP (I_within a0 (c64 (-1152921504606846976)) (c64 1152921504606846976)) fun r1=>r1
def I_fixed (a0 : I64) (a1 : Bool) : I64 × Bool:=
  (bif (!a1) then ((c64 0),false) else bindP (I_ValidFix a0) fun r1=>(bif (!r1) then ((c64 0),false) else (a0,true)))
def I_MulDown (a0 : I64) (a1 : I64) : I64 × Bool:=
  bindP (I_ValidFix a0) fun r1=>(bif (!r1) then ((c64 0),false) else bindP (I_ValidFix a1) fun r2=>(bif (!r2) then ((c64 0),false) else bindP (I_MulFloor a0 a1 (c64 32)) fun r3=>bindP (I_fixed r3.1 r3.2) fun r4=>(r4.1,r4.2)))
def I_MulUp (a0 : I64) (a1 : I64) : I64 × Bool:=
  bindP (I_ValidFix a0) fun r1=>(bif (!r1) then ((c64 0),false) else bindP (I_ValidFix a1) fun r2=>(bif (!r2) then ((c64 0),false) else bindP (I_MulDown (w64 (0 - a0.val)) a1) fun r3=>((w64 (0 - r3.1.val)),r3.2)))
def I_SqrI (a0 : Iv) : Iv:=
  bindP (I_IsWhole a0) fun r1=>(bif r1 then bindP (I_Whole) fun r2=>r2 else bindP (I_AbsI a0) fun r3=>bindP (I_MulDown r3.lo r3.lo) fun r4=>bindP (I_MulUp r3.hi r3.hi) fun r5=>(bif r4.2 then bindP (I_bounded r4.1 r5.1 r5.2) fun r6=>r6 else bindP (I_bounded r4.1 r5.1 false) fun r7=>r7))
def I_Integer (a0 : I64) : Iv:=
  bindP (I_within a0 (c64 (-268435456)) (c64 268435456)) fun r1=>(bif (!r1) then bindP (I_Whole) fun r2=>r2 else bindP (I_bounded (w64 (a0.val * 4294967296)) (w64 (a0.val * 4294967296)) true) fun r3=>r3)
def I_DivDown (a0 : I64) (a1 : I64) : I64 × Bool:=
  bindP (I_ValidFix a0) fun r1=>(bif (!r1) then ((c64 0),false) else bindP (I_ValidFix a1) fun r2=>(bif (!r2) then ((c64 0),false) else (bif (decide (a1.val < 0)) then bindP (I_MulDivFloor (w64 (0 - a0.val)) (c64 4294967296) (w64 (0 - a1.val))) fun r3=>bindP (I_fixed r3.1 r3.2) fun r4=>(r4.1,r4.2) else bindP (I_MulDivFloor a0 (c64 4294967296) a1) fun r5=>bindP (I_fixed r5.1 r5.2) fun r6=>(r6.1,r6.2))))
def I_DivUp (a0 : I64) (a1 : I64) : I64 × Bool:=
  bindP (I_ValidFix a0) fun r1=>(bif (!r1) then ((c64 0),false) else bindP (I_ValidFix a1) fun r2=>(bif (!r2) then ((c64 0),false) else bindP (I_DivDown (w64 (0 - a0.val)) a1) fun r3=>((w64 (0 - r3.1.val)),r3.2)))
def I_combine__impl_DivDown__impl_DivUp (a0 : Iv) (a1 : Iv) : Iv:=
  bindP (I_DivDown a0.lo a1.lo) fun r1=>bindP (I_DivUp a0.lo a1.lo) fun r2=>(bif (!r1.2) then bindP (I_Whole) fun r3=>r3 else (bif (!r2.2) then bindP (I_Whole) fun r4=>r4 else bindP (I_DivDown a0.lo a1.hi) fun r5=>bindP (I_DivUp a0.lo a1.hi) fun r6=>(bif (!r5.2) then bindP (I_Whole) fun r7=>r7 else (bif (!r6.2) then bindP (I_Whole) fun r8=>r8 else bindP (I_DivDown a0.hi a1.lo) fun r9=>bindP (I_DivUp a0.hi a1.lo) fun r10=>(bif (!r9.2) then bindP (I_Whole) fun r11=>r11 else (bif (!r10.2) then bindP (I_Whole) fun r12=>r12 else bindP (I_DivDown a0.hi a1.hi) fun r13=>bindP (I_DivUp a0.hi a1.hi) fun r14=>(bif (!r13.2) then bindP (I_Whole) fun r15=>r15 else (bif (!r14.2) then bindP (I_Whole) fun r16=>r16 else bindP (I_bounded (mn (mn (mn (mn r1.1 r1.1) r5.1) r9.1) r13.1) (mx (mx (mx (mx r2.1 r2.1) r6.1) r10.1) r14.1) true) fun r17=>r17))))))))
def I_DivI (a0 : Iv) (a1 : Iv) : Iv:=
  bindP (I_areBounded a0 a1) fun r1=>(bif (!r1) then bindP (I_Whole) fun r2=>r2 else bindP (I_HasI a1 (c64 0)) fun r3=>(bif r3 then bindP (I_Whole) fun r4=>r4 else bindP (I_combine__impl_DivDown__impl_DivUp a0 a1) fun r5=>r5))
def I_combine__impl_MulDown__impl_MulUp (a0 : Iv) (a1 : Iv) : Iv:=
  bindP (I_MulDown a0.lo a1.lo) fun r1=>bindP (I_MulUp a0.lo a1.lo) fun r2=>(bif (!r1.2) then bindP (I_Whole) fun r3=>r3 else (bif (!r2.2) then bindP (I_Whole) fun r4=>r4 else bindP (I_MulDown a0.lo a1.hi) fun r5=>bindP (I_MulUp a0.lo a1.hi) fun r6=>(bif (!r5.2) then bindP (I_Whole) fun r7=>r7 else (bif (!r6.2) then bindP (I_Whole) fun r8=>r8 else bindP (I_MulDown a0.hi a1.lo) fun r9=>bindP (I_MulUp a0.hi a1.lo) fun r10=>(bif (!r9.2) then bindP (I_Whole) fun r11=>r11 else (bif (!r10.2) then bindP (I_Whole) fun r12=>r12 else bindP (I_MulDown a0.hi a1.hi) fun r13=>bindP (I_MulUp a0.hi a1.hi) fun r14=>(bif (!r13.2) then bindP (I_Whole) fun r15=>r15 else (bif (!r14.2) then bindP (I_Whole) fun r16=>r16 else bindP (I_bounded (mn (mn (mn (mn r1.1 r1.1) r5.1) r9.1) r13.1) (mx (mx (mx (mx r2.1 r2.1) r6.1) r10.1) r14.1) true) fun r17=>r17))))))))
def I_MulI (a0 : Iv) (a1 : Iv) : Iv:=
  bindP (I_areBounded a0 a1) fun r1=>(bif (!r1) then bindP (I_Whole) fun r2=>r2 else bindP (I_combine__impl_MulDown__impl_MulUp a0 a1) fun r3=>r3)
def I_series (a0 : Iv) (a1 : I64) : Iv:=
  bindP (I_Integer (c64 1)) fun r1=>bindP (I_Integer (c64 1)) fun r2=>bindP (I_Integer (w64 ((w64 (a1.val + 14)).val * (w64 ((w64 (a1.val + 14)).val + 1)).val))) fun r3=>bindP (I_DivI a0 r3) fun r4=>bindP (I_MulI r4 r1) fun r5=>bindP (I_SubI r2 r5) fun r6=>bindP (I_Integer (c64 1)) fun r7=>bindP (I_Integer (w64 ((w64 (a1.val + 12)).val * (w64 ((w64 (a1.val + 12)).val + 1)).val))) fun r8=>bindP (I_DivI a0 r8) fun r9=>bindP (I_MulI r9 r6) fun r10=>bindP (I_SubI r7 r10) fun r11=>bindP (I_Integer (c64 1)) fun r12=>bindP (I_Integer (w64 ((w64 (a1.val + 10)).val * (w64 ((w64 (a1.val + 10)).val + 1)).val))) fun r13=>bindP (I_DivI a0 r13) fun r14=>bindP (I_MulI r14 r11) fun r15=>bindP (I_SubI r12 r15) fun r16=>bindP (I_Integer (c64 1)) fun r17=>bindP (I_Integer (w64 ((w64 (a1.val + 8)).val * (w64 ((w64 (a1.val + 8)).val + 1)).val))) fun r18=>bindP (I_DivI a0 r18) fun r19=>bindP (I_MulI r19 r16) fun r20=>bindP (I_SubI r17 r20) fun r21=>bindP (I_Integer (c64 1)) fun r22=>bindP (I_Integer (w64 ((w64 (a1.val + 6)).val * (w64 ((w64 (a1.val + 6)).val + 1)).val))) fun r23=>bindP (I_DivI a0 r23) fun r24=>bindP (I_MulI r24 r21) fun r25=>bindP (I_SubI r22 r25) fun r26=>bindP (I_Integer (c64 1)) fun r27=>bindP (I_Integer (w64 ((w64 (a1.val + 4)).val * (w64 ((w64 (a1.val + 4)).val + 1)).val))) fun r28=>bindP (I_DivI a0 r28) fun r29=>bindP (I_MulI r29 r26) fun r30=>bindP (I_SubI r27 r30) fun r31=>bindP (I_Integer (c64 1)) fun r32=>bindP (I_Integer (w64 ((w64 (a1.val + 2)).val * (w64 ((w64 (a1.val + 2)).val + 1)).val))) fun r33=>bindP (I_DivI a0 r33) fun r34=>bindP (I_MulI r34 r31) fun r35=>bindP (I_SubI r32 r35) fun r36=>bindP (I_Integer (c64 1)) fun r37=>bindP (I_Integer (w64 ((w64 (a1.val + 0)).val * (w64 ((w64 (a1.val + 0)).val + 1)).val))) fun r38=>bindP (I_DivI a0 r38) fun r39=>bindP (I_MulI r39 r36) fun r40=>bindP (I_SubI r37 r40) fun r41=>r41
def I_tiny : Iv:=
  (⟨(c64 (-1)),(c64 1)⟩ : Iv)
def I_SinSeries (a0 : Iv) : Iv:=
  bindP (I_ring) fun r1=>bindP (I_InsideI a0 r1) fun r2=>(bif (!r2) then bindP (I_Whole) fun r3=>r3 else bindP (I_SqrI a0) fun r4=>bindP (I_series r4 (c64 2)) fun r5=>bindP (I_MulI a0 r5) fun r6=>bindP (I_tiny) fun r7=>bindP (I_AddI r6 r7) fun r8=>r8)
def I_MeetI (a0 : Iv) (a1 : Iv) : Iv × Bool:=
  bindP (I_IsWhole a0) fun r1=>(bif r1 then bindP (I_IsWhole a1) fun r2=>(bif r2 then bindP (I_Whole) fun r3=>(r3,true) else bindP (I_IsWhole a0) fun r4=>(bif r4 then (a1,true) else bindP (I_IsWhole a1) fun r5=>(bif r5 then (a0,true) else (bif (decide ((mx a0.lo a1.lo).val > (mn a0.hi a1.hi).val)) then ((⟨(c64 0),(c64 0)⟩ : Iv),false) else ((⟨(mx a0.lo a1.lo),(mn a0.hi a1.hi)⟩ : Iv),true))))) else bindP (I_IsWhole a0) fun r6=>(bif r6 then (a1,true) else bindP (I_IsWhole a1) fun r7=>(bif r7 then (a0,true) else (bif (decide ((mx a0.lo a1.lo).val > (mn a0.hi a1.hi).val)) then ((⟨(c64 0),(c64 0)⟩ : Iv),false) else ((⟨(mx a0.lo a1.lo),(mn a0.hi a1.hi)⟩ : Iv),true)))))
def I_inRing (a0 : Iv) : Iv:=
  bindP (I_ring) fun r1=>bindP (I_MeetI a0 r1) fun r2=>r2.1
def I_CosSeries (a0 : Iv) : Iv:=
  bindP (I_ring) fun r1=>bindP (I_InsideI a0 r1) fun r2=>(bif (!r2) then bindP (I_Whole) fun r3=>r3 else bindP (I_SqrI a0) fun r4=>bindP (I_series r4 (c64 1)) fun r5=>bindP (I_tiny) fun r6=>bindP (I_AddI r5 r6) fun r7=>r7)
def I_circleValue (a0 : I64) (a1 : I64) : Iv:=
  bindP (I_isAngle a0) fun r1=>(bif (!r1) then bindP (I_ring) fun r2=>r2 else bindP (I_QuarterOf a0) fun r3=>bindP (I_at a0) fun r4=>bindP (I_TurnI r3) fun r5=>bindP (I_SubI r4 r5) fun r6=>(bif ((iand .i64 (w64 (r3.val + a1.val)).val 3).val == 0) then bindP (I_SinSeries r6) fun r7=>bindP (I_inRing r7) fun r8=>r8 else (bif ((iand .i64 (w64 (r3.val + a1.val)).val 3).val == 1) then bindP (I_CosSeries r6) fun r9=>bindP (I_inRing r9) fun r10=>r10 else (bif ((iand .i64 (w64 (r3.val + a1.val)).val 3).val == 2) then bindP (I_SinSeries r6) fun r11=>bindP (I_NegI r11) fun r12=>bindP (I_inRing r12) fun r13=>r13 else bindP (I_CosSeries r6) fun r14=>bindP (I_NegI r14) fun r15=>bindP (I_inRing r15) fun r16=>r16))))
def I_HullI (a0 : Iv) (a1 : Iv) : Iv:=
  bindP (I_areBounded a0 a1) fun r1=>(bif (!r1) then bindP (I_Whole) fun r2=>r2 else (⟨(mn a0.lo a1.lo),(mx a0.hi a1.hi)⟩ : Iv))
def I_OverlapI (a0 : Iv) (a1 : Iv) : Bool:=
  bindP (I_MeetI a0 a1) fun r1=>r1.2
def I_turnsIn_L0 : Nat → Iv → I64 → List I64 → List I64
  | 0,_,_,acc=>acc
  | fu + 1,a0,x_k,acc=>bindP (I_QuarterOf a0.hi) fun r1=>(bif (decide (x_k.val ≤ (w64 (r1.val + 1)).val)) then bindP (I_TurnI x_k) fun r2=>bindP (I_OverlapI r2 a0) fun r3=>(bif r3 then I_turnsIn_L0 fu a0 (w64 (x_k.val + 1)) (acc ++ [x_k]) else I_turnsIn_L0 fu a0 (w64 (x_k.val + 1)) acc) else acc)
def I_turnsIn (a0 : Iv) : List I64:=bindP (I_QuarterOf a0.lo) fun r1=>I_turnsIn_L0 ((2000 - (w64 (r1.val - 1)).val).toNat + 1) a0 (w64 (r1.val - 1)) []
def I_circleHull_L0 : Nat → I64 → List I64 → Iv → I64 → Iv → Iv
  | 0,_,_,_,_,_=>(⟨(c64 0),(c64 0)⟩ : Iv)
  | fu + 1,a1,r7,a0,x_24,y_2=>(bif (decide (x_24.val < (((r7.length : Nat) : Int)))) then (bif ((iand .i64 (w64 ((listAt r7 x_24).val + a1.val)).val 3).val == 1) then bindP (I_Integer (c64 1)) fun r10=>bindP (I_HullI y_2 r10) fun r11=>I_circleHull_L0 fu a1 r7 a0 (w64 (x_24.val + 1)) r11 else (bif ((iand .i64 (w64 ((listAt r7 x_24).val + a1.val)).val 3).val == 3) then bindP (I_Integer (c64 (-1))) fun r13=>bindP (I_HullI y_2 r13) fun r14=>I_circleHull_L0 fu a1 r7 a0 (w64 (x_24.val + 1)) r14 else I_circleHull_L0 fu a1 r7 a0 (w64 (x_24.val + 1)) y_2)) else y_2)
def I_circleHull (a0 : Iv) (a1 : I64) : Iv:=
  bindP (I_areAngles a0) fun r1=>(bif (!r1) then bindP (I_ring) fun r3=>r3 else bindP (I_circleValue a0.lo a1) fun r4=>bindP (I_circleValue a0.hi a1) fun r5=>bindP (I_HullI r4 r5) fun r6=>bindP (I_turnsIn a0) fun r7=>I_circleHull_L0 (((r7.length : Nat) : Int).toNat + 1) a1 r7 a0 (c64 0) r6)
def I_SinI (a0 : Iv) : Iv:=
  bindP (I_circleHull a0 (c64 0)) fun r1=>r1
def I_HalfI (a0 : Iv) : Iv:=
  bindP (I_IsWhole a0) fun r1=>(bif r1 then bindP (I_Whole) fun r2=>r2 else (⟨(ishr a0.lo 1),(ishr (w64 (a0.hi.val + 1)) 1)⟩ : Iv))
def I_CosI (a0 : Iv) : Iv:=
  bindP (I_circleHull a0 (c64 1)) fun r1=>r1
def I_twosOf_L1 : Nat → I64 → I64 → I64
  | 0,_,_=>(c64 0)
  | fu + 1,a0,x_e=>(bif (decide (x_e.val ≤ 0)) then (bif (decide ((ishl .i64 a0.val (w64 (0 - x_e.val)).val).val < 3221225472)) then I_twosOf_L1 fu a0 (w64 (x_e.val - 1)) else x_e) else x_e)
def I_twosOf_L0 : Nat → I64 → I64 → I64
  | 0,_,_=>(c64 0)
  | fu + 1,a0,x_e=>(bif (decide ((ishr a0 x_e.val).val ≥ 6442450944)) then I_twosOf_L0 fu a0 (w64 (x_e.val + 1)) else I_twosOf_L1 ((64 + x_e.val).toNat + 1) a0 x_e)
def I_twosOf (a0 : I64) : I64:=
  I_twosOf_L0 ((64 - (c64 0).val).toNat + 1) a0 (c64 0)
def I_FixFloor (a0 : I64) (a1 : I64) : I64 × Bool:=
  bindP (I_MulDivFloor a0 (c64 4294967296) a1) fun r1=>bindP (I_fixed r1.1 r1.2) fun r2=>(r2.1,r2.2)
def I_mulDivCeil (a0 : I64) (a1 : I64) (a2 : I64) : I64 × Bool:=
  bindP (I_WideMul a0 a1) fun r1=>bindP (I_WideDiv r1 a2) fun r2=>(bif (!r2.2.2) then ((c64 0),false) else bindP (I_WideInt r2.1) fun r3=>(bif (!r3.2) then ((c64 0),false) else (bif (decide (r2.2.1.val > 0)) then (bif (r3.1.val == 9223372036854775807) then ((c64 0),false) else (bif (decide (r2.2.1.val > 0)) then ((w64 (r3.1.val + 1)),true) else (r3.1,true))) else (bif (decide (r2.2.1.val > 0)) then ((w64 (r3.1.val + 1)),true) else (r3.1,true)))))
def I_FixCeil (a0 : I64) (a1 : I64) : I64 × Bool:=
  bindP (I_mulDivCeil a0 (c64 4294967296) a1) fun r1=>bindP (I_fixed r1.1 r1.2) fun r2=>(r2.1,r2.2)
def I_Quotient (a0 : I64) (a1 : I64) : Iv:=
  (bif (decide (a1.val < 0)) then (bif (decide ((w64 (0 - a1.val)).val < 0)) then bindP (I_Whole) fun r1=>r1 else (bif ((w64 (0 - a0.val)).val == (-9223372036854775808)) then bindP (I_Whole) fun r2=>r2 else bindP (I_FixFloor (w64 (0 - a0.val)) (w64 (0 - a1.val))) fun r3=>bindP (I_FixCeil (w64 (0 - a0.val)) (w64 (0 - a1.val))) fun r4=>(bif r3.2 then bindP (I_bounded r3.1 r4.1 r4.2) fun r5=>r5 else bindP (I_bounded r3.1 r4.1 false) fun r6=>r6))) else bindP (I_FixFloor a0 a1) fun r7=>bindP (I_FixCeil a0 a1) fun r8=>(bif r7.2 then bindP (I_bounded r7.1 r8.1 r8.2) fun r9=>r9 else bindP (I_bounded r7.1 r8.1 false) fun r10=>r10))
def I_LogTwoI_b (self : I64 → Iv) (a0 : I64) : Iv:=
  bindP (I_within a0 (c64 (-64)) (c64 64)) fun r1=>(bif (!r1) then bindP (I_Whole) fun r3=>r3 else (bif (decide (a0.val < 0)) then bindP (self (w64 (0 - a0.val))) fun r5=>bindP (I_NegI r5) fun r6=>r6 else bindP (I_MulFloor a0 (c64 1598288580650331957) (c64 29)) fun r7=>bindP (I_MulFloor (w64 (0 - a0.val)) (c64 1598288580650331958) (c64 29)) fun r8=>(⟨r7.1,(w64 (0 - r8.1.val))⟩ : Iv)))
def I_LogTwoI_r : Nat → I64 → Iv
  | 0,_=>(⟨(c64 0),(c64 0)⟩ : Iv)
  | fu + 1,a0=>I_LogTwoI_b (I_LogTwoI_r fu) a0
def I_LogTwoI (a0 : I64) : Iv:=I_LogTwoI_r 2 a0
def I_widened (a0 : Iv) (a1 : I64) : Iv:=
  bindP (I_ValidInterval a0) fun r1=>bindP (I_bounded (w64 (a0.lo.val - a1.val)) (w64 (a0.hi.val + a1.val)) r1) fun r2=>r2
def I_LogAt (a0 : I64) : Iv:=
  bindP (I_ValidFix a0) fun r1=>(bif (!r1) then bindP (I_Whole) fun r3=>r3 else (bif (decide (a0.val ≤ 0)) then bindP (I_Whole) fun r5=>r5 else bindP (I_twosOf a0) fun r6=>bindP (I_at a0) fun r7=>(bif (decide (r6.val > 0)) then bindP (I_Integer (c64 1)) fun r9=>bindP (I_SubI (⟨(ishr a0 r6.val),(w64 (0 - (ishr (w64 (0 - a0.val)) r6.val).val))⟩ : Iv) r9) fun r10=>bindP (I_Integer (c64 1)) fun r11=>bindP (I_AddI (⟨(ishr a0 r6.val),(w64 (0 - (ishr (w64 (0 - a0.val)) r6.val).val))⟩ : Iv) r11) fun r12=>bindP (I_DivI r10 r12) fun r13=>bindP (I_SqrI r13) fun r14=>bindP (I_Quotient (c64 1) (c64 11)) fun r15=>bindP (I_Quotient (c64 1) (c64 9)) fun r16=>bindP (I_MulI r14 r15) fun r17=>bindP (I_AddI r16 r17) fun r18=>bindP (I_Quotient (c64 1) (c64 7)) fun r19=>bindP (I_MulI r14 r18) fun r20=>bindP (I_AddI r19 r20) fun r21=>bindP (I_Quotient (c64 1) (c64 5)) fun r22=>bindP (I_MulI r14 r21) fun r23=>bindP (I_AddI r22 r23) fun r24=>bindP (I_Quotient (c64 1) (c64 3)) fun r25=>bindP (I_MulI r14 r24) fun r26=>bindP (I_AddI r25 r26) fun r27=>bindP (I_Quotient (c64 1) (c64 1)) fun r28=>bindP (I_MulI r14 r27) fun r29=>bindP (I_AddI r28 r29) fun r30=>bindP (I_LogTwoI r6) fun r31=>bindP (I_Integer (c64 2)) fun r32=>bindP (I_MulI r32 r13) fun r33=>bindP (I_MulI r33 r30) fun r34=>bindP (I_widened r34 (c64 1)) fun r35=>bindP (I_AddI r31 r35) fun r36=>r36 else bindP (I_at (ishl .i64 a0.val (w64 (0 - r6.val)).val)) fun r37=>bindP (I_Integer (c64 1)) fun r38=>bindP (I_SubI r37 r38) fun r39=>bindP (I_Integer (c64 1)) fun r40=>bindP (I_AddI r37 r40) fun r41=>bindP (I_DivI r39 r41) fun r42=>bindP (I_SqrI r42) fun r43=>bindP (I_Quotient (c64 1) (c64 11)) fun r44=>bindP (I_Quotient (c64 1) (c64 9)) fun r45=>bindP (I_MulI r43 r44) fun r46=>bindP (I_AddI r45 r46) fun r47=>bindP (I_Quotient (c64 1) (c64 7)) fun r48=>bindP (I_MulI r43 r47) fun r49=>bindP (I_AddI r48 r49) fun r50=>bindP (I_Quotient (c64 1) (c64 5)) fun r51=>bindP (I_MulI r43 r50) fun r52=>bindP (I_AddI r51 r52) fun r53=>bindP (I_Quotient (c64 1) (c64 3)) fun r54=>bindP (I_MulI r43 r53) fun r55=>bindP (I_AddI r54 r55) fun r56=>bindP (I_Quotient (c64 1) (c64 1)) fun r57=>bindP (I_MulI r43 r56) fun r58=>bindP (I_AddI r57 r58) fun r59=>bindP (I_LogTwoI r6) fun r60=>bindP (I_Integer (c64 2)) fun r61=>bindP (I_MulI r61 r42) fun r62=>bindP (I_MulI r62 r59) fun r63=>bindP (I_widened r63 (c64 1)) fun r64=>bindP (I_AddI r60 r64) fun r65=>r65)))
def I_monotonic__impl_LogAt (a0 : Iv) : Iv:=
  bindP (I_IsWhole a0) fun r1=>(bif r1 then bindP (I_Whole) fun r2=>r2 else bindP (I_LogAt a0.lo) fun r3=>bindP (I_LogAt a0.hi) fun r4=>bindP (I_areBounded r3 r4) fun r5=>(bif (!r5) then bindP (I_Whole) fun r6=>r6 else bindP (I_bounded r3.lo r4.hi true) fun r7=>r7))
def I_LogI (a0 : Iv) : Iv:=
  bindP (I_monotonic__impl_LogAt a0) fun r1=>r1
def I_SinAt (a0 : I64) : Iv:=
  bindP (I_circleValue a0 (c64 0)) fun r1=>r1
def I_CosAt (a0 : I64) : Iv:=
  bindP (I_circleValue a0 (c64 1)) fun r1=>r1
def I_TanI_L0 : Nat → List I64 → Iv → I64 → Iv → Iv
  | 0,_,_,_,_=>(⟨(c64 0),(c64 0)⟩ : Iv)
  | fu + 1,r4,a0,x_12,y_1=>(bif (decide (x_12.val < (((r4.length : Nat) : Int)))) then (bif ((iand .i64 (listAt r4 x_12).val 1).val == 1) then bindP (I_Whole) fun r7=>r7 else I_TanI_L0 fu r4 a0 (w64 (x_12.val + 1)) y_1) else bindP (I_SinAt a0.lo) fun r8=>bindP (I_CosAt a0.lo) fun r9=>bindP (I_DivI r8 r9) fun r10=>bindP (I_SinAt a0.hi) fun r11=>bindP (I_CosAt a0.hi) fun r12=>bindP (I_DivI r11 r12) fun r13=>bindP (I_HullI r10 r13) fun r14=>r14)
def I_TanI (a0 : Iv) : Iv:=
  bindP (I_areAngles a0) fun r1=>(bif (!r1) then bindP (I_Whole) fun r3=>r3 else bindP (I_turnsIn a0) fun r4=>I_TanI_L0 (((r4.length : Nat) : Int).toNat + 1) r4 a0 (c64 0) (⟨(c64 0),(c64 0)⟩ : Iv))
def I_WideSqrt_L0 : Nat → Wd → U64 → I64 → U64 × Bool
  | 0,_,_,_=>((cu64 0),false)
  | fu + 1,a0,x_root,x_i=>(bif (decide (x_i.val ≥ 0)) then bindP (F_bits_Mul64 (ior .u64 x_root.val (ishl .u64 1 x_i.val).val) (ior .u64 x_root.val (ishl .u64 1 x_i.val).val)) fun r3=>(bif (decide (r3.1.val < (wu64 a0.hi.val).val)) then I_WideSqrt_L0 fu a0 (ior .u64 x_root.val (ishl .u64 1 x_i.val).val) (w64 (x_i.val - 1)) else (bif (r3.1.val == (wu64 a0.hi.val).val) then (bif (decide (r3.2.val ≤ a0.lo.val)) then I_WideSqrt_L0 fu a0 (ior .u64 x_root.val (ishl .u64 1 x_i.val).val) (w64 (x_i.val - 1)) else I_WideSqrt_L0 fu a0 x_root (w64 (x_i.val - 1))) else I_WideSqrt_L0 fu a0 x_root (w64 (x_i.val - 1)))) else (x_root,true))
def I_WideSqrt (a0 : Wd) : U64 × Bool:=
  (bif (decide (a0.hi.val < 0)) then ((cu64 0),false) else I_WideSqrt_L0 65 a0 (cu64 0) (c64 63))
def I_SqrtFloor (a0 : I64) (a1 : I64) : I64 × Bool:=
  (bif (decide (a0.val < 0)) then ((c64 0),false) else (bif (decide (a1.val < 0)) then ((c64 0),false) else bindP (I_WideMul a0 a1) fun r1=>bindP (I_WideSqrt r1) fun r2=>((w64 r2.1.val),r2.2)))
def I_SqrtDown (a0 : I64) : I64 × Bool:=
  bindP (I_ValidFix a0) fun r1=>(bif (!r1) then ((c64 0),false) else bindP (I_SqrtFloor a0 (c64 4294967296)) fun r2=>bindP (I_fixed r2.1 r2.2) fun r3=>(r3.1,r3.2))
def I_SqrtUp (a0 : I64) : I64 × Bool:=
  bindP (I_SqrtDown a0) fun r1=>(bif r1.2 then bindP (I_WideMul r1.1 r1.1) fun r2=>bindP (I_WideMul a0 (c64 4294967296)) fun r3=>(bif (!((r2.hi.val == r3.hi.val) && (r2.lo.val == r3.lo.val))) then bindP (I_fixed (w64 (r1.1.val + 1)) r1.2) fun r4=>(r4.1,r4.2) else bindP (I_fixed r1.1 r1.2) fun r5=>(r5.1,r5.2)) else bindP (I_fixed r1.1 r1.2) fun r6=>(r6.1,r6.2))
def I_SqrtI (a0 : Iv) : Iv:=
  bindP (I_IsWhole a0) fun r1=>(bif r1 then bindP (I_Whole) fun r2=>r2 else (bif (decide (a0.lo.val < 0)) then bindP (I_Whole) fun r3=>r3 else bindP (I_SqrtDown a0.lo) fun r4=>bindP (I_SqrtUp a0.hi) fun r5=>(bif r4.2 then bindP (I_bounded r4.1 r5.1 r5.2) fun r6=>r6 else bindP (I_bounded r4.1 r5.1 false) fun r7=>r7)))
def I_AsinhI_1 (a0 : I64) : Iv:=
  (bif (decide (a0.val ≤ 35184372088832)) then bindP (I_at a0) fun r1=>bindP (I_at a0) fun r2=>bindP (I_SqrI r2) fun r3=>bindP (I_Integer (c64 1)) fun r4=>bindP (I_AddI r3 r4) fun r5=>bindP (I_SqrtI r5) fun r6=>bindP (I_AddI r1 r6) fun r7=>bindP (I_LogI r7) fun r8=>r8 else bindP (I_LogTwoI (c64 1)) fun r9=>bindP (I_LogAt a0) fun r10=>bindP (I_AddI r9 r10) fun r11=>bindP (I_AddI r11 (⟨(c64 0),(c64 16)⟩ : Iv)) fun r12=>r12)
def I_odd_1__p_impl_AsinhI_1 (a0 : I64) : Iv:=
  (bif (decide (a0.val < 0)) then bindP (I_AsinhI_1 (w64 (0 - a0.val))) fun r1=>bindP (I_NegI r1) fun r2=>r2 else bindP (I_AsinhI_1 a0) fun r3=>r3)
def I_monotonic__impl_odd_1_p_impl_AsinhI_1 (a0 : Iv) : Iv:=
  bindP (I_IsWhole a0) fun r1=>(bif r1 then bindP (I_Whole) fun r2=>r2 else bindP (I_odd_1__p_impl_AsinhI_1 a0.lo) fun r3=>bindP (I_odd_1__p_impl_AsinhI_1 a0.hi) fun r4=>bindP (I_areBounded r3 r4) fun r5=>(bif (!r5) then bindP (I_Whole) fun r6=>r6 else bindP (I_bounded r3.lo r4.hi true) fun r7=>r7))
def I_AsinhI (a0 : Iv) : Iv:=
  bindP (I_monotonic__impl_odd_1_p_impl_AsinhI_1 a0) fun r1=>r1
def I_isometricSphere (a0 : Iv) : Iv:=
  bindP (I_TanI a0) fun r1=>bindP (I_AsinhI r1) fun r2=>r2
def I_conic_cone__pCn (b0 : Cn) : Iv:=
  (bif (b0.p.kind.val == 10) then bindP (I_SinI b0.a) fun r1=>bindP (I_SinI b0.b) fun r2=>bindP (I_AddI r1 r2) fun r3=>bindP (I_HalfI r3) fun r4=>r4 else (bif (b0.p.lat1.val == b0.p.lat2.val) then bindP (I_SinI b0.a) fun r5=>r5 else (bif (b0.p.kind.val == 11) then bindP (I_CosI b0.a) fun r6=>bindP (I_LogI r6) fun r7=>bindP (I_CosI b0.b) fun r8=>bindP (I_LogI r8) fun r9=>bindP (I_SubI r7 r9) fun r10=>bindP (I_isometricSphere b0.b) fun r11=>bindP (I_isometricSphere b0.a) fun r12=>bindP (I_SubI r11 r12) fun r13=>bindP (I_DivI r10 r13) fun r14=>r14 else bindP (I_CosI b0.a) fun r15=>bindP (I_CosI b0.b) fun r16=>bindP (I_SubI r15 r16) fun r17=>bindP (I_SubI b0.b b0.a) fun r18=>bindP (I_DivI r17 r18) fun r19=>r19)))
def I_times (a0 : I64) (a1 : Iv) : Iv:=
  bindP (I_Integer a0) fun r1=>bindP (I_MulI r1 a1) fun r2=>r2
end Go.Proofs.YtbipmdgocmdgdaaGreat.Abs
