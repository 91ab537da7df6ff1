/- The functions, on numbers; part 3 (written by w.py). -/
import Derived.Test.YtfhnlkinjbakgaaGreatMsF2
set_option linter.unusedVariables false
set_option linter.unusedSimpArgs false
namespace Go.Proofs.YtfhnlkinjbakgaaGreat.Abs
open Go Go.RowKit
def S_FlatteningI (a0 : El) : Iv:=
  bindP (S_l12Ok a0) fun r1=>(bif (!r1) then bindP (S_l04Whole) fun r2=>r2 else bindP (S_Quotient a0.num a0.den) fun r3=>r3)
def S_SubI (a0 : Iv) (a1 : Iv) : Iv:=
  bindP (S_l04Ok a0) fun r1=>(bif (!r1) then bindP (S_l04Whole) fun r2=>r2 else bindP (S_l04Ok a1) fun r3=>(bif (!r3) then bindP (S_l04Whole) fun r4=>r4 else bindP (S_l04Make (w64 (a0.lo.val - a1.hi.val)) (w64 (a0.hi.val - a1.lo.val))) fun r5=>r5))
def S_EccI (a0 : El) : Iv:=
  bindP (S_FlatteningI a0) fun r1=>bindP (S_Integer (c64 2)) fun r2=>bindP (S_SubI r2 r1) fun r3=>bindP (S_MulI r1 r3) fun r4=>r4
def S_ValidInterval (a0 : Iv) : Bool:=
  bindP (S_l04Ok a0) fun r1=>r1
def S_l06Angle (a0 : I64) : Bool:=
  bindP (S_l00In a0 (c64 (-1099511627776)) (c64 1099511627776)) fun r1=>r1
def S_l06Fits (a0 : Iv) : Bool:=
  bindP (S_ValidInterval a0) fun r1=>(bif r1 then bindP (S_l06Angle a0.lo) fun r2=>(bif r2 then bindP (S_l06Angle a0.hi) fun r3=>r3 else false) else false)
def S_l06Ring : Iv:=
  (⟨(c64 (-4294967296)),(c64 4294967296)⟩ : Iv)
def S_l06Floor (a0 : I64) (a1 : I64) : I64:=
  (bif (decide ((imod a0 a1.val).val < 0)) then (w64 ((w64 (Int.tdiv a0.val a1.val)).val - 1)) else (w64 (Int.tdiv a0.val a1.val)))
def S_QuarterOf (a0 : I64) : I64:=
  bindP (S_l06Angle a0) fun r1=>(bif (!r1) then (c64 0) else bindP (S_l06Floor (w64 (a0.val + 3373259426)) (c64 6746518852)) fun r3=>r3)
def S_l05At (a0 : I64) : Iv:=
  (⟨a0,a0⟩ : Iv)
def S_TurnI (a0 : I64) : Iv:=
  bindP (S_l00In a0 (c64 (-4096)) (c64 4096)) fun r1=>(bif (!r1) then bindP (S_Whole) fun r3=>r3 else bindP (S_l05Turn a0) fun r4=>r4)
def S_InsideI (a0 : Iv) (a1 : Iv) : Bool:=
  bindP (S_l04Ok a1) fun r1=>(bif (!r1) then true else bindP (S_l04Ok a0) fun r2=>(bif r2 then (bif (decide (a1.lo.val ≤ a0.lo.val)) then (decide (a0.hi.val ≤ a1.hi.val)) else false) else false))
def S_l04Has (a0 : Iv) (a1 : I64) : Bool:=
  bindP (S_l00In a1 a0.lo a0.hi) fun r1=>r1
def S_l04Ends (a0 : Iv) : I64 × I64:=
  bindP (S_l00Max a0.lo (w64 (0 - a0.lo.val))) fun r1=>bindP (S_l00Max a0.hi (w64 (0 - a0.hi.val))) fun r2=>bindP (S_l04Has a0 (c64 0)) fun r3=>(bif r3 then bindP (S_l00Max r1 r2) fun r4=>((c64 0),r4) else bindP (S_l00Min r1 r2) fun r5=>bindP (S_l00Max r1 r2) fun r6=>(r5,r6))
def S_SqrI (a0 : Iv) : Iv:=
  bindP (S_l04Ok a0) fun r1=>(bif (!r1) then bindP (S_l04Whole) fun r2=>r2 else bindP (S_l04Ends a0) fun r3=>bindP (S_l03MulDown r3.1 r3.1) fun r4=>bindP (S_l03MulUp r3.2 r3.2) fun r5=>(bif (!r4.2) then bindP (S_l04Whole) fun r6=>r6 else (bif (!r5.2) then bindP (S_l04Whole) fun r7=>r7 else bindP (S_l04Make r4.1 r5.1) fun r8=>r8)))
def S_l03DivDown (a0 : I64) (a1 : I64) : I64 × Bool:=
  bindP (S_l03Ok a0) fun r1=>(bif (!r1) then ((c64 0),false) else bindP (S_l03Ok a1) fun r2=>(bif (!r2) then ((c64 0),false) else (bif (a1.val == 0) then ((c64 0),false) else (bif (decide (a1.val < 0)) then bindP (S_MulDivFloor (w64 (0 - a0.val)) (c64 4294967296) (w64 (0 - a1.val))) fun r3=>bindP (S_l03End r3.1 r3.2) fun r4=>(r4.1,r4.2) else bindP (S_MulDivFloor a0 (c64 4294967296) a1) fun r5=>bindP (S_l03End r5.1 r5.2) fun r6=>(r6.1,r6.2)))))
def S_l03DivUp (a0 : I64) (a1 : I64) : I64 × Bool:=
  bindP (S_l03Ok a0) fun r1=>(bif (!r1) then ((c64 0),false) else bindP (S_l03DivDown (w64 (0 - a0.val)) a1) fun r2=>((w64 (0 - r2.1.val)),r2.2))
def S_DivI (a0 : Iv) (a1 : Iv) : Iv:=
  bindP (S_l04Ok a0) fun r1=>(bif (!r1) then bindP (S_l04Whole) fun r2=>r2 else bindP (S_l04Ok a1) fun r3=>(bif (!r3) then bindP (S_l04Whole) fun r4=>r4 else bindP (S_l04Has a1 (c64 0)) fun r5=>(bif r5 then bindP (S_l04Whole) fun r6=>r6 else bindP (S_l03DivDown a0.lo a1.lo) fun r7=>bindP (S_l03DivUp a0.lo a1.lo) fun r8=>(bif (!r7.2) then bindP (S_l04Whole) fun r9=>r9 else (bif (!r8.2) then bindP (S_l04Whole) fun r10=>r10 else bindP (S_l00Min (c64 1152921504606846976) r7.1) fun r11=>bindP (S_l00Max (c64 (-1152921504606846976)) r8.1) fun r12=>bindP (S_l03DivDown a0.lo a1.hi) fun r13=>bindP (S_l03DivUp a0.lo a1.hi) fun r14=>(bif (!r13.2) then bindP (S_l04Whole) fun r15=>r15 else (bif (!r14.2) then bindP (S_l04Whole) fun r16=>r16 else bindP (S_l00Min r11 r13.1) fun r17=>bindP (S_l00Max r12 r14.1) fun r18=>bindP (S_l03DivDown a0.hi a1.lo) fun r19=>bindP (S_l03DivUp a0.hi a1.lo) fun r20=>(bif (!r19.2) then bindP (S_l04Whole) fun r21=>r21 else (bif (!r20.2) then bindP (S_l04Whole) fun r22=>r22 else bindP (S_l00Min r17 r19.1) fun r23=>bindP (S_l00Max r18 r20.1) fun r24=>bindP (S_l03DivDown a0.hi a1.hi) fun r25=>bindP (S_l03DivUp a0.hi a1.hi) fun r26=>(bif (!r25.2) then bindP (S_l04Whole) fun r27=>r27 else (bif (!r26.2) then bindP (S_l04Whole) fun r28=>r28 else bindP (S_l00Min r23 r25.1) fun r29=>bindP (S_l00Max r24 r26.1) fun r30=>bindP (S_l04Make r29 r30) fun r31=>r31)))))))))))
def S_l06Series (a0 : Iv) (a1 : I64) : Iv:=
  bindP (S_Integer (c64 1)) fun r1=>bindP (S_Integer (c64 1)) fun r2=>bindP (S_Integer (w64 ((w64 (16 + a1.val)).val * (w64 ((w64 (16 + a1.val)).val + 1)).val))) fun r3=>bindP (S_DivI a0 r3) fun r4=>bindP (S_MulI r4 r1) fun r5=>bindP (S_SubI r2 r5) fun r6=>bindP (S_Integer (c64 1)) fun r7=>bindP (S_Integer (w64 ((w64 (14 + a1.val)).val * (w64 ((w64 (14 + a1.val)).val + 1)).val))) fun r8=>bindP (S_DivI a0 r8) fun r9=>bindP (S_MulI r9 r6) fun r10=>bindP (S_SubI r7 r10) fun r11=>bindP (S_Integer (c64 1)) fun r12=>bindP (S_Integer (w64 ((w64 (12 + a1.val)).val * (w64 ((w64 (12 + a1.val)).val + 1)).val))) fun r13=>bindP (S_DivI a0 r13) fun r14=>bindP (S_MulI r14 r11) fun r15=>bindP (S_SubI r12 r15) fun r16=>bindP (S_Integer (c64 1)) fun r17=>bindP (S_Integer (w64 ((w64 (10 + a1.val)).val * (w64 ((w64 (10 + a1.val)).val + 1)).val))) fun r18=>bindP (S_DivI a0 r18) fun r19=>bindP (S_MulI r19 r16) fun r20=>bindP (S_SubI r17 r20) fun r21=>bindP (S_Integer (c64 1)) fun r22=>bindP (S_Integer (w64 ((w64 (8 + a1.val)).val * (w64 ((w64 (8 + a1.val)).val + 1)).val))) fun r23=>bindP (S_DivI a0 r23) fun r24=>bindP (S_MulI r24 r21) fun r25=>bindP (S_SubI r22 r25) fun r26=>bindP (S_Integer (c64 1)) fun r27=>bindP (S_Integer (w64 ((w64 (6 + a1.val)).val * (w64 ((w64 (6 + a1.val)).val + 1)).val))) fun r28=>bindP (S_DivI a0 r28) fun r29=>bindP (S_MulI r29 r26) fun r30=>bindP (S_SubI r27 r30) fun r31=>bindP (S_Integer (c64 1)) fun r32=>bindP (S_Integer (w64 ((w64 (4 + a1.val)).val * (w64 ((w64 (4 + a1.val)).val + 1)).val))) fun r33=>bindP (S_DivI a0 r33) fun r34=>bindP (S_MulI r34 r31) fun r35=>bindP (S_SubI r32 r35) fun r36=>bindP (S_Integer (c64 1)) fun r37=>bindP (S_Integer (w64 ((w64 (2 + a1.val)).val * (w64 ((w64 (2 + a1.val)).val + 1)).val))) fun r38=>bindP (S_DivI a0 r38) fun r39=>bindP (S_MulI r39 r36) fun r40=>bindP (S_SubI r37 r40) fun r41=>r41
def S_l06Tiny : Iv:=
  (⟨(c64 (-1)),(c64 1)⟩ : Iv)
def S_SinSeries (a0 : Iv) : Iv:=
  bindP (S_l06Ring) fun r1=>bindP (S_InsideI a0 r1) fun r2=>(bif (!r2) then bindP (S_Whole) fun r3=>r3 else bindP (S_SqrI a0) fun r4=>bindP (S_l06Series r4 (c64 0)) fun r5=>bindP (S_MulI a0 r5) fun r6=>bindP (S_l06Tiny) fun r7=>bindP (S_AddI r6 r7) fun r8=>r8)
def S_MeetI (a0 : Iv) (a1 : Iv) : Iv × Bool:=
  bindP (S_l04Ok a0) fun r1=>(bif (!r1) then bindP (S_l04Ok a1) fun r2=>(bif (!r2) then bindP (S_l04Whole) fun r3=>(r3,true) else bindP (S_l04Ok a0) fun r4=>(bif (!r4) then (a1,true) else bindP (S_l04Ok a1) fun r5=>(bif (!r5) then (a0,true) else bindP (S_l00Max a0.lo a1.lo) fun r6=>bindP (S_l00Min a0.hi a1.hi) fun r7=>(bif (decide (r6.val > r7.val)) then ((⟨(c64 0),(c64 0)⟩ : Iv),false) else ((⟨r6,r7⟩ : Iv),true))))) else bindP (S_l04Ok a0) fun r8=>(bif (!r8) then (a1,true) else bindP (S_l04Ok a1) fun r9=>(bif (!r9) then (a0,true) else bindP (S_l00Max a0.lo a1.lo) fun r10=>bindP (S_l00Min a0.hi a1.hi) fun r11=>(bif (decide (r10.val > r11.val)) then ((⟨(c64 0),(c64 0)⟩ : Iv),false) else ((⟨r10,r11⟩ : Iv),true)))))
def S_l06Meet (a0 : Iv) : Iv:=
  bindP (S_l06Ring) fun r1=>bindP (S_MeetI a0 r1) fun r2=>(bif (!r2.2) then bindP (S_l06Ring) fun r3=>r3 else r2.1)
def S_CosSeries (a0 : Iv) : Iv:=
  bindP (S_l06Ring) fun r1=>bindP (S_InsideI a0 r1) fun r2=>(bif (!r2) then bindP (S_Whole) fun r3=>r3 else bindP (S_SqrI a0) fun r4=>bindP (S_l06Series r4 (c64 (-1))) fun r5=>bindP (S_l06Tiny) fun r6=>bindP (S_AddI r5 r6) fun r7=>r7)
def S_l06At (a0 : I64) (a1 : I64) : Iv:=
  bindP (S_l06Angle a0) fun r1=>(bif (!r1) then bindP (S_l06Ring) fun r2=>r2 else bindP (S_QuarterOf a0) fun r3=>bindP (S_l05At a0) fun r4=>bindP (S_TurnI r3) fun r5=>bindP (S_SubI r4 r5) fun r6=>(bif ((iand .i64 (w64 (r3.val + a1.val)).val 3).val == 0) then bindP (S_SinSeries r6) fun r7=>bindP (S_l06Meet r7) fun r8=>r8 else (bif ((iand .i64 (w64 (r3.val + a1.val)).val 3).val == 1) then bindP (S_CosSeries r6) fun r9=>bindP (S_l06Meet r9) fun r10=>r10 else (bif ((iand .i64 (w64 (r3.val + a1.val)).val 3).val == 2) then bindP (S_SinSeries r6) fun r11=>bindP (S_NegI r11) fun r12=>bindP (S_l06Meet r12) fun r13=>r13 else bindP (S_CosSeries r6) fun r14=>bindP (S_NegI r14) fun r15=>bindP (S_l06Meet r15) fun r16=>r16))))
def S_HullI (a0 : Iv) (a1 : Iv) : Iv:=
  bindP (S_l04Ok a0) fun r1=>(bif (!r1) then bindP (S_l04Whole) fun r2=>r2 else bindP (S_l04Ok a1) fun r3=>(bif (!r3) then bindP (S_l04Whole) fun r4=>r4 else bindP (S_l00Min a0.lo a1.lo) fun r5=>bindP (S_l00Max a0.hi a1.hi) fun r6=>bindP (S_l04Make r5 r6) fun r7=>r7))
def S_OverlapI (a0 : Iv) (a1 : Iv) : Bool:=
  bindP (S_MeetI a0 a1) fun r1=>r1.2
def S_l06Over_L0 : Nat → I64 → Iv → I64 → Iv → Iv
  | 0,_,_,_,_=>(⟨(c64 0),(c64 0)⟩ : Iv)
  | fu + 1,a1,a0,x_k,y_2=>bindP (S_QuarterOf a0.hi) fun r8=>(bif (decide (x_k.val ≤ (w64 (r8.val + 1)).val)) then bindP (S_TurnI x_k) fun r10=>bindP (S_OverlapI r10 a0) fun r11=>(bif (!r11) then S_l06Over_L0 fu a1 a0 (w64 (x_k.val + 1)) y_2 else (bif ((iand .i64 (w64 (x_k.val + a1.val)).val 3).val == 1) then bindP (S_Integer (c64 1)) fun r14=>bindP (S_HullI y_2 r14) fun r15=>S_l06Over_L0 fu a1 a0 (w64 (x_k.val + 1)) r15 else (bif ((iand .i64 (w64 (x_k.val + a1.val)).val 3).val == 3) then bindP (S_Integer (c64 (-1))) fun r17=>bindP (S_HullI y_2 r17) fun r18=>S_l06Over_L0 fu a1 a0 (w64 (x_k.val + 1)) r18 else S_l06Over_L0 fu a1 a0 (w64 (x_k.val + 1)) y_2))) else y_2)
def S_l06Over (a0 : Iv) (a1 : I64) : Iv:=
  bindP (S_l06Fits a0) fun r1=>(bif (!r1) then bindP (S_l06Ring) fun r3=>r3 else bindP (S_l06At a0.lo a1) fun r4=>bindP (S_l06At a0.hi a1) fun r5=>bindP (S_HullI r4 r5) fun r6=>bindP (S_QuarterOf a0.lo) fun r7=>S_l06Over_L0 ((2000 - (w64 (r7.val - 1)).val).toNat + 1) a1 a0 (w64 (r7.val - 1)) r6)
def S_SinI (a0 : Iv) : Iv:=
  bindP (S_l06Over a0 (c64 0)) fun r1=>r1
def S_l12W (a0 : El) (a1 : Iv) : Iv:=
  bindP (S_Integer (c64 1)) fun r1=>bindP (S_EccI a0) fun r2=>bindP (S_SinI a1) fun r3=>bindP (S_SqrI r3) fun r4=>bindP (S_MulI r2 r4) fun r5=>bindP (S_SubI r1 r5) fun r6=>r6
def S_l02Root_L0 : Nat → Wd → U64 → I64 → U64
  | 0,_,_,_=>(cu64 0)
  | fu + 1,a0,x_out,x_i=>(bif (decide (x_i.val ≥ 0)) then bindP (S_l02Times (ior .u64 x_out.val (ishl .u64 1 (wu64 x_i.val).val).val) (ior .u64 x_out.val (ishl .u64 1 (wu64 x_i.val).val).val)) fun r2=>(bif (decide (r2.1.val < (wu64 a0.hi.val).val)) then S_l02Root_L0 fu a0 (ior .u64 x_out.val (ishl .u64 1 (wu64 x_i.val).val).val) (w64 (x_i.val - 1)) else (bif (r2.1.val == (wu64 a0.hi.val).val) then (bif (decide (r2.2.val ≤ a0.lo.val)) then S_l02Root_L0 fu a0 (ior .u64 x_out.val (ishl .u64 1 (wu64 x_i.val).val).val) (w64 (x_i.val - 1)) else S_l02Root_L0 fu a0 x_out (w64 (x_i.val - 1))) else S_l02Root_L0 fu a0 x_out (w64 (x_i.val - 1)))) else x_out)
def S_l02Root (a0 : Wd) : U64:=
  S_l02Root_L0 65 a0 (cu64 0) (c64 63)
def S_SqrtFloor (a0 : I64) (a1 : I64) : I64 × Bool:=
  (bif (decide (a0.val < 0)) then ((c64 0),false) else (bif (decide (a1.val < 0)) then ((c64 0),false) else bindP (S_l02Mul a0 a1) fun r1=>bindP (S_l02Root r1) fun r2=>((w64 r2.val),true)))
def S_l03SqrtDown (a0 : I64) : I64 × Bool:=
  bindP (S_l00In a0 (c64 0) (c64 1152921504606846976)) fun r1=>(bif (!r1) then ((c64 0),false) else bindP (S_SqrtFloor a0 (c64 4294967296)) fun r2=>(r2.1,r2.2))
def S_l03SqrtUp (a0 : I64) : I64 × Bool:=
  bindP (S_l03SqrtDown a0) fun r1=>(bif (!r1.2) then ((c64 0),false) else bindP (S_MulFloor r1.1 r1.1 (c64 32)) fun r2=>(bif (r2.1.val != a0.val) then ((w64 (r1.1.val + 1)),true) else (bif ((iand .i64 (w64 (r1.1.val * r1.1.val)).val 4294967295).val != 0) then ((w64 (r1.1.val + 1)),true) else (r1.1,true))))
def S_SqrtI (a0 : Iv) : Iv:=
  bindP (S_l04Ok a0) fun r1=>(bif (!r1) then bindP (S_l04Whole) fun r2=>r2 else (bif (decide (a0.lo.val < 0)) then bindP (S_l04Whole) fun r3=>r3 else bindP (S_l03SqrtDown a0.lo) fun r4=>bindP (S_l03SqrtUp a0.hi) fun r5=>bindP (S_l04Make r4.1 r5.1) fun r6=>r6))
def S_RadiusN (a0 : El) (a1 : Iv) : Iv:=
  bindP (S_MajorI a0) fun r1=>bindP (S_l12W a0 a1) fun r2=>bindP (S_SqrtI r2) fun r3=>bindP (S_DivI r1 r3) fun r4=>r4
def S_CosI (a0 : Iv) : Iv:=
  bindP (S_l06Over a0 (c64 1)) fun r1=>r1
def S_l14To__pPl (b0 : Pl) (a0 : El) : Vc:=
  bindP (S_RadiansOf b0.point.lat) fun r1=>bindP (S_RadiansOf b0.point.lon) fun r2=>bindP (S_RadiusN a0 r1) fun r3=>bindP (S_Quotient b0.height (c64 1000)) fun r4=>bindP (S_AddI r3 r4) fun r5=>bindP (S_CosI r1) fun r6=>bindP (S_MulI r5 r6) fun r7=>bindP (S_Integer (c64 1)) fun r8=>bindP (S_EccI a0) fun r9=>bindP (S_SubI r8 r9) fun r10=>bindP (S_MulI r3 r10) fun r11=>bindP (S_AddI r11 r4) fun r12=>bindP (S_SinI r1) fun r13=>bindP (S_MulI r12 r13) fun r14=>bindP (S_CosI r2) fun r15=>bindP (S_MulI r7 r15) fun r16=>bindP (S_SinI r2) fun r17=>bindP (S_MulI r7 r17) fun r18=>(⟨r16,r18,r14⟩ : Vc)
def S_DotV (a0 : Vc) (a1 : Vc) : Iv:=
  bindP (S_MulI a0.x a1.x) fun r1=>bindP (S_MulI a0.y a1.y) fun r2=>bindP (S_AddI r1 r2) fun r3=>bindP (S_MulI a0.z a1.z) fun r4=>bindP (S_AddI r3 r4) fun r5=>r5
def S_ApplyM (a0 : Mt) (a1 : Vc) : Vc:=
  bindP (S_DotV a0.a a1) fun r1=>bindP (S_DotV a0.b a1) fun r2=>bindP (S_DotV a0.c a1) fun r3=>(⟨r1,r2,r3⟩ : Vc)
def S_AddV (a0 : Vc) (a1 : Vc) : Vc:=
  bindP (S_AddI a0.x a1.x) fun r1=>bindP (S_AddI a0.y a1.y) fun r2=>bindP (S_AddI a0.z a1.z) fun r3=>(⟨r1,r2,r3⟩ : Vc)
def S_ApplyAffine (a0 : Af) (a1 : Vc) : Vc:=
  bindP (S_ApplyM a0.m a1) fun r1=>bindP (S_AddV r1 a0.t) fun r2=>r2
def S_IsWhole (a0 : Iv) : Bool:=
  bindP (S_l04Ok a0) fun r1=>(!r1)
def S_AbsI (a0 : Iv) : Iv:=
  bindP (S_l04Ok a0) fun r1=>(bif (!r1) then bindP (S_l04Whole) fun r2=>r2 else bindP (S_l04Ends a0) fun r3=>bindP (S_l04Make r3.1 r3.2) fun r4=>r4)
def S_l10Ends (a0 : Iv) : I64 × I64:=
  bindP (S_AbsI a0) fun r1=>(r1.lo,r1.hi)
def S_l10Sum (a0 : I64) (a1 : I64) (a2 : I64) : Wd:=
  bindP (S_l02Mul a0 a0) fun r1=>bindP (S_l02Mul a1 a1) fun r2=>bindP (S_l02Plus r1 r2) fun r3=>bindP (S_l02Mul a2 a2) fun r4=>bindP (S_l02Plus r3 r4) fun r5=>r5
def S_NormV (a0 : Vc) : Iv:=
  bindP (S_IsWhole a0.x) fun r1=>(bif r1 then bindP (S_Whole) fun r2=>r2 else bindP (S_IsWhole a0.y) fun r3=>(bif r3 then bindP (S_Whole) fun r4=>r4 else bindP (S_IsWhole a0.z) fun r5=>(bif r5 then bindP (S_Whole) fun r6=>r6 else bindP (S_l10Ends a0.x) fun r7=>bindP (S_l10Ends a0.y) fun r8=>bindP (S_l10Ends a0.z) fun r9=>bindP (S_l10Sum r7.1 r8.1 r9.1) fun r10=>bindP (S_l02Root r10) fun r11=>bindP (S_l10Sum r7.2 r8.2 r9.2) fun r12=>bindP (S_l02Root r12) fun r13=>bindP (S_l02Mul (w64 r13.val) (w64 r13.val)) fun r14=>(bif (!((r14.hi.val == r12.hi.val) && (r14.lo.val == r12.lo.val))) then (bif (decide ((w64 ((w64 r13.val).val + 1)).val ≥ 1152921504606846976)) then bindP (S_Whole) fun r15=>r15 else (⟨(w64 r11.val),(w64 ((w64 r13.val).val + 1))⟩ : Iv)) else (bif (decide ((w64 r13.val).val ≥ 1152921504606846976)) then bindP (S_Whole) fun r16=>r16 else (⟨(w64 r11.val),(w64 r13.val)⟩ : Iv))))))
def S_HalfI (a0 : Iv) : Iv:=
  bindP (S_l04Ok a0) fun r1=>(bif (!r1) then bindP (S_l04Whole) fun r2=>r2 else bindP (S_l04Make (ishr a0.lo 1) (ishr (w64 (a0.hi.val + 1)) 1)) fun r3=>r3)
def S_LessI (a0 : Iv) (a1 : Iv) : I64:=
  bindP (S_l04Ok a0) fun r1=>(bif (!r1) then (c64 2) else bindP (S_l04Ok a1) fun r2=>(bif (!r2) then (c64 2) else (bif (decide (a0.hi.val < a1.lo.val)) then (c64 1) else (bif (decide (a0.lo.val ≥ a1.hi.val)) then (c64 0) else (c64 2)))))
def S_l14Far (a0 : El) (a1 : Vc) : I64:=
  bindP (S_ValidEllipsoid a0) fun r1=>(bif (!r1) then (c64 1) else bindP (S_NormV a1) fun r2=>bindP (S_MajorI a0) fun r3=>bindP (S_HalfI r3) fun r4=>bindP (S_LessI r2 r4) fun r5=>(bif (r5.val == 1) then (c64 8) else (bif (r5.val == 0) then (c64 0) else (c64 9))))
def S_l15Flat (a0 : Vc) : Iv:=
  bindP (S_NormV (⟨a0.x,a0.y,(⟨(c64 0),(c64 0)⟩ : Iv)⟩ : Vc)) fun r1=>r1
def S_SinAt (a0 : I64) : Iv:=
  bindP (S_l06At a0 (c64 0)) fun r1=>r1
def S_CosAt (a0 : I64) : Iv:=
  bindP (S_l06At a0 (c64 1)) fun r1=>r1
def S_l14Side (a0 : El) (a1 : Iv) (a2 : Iv) (a3 : I64) : Iv:=
  bindP (S_SinAt a3) fun r1=>bindP (S_CosAt a3) fun r2=>bindP (S_l05At a3) fun r3=>bindP (S_RadiusN a0 r3) fun r4=>bindP (S_MulI a1 r1) fun r5=>bindP (S_MulI a2 r2) fun r6=>bindP (S_SubI r5 r6) fun r7=>bindP (S_EccI a0) fun r8=>bindP (S_MulI r8 r4) fun r9=>bindP (S_MulI r9 r1) fun r10=>bindP (S_MulI r10 r2) fun r11=>bindP (S_SubI r7 r11) fun r12=>r12
def S_l14Lat_L1 : Nat → El → Vc → Iv → I64 → I64 → I64 → Iv
  | 0,_,_,_,_,_,_=>(⟨(c64 0),(c64 0)⟩ : Iv)
  | fu + 1,a0,a1,r1,x_from,x_low,x_high=>(bif (decide ((w64 (x_high.val - x_low.val)).val > 1)) then bindP (S_l14Side a0 r1 a1.z (ishr (w64 (x_low.val + x_high.val)) 1)) fun r9=>(bif (decide (r9.lo.val > 0)) then S_l14Lat_L1 fu a0 a1 r1 x_from x_low (ishr (w64 (x_low.val + x_high.val)) 1) else S_l14Lat_L1 fu a0 a1 r1 x_from (ishr (w64 (x_low.val + x_high.val)) 1) x_high) else (⟨x_from,x_high⟩ : Iv))
def S_l14Lat_L0 : Nat → El → Vc → Iv → I64 → I64 → Iv
  | 0,_,_,_,_,_=>(⟨(c64 0),(c64 0)⟩ : Iv)
  | fu + 1,a0,a1,r1,x_low,x_high=>(bif (decide ((w64 (x_high.val - x_low.val)).val > 1)) then bindP (S_l14Side a0 r1 a1.z (ishr (w64 (x_low.val + x_high.val)) 1)) fun r5=>(bif (decide (r5.hi.val < 0)) then S_l14Lat_L0 fu a0 a1 r1 (ishr (w64 (x_low.val + x_high.val)) 1) x_high else S_l14Lat_L0 fu a0 a1 r1 x_low (ishr (w64 (x_low.val + x_high.val)) 1)) else bindP (S_l05Turn (c64 1)) fun r7=>S_l14Lat_L1 ((r7.hi.val - x_low.val).toNat + 1) a0 a1 r1 x_low x_low r7.hi)
def S_l14Lat (a0 : El) (a1 : Vc) : Iv:=
  bindP (S_l15Flat a1) fun r1=>bindP (S_l05Turn (c64 1)) fun r2=>bindP (S_l05Turn (c64 1)) fun r3=>S_l14Lat_L0 ((r3.hi.val - (w64 (0 - r2.hi.val)).val).toNat + 1) a0 a1 r1 (w64 (0 - r2.hi.val)) r3.hi
def S_HasI (a0 : Iv) (a1 : I64) : Bool:=
  bindP (S_l04Ok a0) fun r1=>(bif (!r1) then true else bindP (S_l04Has a0 a1) fun r2=>r2)
end Go.Proofs.YtfhnlkinjbakgaaGreat.Abs
