/- The functions, on numbers. -/
import Derived.Test.YtfhnlkinjbakgaaGreatDoorShfMc
import Derived.Lib.BitFns
import Derived.Test.YtfhnlkinjbakgaaGreatDoorShfShM
set_option linter.unusedVariables false
set_option linter.unusedSimpArgs false
namespace Go.Proofs.YtfhnlkinjbakgaaGreatDoor.Abs
open Go Go.RowKit
def vT_U_U (a : U64 × U64) : Value:=.tuple #[vU a.1,vU a.2]
def vT_U_U_U (a : U64 × U64 × U64) : Value:=.tuple #[vU a.1,vU a.2.1,vU a.2.2]
def vT_Wd_I (a : Wd × I64) : Value:=.tuple #[vWd a.1,vI a.2]
def vT_I_B (a : I64 × Bool) : Value:=.tuple #[vI a.1,vB a.2]
def vT_I_I (a : I64 × I64) : Value:=.tuple #[vI a.1,vI a.2]
def vT_Iv_B (a : Iv × Bool) : Value:=.tuple #[vIv a.1,vB a.2]
def vT_Vc_I (a : Vc × I64) : Value:=.tuple #[vVc a.1,vI a.2]
def vT_Wd_I_B (a : Wd × I64 × Bool) : Value:=.tuple #[vWd a.1,vI a.2.1,vB a.2.2]
def vT_Af_I (a : Af × I64) : Value:=.tuple #[vAf a.1,vI a.2]
def vT_Mt_B (a : Mt × Bool) : Value:=.tuple #[vMt a.1,vB a.2]
def vT_Af_B (a : Af × Bool) : Value:=.tuple #[vAf a.1,vB a.2]
def vT_Sf_B (a : Sf × Bool) : Value:=.tuple #[vSf a.1,vB a.2]
def vT_Sf_I (a : Sf × I64) : Value:=.tuple #[vSf a.1,vI a.2]
def L_d8Long (c0 : Cd) (c1 : Cd) : Bool:=
  (bif (decide ((((c0.L.length : Nat) : Int)) > 1048576)) then true else (decide ((((c1.L.length : Nat) : Int)) > 1048576)))
def S_l00Src_next__src (c0 : Cd) (b1 : Src) : I64 × Src:=
  (bif (decide (b1.ix.val < (((c0.L.length : Nat) : Int)))) then (bif (decide ((w64 (b1.ix.val + 1)).val ≤ (((c0.L.length : Nat) : Int)))) then ((w64 (byteAt c0.L b1.ix).val),(⟨(w64 (b1.ix.val + 1)),(wu64 ((wu64 ((wu64 (b1.sd.val * 6364136223846793005)).val + (wu64 (w64 (byteAt c0.L b1.ix).val).val).val)).val + 1442695040888963407))⟩ : Src)) else ((w64 (iand .u64 (ishr (wu64 ((wu64 ((wu64 (b1.sd.val * 6364136223846793005)).val + (wu64 (w64 (byteAt c0.L b1.ix).val).val).val)).val + 1442695040888963407)) 40).val 255).val),(⟨(w64 (b1.ix.val + 1)),(wu64 ((wu64 ((wu64 (b1.sd.val * 6364136223846793005)).val + (wu64 (w64 (byteAt c0.L b1.ix).val).val).val)).val + 1442695040888963407))⟩ : Src))) else (bif (decide ((w64 (b1.ix.val + 1)).val ≤ (((c0.L.length : Nat) : Int)))) then ((c64 0),(⟨(w64 (b1.ix.val + 1)),(wu64 ((wu64 ((wu64 (b1.sd.val * 6364136223846793005)).val + 0)).val + 1442695040888963407))⟩ : Src)) else ((w64 (iand .u64 (ishr (wu64 ((wu64 ((wu64 (b1.sd.val * 6364136223846793005)).val + 0)).val + 1442695040888963407)) 40).val 255).val),(⟨(w64 (b1.ix.val + 1)),(wu64 ((wu64 ((wu64 (b1.sd.val * 6364136223846793005)).val + 0)).val + 1442695040888963407))⟩ : Src))))
def S_l00Src_pick__src (c0 : Cd) (b1 : Src) (a0 : I64) : I64 × Src:=
  (bif (decide (a0.val ≤ 1)) then ((c64 0),b1) else bindP (S_l00Src_next__src c0 b1) fun r2=>(bif (decide (a0.val > 200)) then bindP (S_l00Src_next__src c0 r2.2) fun r4=>((imod (w64 ((w64 (r2.1.val * 256)).val + r4.1.val)) a0.val),r4.2) else ((imod r2.1 a0.val),r2.2)))
def S_l00Src_one__src (c0 : Cd) (b1 : Src) (a0 : I64) : Bool × Src:=
  bindP (S_l00Src_pick__src c0 b1 a0) fun r1=>((r1.1.val == 0),r1.2)
def S_l00Src_among__src__s4 (c0 : Cd) (b1_0 : I64) (b1_1 : I64) (b1_2 : I64) (b1_3 : I64) (b2 : Src) : I64 × Src:=
  bindP (S_l00Src_pick__src c0 b2 (c64 4)) fun r1=>((listAt [b1_0,b1_1,b1_2,b1_3] r1.1),r1.2)
def S_l05Number__src (c0 : Cd) (b1 : Src) (a0 : I64) : I64 × Src:=
  bindP (S_l00Src_next__src c0 b1) fun r1=>bindP (S_l00Src_next__src c0 r1.2) fun r2=>bindP (S_l00Src_next__src c0 r2.2) fun r3=>bindP (S_l00Src_next__src c0 r3.2) fun r4=>bindP (S_l00Src_next__src c0 r4.2) fun r5=>bindP (S_l00Src_next__src c0 r5.2) fun r6=>bindP (S_l00Src_next__src c0 r6.2) fun r7=>bindP (S_l00Src_pick__src c0 r7.2 (c64 5)) fun r8=>(bif (r8.1.val == 0) then bindP (S_l00Src_pick__src c0 r8.2 (c64 40)) fun r10=>bindP (S_l00Src_one__src c0 r10.2 (c64 2)) fun r11=>(bif r11.1 then ((w64 (0 - (ishr (imod (ixor .i64 (ishl .i64 (ixor .i64 (ishl .i64 (ixor .i64 (ishl .i64 (ixor .i64 (ishl .i64 (ixor .i64 (ishl .i64 (ixor .i64 (ishl .i64 (ixor .i64 0 r1.1.val).val 8).val r2.1.val).val 8).val r3.1.val).val 8).val r4.1.val).val 8).val r5.1.val).val 8).val r6.1.val).val 8).val r7.1.val) (w64 (a0.val + 1)).val) (wu64 r10.1.val).val).val)),r11.2) else ((ishr (imod (ixor .i64 (ishl .i64 (ixor .i64 (ishl .i64 (ixor .i64 (ishl .i64 (ixor .i64 (ishl .i64 (ixor .i64 (ishl .i64 (ixor .i64 (ishl .i64 (ixor .i64 0 r1.1.val).val 8).val r2.1.val).val 8).val r3.1.val).val 8).val r4.1.val).val 8).val r5.1.val).val 8).val r6.1.val).val 8).val r7.1.val) (w64 (a0.val + 1)).val) (wu64 r10.1.val).val),r11.2)) else (bif (r8.1.val == 1) then bindP (S_l00Src_among__src__s4 c0 (c64 0) (c64 1) a0 (w64 (Int.tdiv a0.val 2)) r8.2) fun r14=>bindP (S_l00Src_one__src c0 r14.2 (c64 2)) fun r15=>(bif r15.1 then ((w64 (0 - r14.1.val)),r15.2) else (r14.1,r15.2)) else bindP (S_l00Src_one__src c0 r8.2 (c64 2)) fun r17=>(bif r17.1 then ((w64 (0 - (imod (ixor .i64 (ishl .i64 (ixor .i64 (ishl .i64 (ixor .i64 (ishl .i64 (ixor .i64 (ishl .i64 (ixor .i64 (ishl .i64 (ixor .i64 (ishl .i64 (ixor .i64 0 r1.1.val).val 8).val r2.1.val).val 8).val r3.1.val).val 8).val r4.1.val).val 8).val r5.1.val).val 8).val r6.1.val).val 8).val r7.1.val) (w64 (a0.val + 1)).val).val)),r17.2) else ((imod (ixor .i64 (ishl .i64 (ixor .i64 (ishl .i64 (ixor .i64 (ishl .i64 (ixor .i64 (ishl .i64 (ixor .i64 (ishl .i64 (ixor .i64 (ishl .i64 (ixor .i64 0 r1.1.val).val 8).val r2.1.val).val 8).val r3.1.val).val 8).val r4.1.val).val 8).val r5.1.val).val 8).val r6.1.val).val 8).val r7.1.val) (w64 (a0.val + 1)).val),r17.2))))
def S_l00Src_among__src__s2 (c0 : Cd) (b1_0 : I64) (b1_1 : I64) (b2 : Src) : I64 × Src:=
  bindP (S_l00Src_pick__src c0 b2 (c64 2)) fun r1=>((listAt [b1_0,b1_1] r1.1),r1.2)
def S_l23Draw__src (c0 : Cd) (b1 : Src) : Sf × Src:=
  bindP (S_l05Number__src c0 b1 (c64 1000000)) fun r1=>bindP (S_l05Number__src c0 r1.2 (c64 10000000)) fun r2=>bindP (S_l05Number__src c0 r2.2 (c64 500000)) fun r3=>bindP (S_l05Number__src c0 r3.2 (c64 5000000)) fun r4=>bindP (S_l05Number__src c0 r4.2 (c64 100000000)) fun r5=>bindP (S_l05Number__src c0 r5.2 (c64 1000000)) fun r6=>bindP (S_l00Src_among__src__s2 c0 (c64 10000) (c64 1000000) r6.2) fun r7=>bindP (S_l05Number__src c0 r7.2 r7.1) fun r8=>((⟨r1.1,r2.1,r3.1,r4.1,r5.1,r6.1,r8.1⟩ : Sf),r8.2)
def S_E8Shift (c0 : Cd) : Sf:=
  bindP (S_l23Draw__src c0 (⟨(c64 0),(cu64 0)⟩ : Src)) fun r1=>r1.1
def S_l12Wgs : El:=
  (⟨(c64 6378137000),(c64 1000000000),(c64 298257223563)⟩ : El)
def S_E8Ellipsoid (c0 : Cd) : El:=
  bindP (S_l00Src_pick__src c0 (⟨(c64 0),(cu64 0)⟩ : Src) (c64 4)) fun r1=>(bif (r1.1.val == 0) then (⟨(c64 6371000000),(c64 0),(c64 1)⟩ : El) else (bif (r1.1.val == 1) then (⟨(c64 6377397155),(c64 10000000),(c64 2991528128)⟩ : El) else (bif (r1.1.val == 2) then bindP (S_l00Src_pick__src c0 r1.2 (c64 400)) fun r5=>bindP (S_l00Src_pick__src c0 r5.2 (c64 2)) fun r6=>bindP (S_l00Src_pick__src c0 r6.2 (c64 300)) fun r7=>(⟨(w64 (6000000000 + (w64 (r5.1.val * 1000000)).val)),r6.1,(w64 (100 + r7.1.val))⟩ : El) else bindP (S_l12Wgs) fun r8=>r8)))
def S_l11Wrap (a0 : I64) : I64:=
  (bif (decide ((imod a0 3600000000).val > 1800000000)) then (bif (decide ((w64 ((imod a0 3600000000).val - 3600000000)).val ≤ (-1800000000))) then (w64 ((w64 ((imod a0 3600000000).val - 3600000000)).val + 3600000000)) else (w64 ((imod a0 3600000000).val - 3600000000))) else (bif (decide ((imod a0 3600000000).val ≤ (-1800000000))) then (w64 ((imod a0 3600000000).val + 3600000000)) else (imod a0 3600000000)))
def S_l00Src_among__src__s5 (c0 : Cd) (b1_0 : I64) (b1_1 : I64) (b1_2 : I64) (b1_3 : I64) (b1_4 : I64) (b2 : Src) : I64 × Src:=
  bindP (S_l00Src_pick__src c0 b2 (c64 5)) fun r1=>((listAt [b1_0,b1_1,b1_2,b1_3,b1_4] r1.1),r1.2)
def S_l11Draw__src (c0 : Cd) (b1 : Src) : Pt × Src:=
  bindP (S_l05Number__src c0 b1 (c64 900000000)) fun r1=>bindP (S_l05Number__src c0 r1.2 (c64 1800000000)) fun r2=>bindP (S_l11Wrap r2.1) fun r3=>bindP (S_l00Src_pick__src c0 r2.2 (c64 10)) fun r4=>(bif (r4.1.val == 0) then bindP (S_l00Src_among__src__s4 c0 (c64 900000000) (c64 (-900000000)) (c64 0) (c64 1) r4.2) fun r6=>((⟨r6.1,r3⟩ : Pt),r6.2) else (bif (r4.1.val == 1) then bindP (S_l00Src_among__src__s5 c0 (c64 1800000000) (c64 (-1799999999)) (c64 0) (c64 900000000) (c64 (-900000000)) r4.2) fun r8=>((⟨r1.1,r8.1⟩ : Pt),r8.2) else ((⟨r1.1,r3⟩ : Pt),r4.2)))
def S_E8Place (c0 : Cd) : Pl:=
  bindP (S_l11Draw__src c0 (⟨(c64 0),(cu64 0)⟩ : Src)) fun r1=>bindP (S_l05Number__src c0 r1.2 (c64 20000000)) fun r2=>(bif (decide (r2.1.val < 0)) then (⟨r1.1,(w64 (0 - r2.1.val))⟩ : Pl) else (⟨r1.1,r2.1⟩ : Pl))
def S_l00In (a0 : I64) (a1 : I64) (a2 : I64) : Bool:=
  (bif (decide (a0.val ≥ a1.val)) then (decide (a0.val ≤ a2.val)) else false)
def S_l12Ok (a0 : El) : Bool:=
  bindP (S_l00In a0.a (c64 1000) (c64 100000000000)) fun r1=>(bif r1 then bindP (S_l00In a0.den (c64 1) (c64 1000000000000)) fun r2=>(bif r2 then (bif (decide (a0.num.val ≥ 0)) then (decide (a0.num.val ≤ (w64 (Int.tdiv a0.den.val 100)).val)) else false) else false) else false)
def S_ValidEllipsoid (a0 : El) : Bool:=
  bindP (S_l12Ok a0) fun r1=>r1
def S_l11Ok (a0 : Pt) : Bool:=
  bindP (S_l00In a0.lat (c64 (-900000000)) (c64 900000000)) fun r1=>(bif r1 then bindP (S_l00In a0.lon (c64 (-1799999999)) (c64 1800000000)) fun r2=>r2 else false)
def S_l14Ok__pPl (b0 : Pl) : Bool:=
  bindP (S_l11Ok b0.point) fun r1=>(bif r1 then bindP (S_l00In b0.height (c64 (-20000000)) (c64 20000000000)) fun r2=>r2 else false)
def S_l04Whole : Iv:=
  (⟨(c64 (-1152921504606846976)),(c64 1152921504606846976)⟩ : Iv)
def S_Whole : Iv:=
  bindP (S_l04Whole) fun r1=>r1
def S_l04Ok (a0 : Iv) : Bool:=
  (bif (decide ((-1152921504606846976) < a0.lo.val)) then (bif (decide (a0.lo.val ≤ a0.hi.val)) then (decide (a0.hi.val < 1152921504606846976)) else false) else false)
def S_l04Make (a0 : I64) (a1 : I64) : Iv:=
  bindP (S_l04Ok (⟨a0,a1⟩ : Iv)) fun r1=>(bif (!r1) then bindP (S_l04Whole) fun r2=>r2 else (⟨a0,a1⟩ : Iv))
def S_NegI (a0 : Iv) : Iv:=
  bindP (S_l04Ok a0) fun r1=>(bif (!r1) then bindP (S_l04Whole) fun r2=>r2 else bindP (S_l04Make (w64 (0 - a0.hi.val)) (w64 (0 - a0.lo.val))) fun r3=>r3)
def S_l02Size (a0 : I64) : U64:=
  (bif (decide (a0.val < 0)) then (wu64 (0 - (wu64 a0.val).val)) else (wu64 a0.val))
def S_l02Times (a0 : U64) (a1 : U64) : U64 × U64:=
  ((wu64 ((wu64 ((wu64 ((ishr a0 32).val * (ishr a1 32).val)).val + (ishr (wu64 ((wu64 ((ishr a0 32).val * (iand .u64 a1.val 4294967295).val)).val + (ishr (wu64 ((iand .u64 a0.val 4294967295).val * (iand .u64 a1.val 4294967295).val)) 32).val)) 32).val)).val + (ishr (wu64 ((wu64 ((iand .u64 a0.val 4294967295).val * (ishr a1 32).val)).val + (iand .u64 (wu64 ((wu64 ((ishr a0 32).val * (iand .u64 a1.val 4294967295).val)).val + (ishr (wu64 ((iand .u64 a0.val 4294967295).val * (iand .u64 a1.val 4294967295).val)) 32).val)).val 4294967295).val)) 32).val)),(wu64 (a0.val * a1.val)))
def S_l02Minus (a0 : Wd) : Wd:=
  (bif (a0.lo.val == 0) then (⟨(w64 (0 - a0.hi.val)),(wu64 (0 - a0.lo.val))⟩ : Wd) else (⟨(inot .i64 a0.hi.val),(wu64 (0 - a0.lo.val))⟩ : Wd))
def S_l02Mul (a0 : I64) (a1 : I64) : Wd:=
  bindP (S_l02Size a0) fun r1=>bindP (S_l02Size a1) fun r2=>bindP (S_l02Times r1 r2) fun r3=>(bif (!((decide (a0.val < 0)) == (decide (a1.val < 0)))) then bindP (S_l02Minus (⟨(w64 r3.1.val),r3.2⟩ : Wd)) fun r4=>r4 else (⟨(w64 r3.1.val),r3.2⟩ : Wd))
def S_l02Divide_L0 : Nat → U64 → U64 → U64 → U64 → U64 → I64 → U64 × U64 × U64
  | 0,_,_,_,_,_,_=>((cu64 0),(cu64 0),(cu64 0))
  | fu + 1,a1,a2,x_qhi,x_rest,x_q,x_i=>(bif (decide (x_i.val ≥ 0)) then (bif ((ishr x_rest 63).val == 1) then S_l02Divide_L0 fu a1 a2 x_qhi (wu64 ((ior .u64 (ishl .u64 x_rest.val 1).val (iand .u64 (ishr a1 (wu64 x_i.val).val).val 1).val).val - a2.val)) (ior .u64 (ishl .u64 x_q.val 1).val 1) (w64 (x_i.val - 1)) else (bif (decide ((ior .u64 (ishl .u64 x_rest.val 1).val (iand .u64 (ishr a1 (wu64 x_i.val).val).val 1).val).val ≥ a2.val)) then S_l02Divide_L0 fu a1 a2 x_qhi (wu64 ((ior .u64 (ishl .u64 x_rest.val 1).val (iand .u64 (ishr a1 (wu64 x_i.val).val).val 1).val).val - a2.val)) (ior .u64 (ishl .u64 x_q.val 1).val 1) (w64 (x_i.val - 1)) else S_l02Divide_L0 fu a1 a2 x_qhi (ior .u64 (ishl .u64 x_rest.val 1).val (iand .u64 (ishr a1 (wu64 x_i.val).val).val 1).val) (ishl .u64 x_q.val 1) (w64 (x_i.val - 1)))) else (x_qhi,x_q,x_rest))
def S_l02Divide (a0 : U64) (a1 : U64) (a2 : U64) : U64 × U64 × U64:=
  S_l02Divide_L0 65 a1 a2 (wu64 (Int.tdiv a0.val a2.val)) (imod a0 a2.val) (cu64 0) (c64 63)
def S_l02Of (a0 : I64) : Wd:=
  (bif (decide (a0.val < 0)) then (⟨(c64 (-1)),(wu64 a0.val)⟩ : Wd) else (⟨(c64 0),(wu64 a0.val)⟩ : Wd))
def S_l02Plus (a0 : Wd) (a1 : Wd) : Wd:=
  (bif (decide ((wu64 (a0.lo.val + a1.lo.val)).val < a0.lo.val)) then (⟨(w64 ((w64 (a0.hi.val + a1.hi.val)).val + 1)),(wu64 (a0.lo.val + a1.lo.val))⟩ : Wd) else (⟨(w64 (a0.hi.val + a1.hi.val)),(wu64 (a0.lo.val + a1.lo.val))⟩ : Wd))
def S_l02Div (a0 : Wd) (a1 : I64) : Wd × I64:=
  (bif (decide (a0.hi.val ≥ 0)) then bindP (S_l02Divide (wu64 a0.hi.val) a0.lo (wu64 a1.val)) fun r2=>((⟨(w64 r2.1.val),r2.2.1⟩ : Wd),(w64 r2.2.2.val)) else bindP (S_l02Minus a0) fun r3=>bindP (S_l02Divide (wu64 r3.hi.val) r3.lo (wu64 a1.val)) fun r4=>bindP (S_l02Minus (⟨(w64 r4.1.val),r4.2.1⟩ : Wd)) fun r5=>(bif (r4.2.2.val == 0) then (r5,(c64 0)) else bindP (S_l02Of (c64 (-1))) fun r7=>bindP (S_l02Plus r5 r7) fun r8=>(r8,(w64 (a1.val - (w64 r4.2.2.val).val)))))
def S_l02Int (a0 : Wd) : I64 × Bool:=
  bindP (S_l02Of (w64 a0.lo.val)) fun r1=>(bif (!((r1.hi.val == a0.hi.val) && (r1.lo.val == a0.lo.val))) then ((c64 0),false) else ((w64 a0.lo.val),true))
def S_MulDivFloor (a0 : I64) (a1 : I64) (a2 : I64) : I64 × Bool:=
  (bif (decide (a2.val ≤ 0)) then ((c64 0),false) else bindP (S_l02Mul a0 a1) fun r2=>bindP (S_l02Div r2 a2) fun r3=>bindP (S_l02Int r3.1) fun r4=>(r4.1,r4.2))
def S_RadiansOf_b (self : I64 → Iv) (a0 : I64) : Iv:=
  bindP (S_l00In a0 (c64 (-36000000000)) (c64 36000000000)) fun r1=>(bif (!r1) then bindP (S_Whole) fun r3=>r3 else (bif (a0.val == 0) then (⟨(c64 0),(c64 0)⟩ : Iv) else (bif (decide (a0.val < 0)) then bindP (self (w64 (0 - a0.val))) fun r6=>bindP (S_NegI r6) fun r7=>r7 else bindP (S_MulDivFloor a0 (c64 7244019458077122842) (c64 966367641600000000)) fun r8=>bindP (S_MulDivFloor a0 (c64 7244019458077122843) (c64 966367641600000000)) fun r9=>(⟨r8.1,(w64 (r9.1.val + 1))⟩ : Iv))))
def S_RadiansOf_r : Nat → I64 → Iv
  | 0,_=>(⟨(c64 0),(c64 0)⟩ : Iv)
  | fu + 1,a0=>S_RadiansOf_b (S_RadiansOf_r fu) a0
def S_RadiansOf (a0 : I64) : Iv:=S_RadiansOf_r 2 a0
def S_l03Ok (a0 : I64) : Bool:=
  bindP (S_l00In a0 (c64 (-1152921504606846976)) (c64 1152921504606846976)) fun r1=>r1
def S_l03End (a0 : I64) (a1 : Bool) : I64 × Bool:=
  (bif (!a1) then ((c64 0),false) else bindP (S_l03Ok a0) fun r1=>(bif (!r1) then ((c64 0),false) else (a0,true)))
def S_l03Floor (a0 : I64) (a1 : I64) : I64 × Bool:=
  (bif (decide (a1.val ≤ 0)) then ((c64 0),false) else bindP (S_MulDivFloor a0 (c64 4294967296) a1) fun r1=>bindP (S_l03End r1.1 r1.2) fun r2=>(r2.1,r2.2))
def S_l03Ceil (a0 : I64) (a1 : I64) : I64 × Bool:=
  (bif (decide (a1.val ≤ 0)) then ((c64 0),false) else bindP (S_MulDivFloor a0 (c64 4294967296) a1) fun r1=>(bif (!r1.2) then ((c64 0),false) else (bif ((w64 (r1.1.val * a1.val)).val != (w64 (a0.val * 4294967296)).val) then bindP (S_l03End (w64 (r1.1.val + 1)) true) fun r2=>(r2.1,r2.2) else bindP (S_l03End r1.1 true) fun r3=>(r3.1,r3.2))))
def S_Quotient (a0 : I64) (a1 : I64) : Iv:=
  (bif (decide (a1.val < 0)) then (bif (a0.val == (-9223372036854775808)) then bindP (S_l04Whole) fun r1=>r1 else (bif (a1.val == (-9223372036854775808)) then bindP (S_l04Whole) fun r2=>r2 else bindP (S_l03Floor (w64 (0 - a0.val)) (w64 (0 - a1.val))) fun r3=>bindP (S_l03Ceil (w64 (0 - a0.val)) (w64 (0 - a1.val))) fun r4=>(bif (!r3.2) then bindP (S_l04Whole) fun r5=>r5 else (bif (!r4.2) then bindP (S_l04Whole) fun r6=>r6 else bindP (S_l04Make r3.1 r4.1) fun r7=>r7)))) else bindP (S_l03Floor a0 a1) fun r8=>bindP (S_l03Ceil a0 a1) fun r9=>(bif (!r8.2) then bindP (S_l04Whole) fun r10=>r10 else (bif (!r9.2) then bindP (S_l04Whole) fun r11=>r11 else bindP (S_l04Make r8.1 r9.1) fun r12=>r12)))
def S_MajorI (a0 : El) : Iv:=
  bindP (S_l12Ok a0) fun r1=>(bif (!r1) then bindP (S_l04Whole) fun r2=>r2 else bindP (S_Quotient a0.a (c64 1000)) fun r3=>r3)
def S_Integer (a0 : I64) : Iv:=
  bindP (S_l00In a0 (c64 (-268435455)) (c64 268435455)) fun r1=>(bif (!r1) then bindP (S_l04Whole) fun r2=>r2 else bindP (S_l04Make (w64 (a0.val * 4294967296)) (w64 (a0.val * 4294967296))) fun r3=>r3)
def S_FlatteningI (a0 : El) : Iv:=
  bindP (S_l12Ok a0) fun r1=>(bif (!r1) then bindP (S_l04Whole) fun r2=>r2 else bindP (S_Quotient a0.num a0.den) fun r3=>r3)
def S_SubI (a0 : Iv) (a1 : Iv) : Iv:=
  bindP (S_l04Ok a0) fun r1=>(bif (!r1) then bindP (S_l04Whole) fun r2=>r2 else bindP (S_l04Ok a1) fun r3=>(bif (!r3) then bindP (S_l04Whole) fun r4=>r4 else bindP (S_l04Make (w64 (a0.lo.val - a1.hi.val)) (w64 (a0.hi.val - a1.lo.val))) fun r5=>r5))
def S_l02Shift (a0 : Wd) (a1 : I64) : Wd:=
  (bif (a1.val == 0) then a0 else (bif (decide (a1.val < 64)) then (⟨(ishr a0.hi (wu64 a1.val).val),(ior .u64 (ishr a0.lo (wu64 a1.val).val).val (ishl .u64 (wu64 a0.hi.val).val (wu64 (w64 (64 - a1.val)).val).val).val)⟩ : Wd) else (⟨(ishr a0.hi 63),(wu64 (ishr a0.hi (wu64 (w64 (a1.val - 64)).val).val).val)⟩ : Wd)))
def S_MulFloor (a0 : I64) (a1 : I64) (a2 : I64) : I64 × Bool:=
  bindP (S_l00In a2 (c64 0) (c64 126)) fun r1=>(bif (!r1) then ((c64 0),false) else bindP (S_l02Mul a0 a1) fun r2=>bindP (S_l02Shift r2 a2) fun r3=>bindP (S_l02Int r3) fun r4=>(r4.1,r4.2))
def S_l03MulDown (a0 : I64) (a1 : I64) : I64 × Bool:=
  bindP (S_l03Ok a0) fun r1=>(bif (!r1) then ((c64 0),false) else bindP (S_l03Ok a1) fun r2=>(bif (!r2) then ((c64 0),false) else bindP (S_MulFloor a0 a1 (c64 32)) fun r3=>bindP (S_l03End r3.1 r3.2) fun r4=>(r4.1,r4.2)))
def S_l03MulUp (a0 : I64) (a1 : I64) : I64 × Bool:=
  bindP (S_l03MulDown (w64 (0 - a0.val)) a1) fun r1=>bindP (S_l03Ok a0) fun r2=>(bif (!r2) then ((c64 0),false) else (bif (!r1.2) then ((c64 0),false) else ((w64 (0 - r1.1.val)),true)))
def S_l00Min (a0 : I64) (a1 : I64) : I64:=
  (bif (decide (a0.val < a1.val)) then a0 else a1)
def S_l00Max (a0 : I64) (a1 : I64) : I64:=
  (bif (decide (a0.val > a1.val)) then a0 else a1)
def S_MulI (a0 : Iv) (a1 : Iv) : Iv:=
  bindP (S_l04Ok a0) fun r1=>(bif (!r1) then bindP (S_l04Whole) fun r2=>r2 else bindP (S_l04Ok a1) fun r3=>(bif (!r3) then bindP (S_l04Whole) fun r4=>r4 else bindP (S_l03MulDown a0.lo a1.lo) fun r5=>bindP (S_l03MulUp a0.lo a1.lo) fun r6=>(bif (!r5.2) then bindP (S_l04Whole) fun r7=>r7 else (bif (!r6.2) then bindP (S_l04Whole) fun r8=>r8 else bindP (S_l00Min (c64 1152921504606846976) r5.1) fun r9=>bindP (S_l00Max (c64 (-1152921504606846976)) r6.1) fun r10=>bindP (S_l03MulDown a0.lo a1.hi) fun r11=>bindP (S_l03MulUp a0.lo a1.hi) fun r12=>(bif (!r11.2) then bindP (S_l04Whole) fun r13=>r13 else (bif (!r12.2) then bindP (S_l04Whole) fun r14=>r14 else bindP (S_l00Min r9 r11.1) fun r15=>bindP (S_l00Max r10 r12.1) fun r16=>bindP (S_l03MulDown a0.hi a1.lo) fun r17=>bindP (S_l03MulUp a0.hi a1.lo) fun r18=>(bif (!r17.2) then bindP (S_l04Whole) fun r19=>r19 else (bif (!r18.2) then bindP (S_l04Whole) fun r20=>r20 else bindP (S_l00Min r15 r17.1) fun r21=>bindP (S_l00Max r16 r18.1) fun r22=>bindP (S_l03MulDown a0.hi a1.hi) fun r23=>bindP (S_l03MulUp a0.hi a1.hi) fun r24=>(bif (!r23.2) then bindP (S_l04Whole) fun r25=>r25 else (bif (!r24.2) then bindP (S_l04Whole) fun r26=>r26 else bindP (S_l00Min r21 r23.1) fun r27=>bindP (S_l00Max r22 r24.1) fun r28=>bindP (S_l04Make r27 r28) fun r29=>r29))))))))))
def S_EccI (a0 : El) : Iv:=
  bindP (S_FlatteningI a0) fun r1=>bindP (S_Integer (c64 2)) fun r2=>bindP (S_SubI r2 r1) fun r3=>bindP (S_MulI r1 r3) fun r4=>r4
def S_ValidInterval (a0 : Iv) : Bool:=
  bindP (S_l04Ok a0) fun r1=>r1
def S_l06Angle (a0 : I64) : Bool:=
  bindP (S_l00In a0 (c64 (-1099511627776)) (c64 1099511627776)) fun r1=>r1
def S_l06Fits (a0 : Iv) : Bool:=
  bindP (S_ValidInterval a0) fun r1=>(bif r1 then bindP (S_l06Angle a0.lo) fun r2=>(bif r2 then bindP (S_l06Angle a0.hi) fun r3=>r3 else false) else false)
def S_l06Ring : Iv:=
  (⟨(c64 (-4294967296)),(c64 4294967296)⟩ : Iv)
end Go.Proofs.YtfhnlkinjbakgaaGreatDoor.Abs
set_option linter.unusedVariables false
set_option linter.unusedSimpArgs false
namespace Go.Proofs.YtfhnlkinjbakgaaGreatDoor.Abs
open Go Go.RowKit
def S_l06Floor (a0 : I64) (a1 : I64) : I64:=
  (bif (decide ((imod a0 a1.val).val < 0)) then (w64 ((w64 (Int.tdiv a0.val a1.val)).val - 1)) else (w64 (Int.tdiv a0.val a1.val)))
def S_QuarterOf (a0 : I64) : I64:=
  bindP (S_l06Angle a0) fun r1=>(bif (!r1) then (c64 0) else bindP (S_l06Floor (w64 (a0.val + 3373259426)) (c64 6746518852)) fun r3=>r3)
def S_l05At (a0 : I64) : Iv:=
  (⟨a0,a0⟩ : Iv)
def S_l05Turn_r : Nat → I64 → Iv
  | 0,_=>(⟨(c64 0),(c64 0)⟩ : Iv)
  | fu + 1,a0=>(bif (a0.val == 0) then (⟨(c64 0),(c64 0)⟩ : Iv) else (bif (decide (a0.val < 0)) then bindP (S_l05Turn_r fu (w64 (0 - a0.val))) fun r3=>(⟨(w64 (0 - r3.hi.val)),(w64 (0 - r3.lo.val))⟩ : Iv) else bindP (S_MulFloor a0 (c64 7244019458077122842) (c64 30)) fun r4=>(⟨r4.1,(w64 (r4.1.val + 1))⟩ : Iv)))
def S_l05Turn (a0 : I64) : Iv:=S_l05Turn_r 2 a0
def S_TurnI (a0 : I64) : Iv:=
  bindP (S_l00In a0 (c64 (-4096)) (c64 4096)) fun r1=>(bif (!r1) then bindP (S_Whole) fun r3=>r3 else bindP (S_l05Turn a0) fun r4=>r4)
def S_InsideI (a0 : Iv) (a1 : Iv) : Bool:=
  bindP (S_l04Ok a1) fun r1=>(bif (!r1) then true else bindP (S_l04Ok a0) fun r2=>(bif r2 then (bif (decide (a1.lo.val ≤ a0.lo.val)) then (decide (a0.hi.val ≤ a1.hi.val)) else false) else false))
def S_l04Has (a0 : Iv) (a1 : I64) : Bool:=
  bindP (S_l00In a1 a0.lo a0.hi) fun r1=>r1
def S_l04Ends (a0 : Iv) : I64 × I64:=
  bindP (S_l00Max a0.lo (w64 (0 - a0.lo.val))) fun r1=>bindP (S_l00Max a0.hi (w64 (0 - a0.hi.val))) fun r2=>bindP (S_l04Has a0 (c64 0)) fun r3=>(bif r3 then bindP (S_l00Max r1 r2) fun r4=>((c64 0),r4) else bindP (S_l00Min r1 r2) fun r5=>bindP (S_l00Max r1 r2) fun r6=>(r5,r6))
def S_SqrI (a0 : Iv) : Iv:=
  bindP (S_l04Ok a0) fun r1=>(bif (!r1) then bindP (S_l04Whole) fun r2=>r2 else bindP (S_l04Ends a0) fun r3=>bindP (S_l03MulDown r3.1 r3.1) fun r4=>bindP (S_l03MulUp r3.2 r3.2) fun r5=>(bif (!r4.2) then bindP (S_l04Whole) fun r6=>r6 else (bif (!r5.2) then bindP (S_l04Whole) fun r7=>r7 else bindP (S_l04Make r4.1 r5.1) fun r8=>r8)))
def S_l03DivDown (a0 : I64) (a1 : I64) : I64 × Bool:=
  bindP (S_l03Ok a0) fun r1=>(bif (!r1) then ((c64 0),false) else bindP (S_l03Ok a1) fun r2=>(bif (!r2) then ((c64 0),false) else (bif (a1.val == 0) then ((c64 0),false) else (bif (decide (a1.val < 0)) then bindP (S_MulDivFloor (w64 (0 - a0.val)) (c64 4294967296) (w64 (0 - a1.val))) fun r3=>bindP (S_l03End r3.1 r3.2) fun r4=>(r4.1,r4.2) else bindP (S_MulDivFloor a0 (c64 4294967296) a1) fun r5=>bindP (S_l03End r5.1 r5.2) fun r6=>(r6.1,r6.2)))))
def S_l03DivUp (a0 : I64) (a1 : I64) : I64 × Bool:=
  bindP (S_l03Ok a0) fun r1=>(bif (!r1) then ((c64 0),false) else bindP (S_l03DivDown (w64 (0 - a0.val)) a1) fun r2=>((w64 (0 - r2.1.val)),r2.2))
def S_DivI (a0 : Iv) (a1 : Iv) : Iv:=
  bindP (S_l04Ok a0) fun r1=>(bif (!r1) then bindP (S_l04Whole) fun r2=>r2 else bindP (S_l04Ok a1) fun r3=>(bif (!r3) then bindP (S_l04Whole) fun r4=>r4 else bindP (S_l04Has a1 (c64 0)) fun r5=>(bif r5 then bindP (S_l04Whole) fun r6=>r6 else bindP (S_l03DivDown a0.lo a1.lo) fun r7=>bindP (S_l03DivUp a0.lo a1.lo) fun r8=>(bif (!r7.2) then bindP (S_l04Whole) fun r9=>r9 else (bif (!r8.2) then bindP (S_l04Whole) fun r10=>r10 else bindP (S_l00Min (c64 1152921504606846976) r7.1) fun r11=>bindP (S_l00Max (c64 (-1152921504606846976)) r8.1) fun r12=>bindP (S_l03DivDown a0.lo a1.hi) fun r13=>bindP (S_l03DivUp a0.lo a1.hi) fun r14=>(bif (!r13.2) then bindP (S_l04Whole) fun r15=>r15 else (bif (!r14.2) then bindP (S_l04Whole) fun r16=>r16 else bindP (S_l00Min r11 r13.1) fun r17=>bindP (S_l00Max r12 r14.1) fun r18=>bindP (S_l03DivDown a0.hi a1.lo) fun r19=>bindP (S_l03DivUp a0.hi a1.lo) fun r20=>(bif (!r19.2) then bindP (S_l04Whole) fun r21=>r21 else (bif (!r20.2) then bindP (S_l04Whole) fun r22=>r22 else bindP (S_l00Min r17 r19.1) fun r23=>bindP (S_l00Max r18 r20.1) fun r24=>bindP (S_l03DivDown a0.hi a1.hi) fun r25=>bindP (S_l03DivUp a0.hi a1.hi) fun r26=>(bif (!r25.2) then bindP (S_l04Whole) fun r27=>r27 else (bif (!r26.2) then bindP (S_l04Whole) fun r28=>r28 else bindP (S_l00Min r23 r25.1) fun r29=>bindP (S_l00Max r24 r26.1) fun r30=>bindP (S_l04Make r29 r30) fun r31=>r31)))))))))))
def S_l06Series (a0 : Iv) (a1 : I64) : Iv:=
  bindP (S_Integer (c64 1)) fun r1=>bindP (S_Integer (c64 1)) fun r2=>bindP (S_Integer (w64 ((w64 (16 + a1.val)).val * (w64 ((w64 (16 + a1.val)).val + 1)).val))) fun r3=>bindP (S_DivI a0 r3) fun r4=>bindP (S_MulI r4 r1) fun r5=>bindP (S_SubI r2 r5) fun r6=>bindP (S_Integer (c64 1)) fun r7=>bindP (S_Integer (w64 ((w64 (14 + a1.val)).val * (w64 ((w64 (14 + a1.val)).val + 1)).val))) fun r8=>bindP (S_DivI a0 r8) fun r9=>bindP (S_MulI r9 r6) fun r10=>bindP (S_SubI r7 r10) fun r11=>bindP (S_Integer (c64 1)) fun r12=>bindP (S_Integer (w64 ((w64 (12 + a1.val)).val * (w64 ((w64 (12 + a1.val)).val + 1)).val))) fun r13=>bindP (S_DivI a0 r13) fun r14=>bindP (S_MulI r14 r11) fun r15=>bindP (S_SubI r12 r15) fun r16=>bindP (S_Integer (c64 1)) fun r17=>bindP (S_Integer (w64 ((w64 (10 + a1.val)).val * (w64 ((w64 (10 + a1.val)).val + 1)).val))) fun r18=>bindP (S_DivI a0 r18) fun r19=>bindP (S_MulI r19 r16) fun r20=>bindP (S_SubI r17 r20) fun r21=>bindP (S_Integer (c64 1)) fun r22=>bindP (S_Integer (w64 ((w64 (8 + a1.val)).val * (w64 ((w64 (8 + a1.val)).val + 1)).val))) fun r23=>bindP (S_DivI a0 r23) fun r24=>bindP (S_MulI r24 r21) fun r25=>bindP (S_SubI r22 r25) fun r26=>bindP (S_Integer (c64 1)) fun r27=>bindP (S_Integer (w64 ((w64 (6 + a1.val)).val * (w64 ((w64 (6 + a1.val)).val + 1)).val))) fun r28=>bindP (S_DivI a0 r28) fun r29=>bindP (S_MulI r29 r26) fun r30=>bindP (S_SubI r27 r30) fun r31=>bindP (S_Integer (c64 1)) fun r32=>bindP (S_Integer (w64 ((w64 (4 + a1.val)).val * (w64 ((w64 (4 + a1.val)).val + 1)).val))) fun r33=>bindP (S_DivI a0 r33) fun r34=>bindP (S_MulI r34 r31) fun r35=>bindP (S_SubI r32 r35) fun r36=>bindP (S_Integer (c64 1)) fun r37=>bindP (S_Integer (w64 ((w64 (2 + a1.val)).val * (w64 ((w64 (2 + a1.val)).val + 1)).val))) fun r38=>bindP (S_DivI a0 r38) fun r39=>bindP (S_MulI r39 r36) fun r40=>bindP (S_SubI r37 r40) fun r41=>r41
def S_l06Tiny : Iv:=
  (⟨(c64 (-1)),(c64 1)⟩ : Iv)
def S_AddI (a0 : Iv) (a1 : Iv) : Iv:=
  bindP (S_l04Ok a0) fun r1=>(bif (!r1) then bindP (S_l04Whole) fun r2=>r2 else bindP (S_l04Ok a1) fun r3=>(bif (!r3) then bindP (S_l04Whole) fun r4=>r4 else bindP (S_l04Make (w64 (a0.lo.val + a1.lo.val)) (w64 (a0.hi.val + a1.hi.val))) fun r5=>r5))
def S_SinSeries (a0 : Iv) : Iv:=
  bindP (S_l06Ring) fun r1=>bindP (S_InsideI a0 r1) fun r2=>(bif (!r2) then bindP (S_Whole) fun r3=>r3 else bindP (S_SqrI a0) fun r4=>bindP (S_l06Series r4 (c64 0)) fun r5=>bindP (S_MulI a0 r5) fun r6=>bindP (S_l06Tiny) fun r7=>bindP (S_AddI r6 r7) fun r8=>r8)
def S_MeetI (a0 : Iv) (a1 : Iv) : Iv × Bool:=
  bindP (S_l04Ok a0) fun r1=>(bif (!r1) then bindP (S_l04Ok a1) fun r2=>(bif (!r2) then bindP (S_l04Whole) fun r3=>(r3,true) else bindP (S_l04Ok a0) fun r4=>(bif (!r4) then (a1,true) else bindP (S_l04Ok a1) fun r5=>(bif (!r5) then (a0,true) else bindP (S_l00Max a0.lo a1.lo) fun r6=>bindP (S_l00Min a0.hi a1.hi) fun r7=>(bif (decide (r6.val > r7.val)) then ((⟨(c64 0),(c64 0)⟩ : Iv),false) else ((⟨r6,r7⟩ : Iv),true))))) else bindP (S_l04Ok a0) fun r8=>(bif (!r8) then (a1,true) else bindP (S_l04Ok a1) fun r9=>(bif (!r9) then (a0,true) else bindP (S_l00Max a0.lo a1.lo) fun r10=>bindP (S_l00Min a0.hi a1.hi) fun r11=>(bif (decide (r10.val > r11.val)) then ((⟨(c64 0),(c64 0)⟩ : Iv),false) else ((⟨r10,r11⟩ : Iv),true)))))
def S_l06Meet (a0 : Iv) : Iv:=
  bindP (S_l06Ring) fun r1=>bindP (S_MeetI a0 r1) fun r2=>(bif (!r2.2) then bindP (S_l06Ring) fun r3=>r3 else r2.1)
def S_CosSeries (a0 : Iv) : Iv:=
  bindP (S_l06Ring) fun r1=>bindP (S_InsideI a0 r1) fun r2=>(bif (!r2) then bindP (S_Whole) fun r3=>r3 else bindP (S_SqrI a0) fun r4=>bindP (S_l06Series r4 (c64 (-1))) fun r5=>bindP (S_l06Tiny) fun r6=>bindP (S_AddI r5 r6) fun r7=>r7)
def S_l06At (a0 : I64) (a1 : I64) : Iv:=
  bindP (S_l06Angle a0) fun r1=>(bif (!r1) then bindP (S_l06Ring) fun r2=>r2 else bindP (S_QuarterOf a0) fun r3=>bindP (S_l05At a0) fun r4=>bindP (S_TurnI r3) fun r5=>bindP (S_SubI r4 r5) fun r6=>(bif ((iand .i64 (w64 (r3.val + a1.val)).val 3).val == 0) then bindP (S_SinSeries r6) fun r7=>bindP (S_l06Meet r7) fun r8=>r8 else (bif ((iand .i64 (w64 (r3.val + a1.val)).val 3).val == 1) then bindP (S_CosSeries r6) fun r9=>bindP (S_l06Meet r9) fun r10=>r10 else (bif ((iand .i64 (w64 (r3.val + a1.val)).val 3).val == 2) then bindP (S_SinSeries r6) fun r11=>bindP (S_NegI r11) fun r12=>bindP (S_l06Meet r12) fun r13=>r13 else bindP (S_CosSeries r6) fun r14=>bindP (S_NegI r14) fun r15=>bindP (S_l06Meet r15) fun r16=>r16))))
def S_HullI (a0 : Iv) (a1 : Iv) : Iv:=
  bindP (S_l04Ok a0) fun r1=>(bif (!r1) then bindP (S_l04Whole) fun r2=>r2 else bindP (S_l04Ok a1) fun r3=>(bif (!r3) then bindP (S_l04Whole) fun r4=>r4 else bindP (S_l00Min a0.lo a1.lo) fun r5=>bindP (S_l00Max a0.hi a1.hi) fun r6=>bindP (S_l04Make r5 r6) fun r7=>r7))
def S_OverlapI (a0 : Iv) (a1 : Iv) : Bool:=
  bindP (S_MeetI a0 a1) fun r1=>r1.2
def S_l06Over_L0 : Nat → I64 → Iv → I64 → Iv → Iv
  | 0,_,_,_,_=>(⟨(c64 0),(c64 0)⟩ : Iv)
  | fu + 1,a1,a0,x_k,y_2=>bindP (S_QuarterOf a0.hi) fun r8=>(bif (decide (x_k.val ≤ (w64 (r8.val + 1)).val)) then bindP (S_TurnI x_k) fun r10=>bindP (S_OverlapI r10 a0) fun r11=>(bif (!r11) then S_l06Over_L0 fu a1 a0 (w64 (x_k.val + 1)) y_2 else (bif ((iand .i64 (w64 (x_k.val + a1.val)).val 3).val == 1) then bindP (S_Integer (c64 1)) fun r14=>bindP (S_HullI y_2 r14) fun r15=>S_l06Over_L0 fu a1 a0 (w64 (x_k.val + 1)) r15 else (bif ((iand .i64 (w64 (x_k.val + a1.val)).val 3).val == 3) then bindP (S_Integer (c64 (-1))) fun r17=>bindP (S_HullI y_2 r17) fun r18=>S_l06Over_L0 fu a1 a0 (w64 (x_k.val + 1)) r18 else S_l06Over_L0 fu a1 a0 (w64 (x_k.val + 1)) y_2))) else y_2)
def S_l06Over (a0 : Iv) (a1 : I64) : Iv:=
  bindP (S_l06Fits a0) fun r1=>(bif (!r1) then bindP (S_l06Ring) fun r3=>r3 else bindP (S_l06At a0.lo a1) fun r4=>bindP (S_l06At a0.hi a1) fun r5=>bindP (S_HullI r4 r5) fun r6=>bindP (S_QuarterOf a0.lo) fun r7=>S_l06Over_L0 ((2000 - (w64 (r7.val - 1)).val).toNat + 1) a1 a0 (w64 (r7.val - 1)) r6)
def S_SinI (a0 : Iv) : Iv:=
  bindP (S_l06Over a0 (c64 0)) fun r1=>r1
def S_l12W (a0 : El) (a1 : Iv) : Iv:=
  bindP (S_Integer (c64 1)) fun r1=>bindP (S_EccI a0) fun r2=>bindP (S_SinI a1) fun r3=>bindP (S_SqrI r3) fun r4=>bindP (S_MulI r2 r4) fun r5=>bindP (S_SubI r1 r5) fun r6=>r6
def S_l02Root_L0 : Nat → Wd → U64 → I64 → U64
  | 0,_,_,_=>(cu64 0)
  | fu + 1,a0,x_out,x_i=>(bif (decide (x_i.val ≥ 0)) then bindP (S_l02Times (ior .u64 x_out.val (ishl .u64 1 (wu64 x_i.val).val).val) (ior .u64 x_out.val (ishl .u64 1 (wu64 x_i.val).val).val)) fun r2=>(bif (decide (r2.1.val < (wu64 a0.hi.val).val)) then S_l02Root_L0 fu a0 (ior .u64 x_out.val (ishl .u64 1 (wu64 x_i.val).val).val) (w64 (x_i.val - 1)) else (bif (r2.1.val == (wu64 a0.hi.val).val) then (bif (decide (r2.2.val ≤ a0.lo.val)) then S_l02Root_L0 fu a0 (ior .u64 x_out.val (ishl .u64 1 (wu64 x_i.val).val).val) (w64 (x_i.val - 1)) else S_l02Root_L0 fu a0 x_out (w64 (x_i.val - 1))) else S_l02Root_L0 fu a0 x_out (w64 (x_i.val - 1)))) else x_out)
def S_l02Root (a0 : Wd) : U64:=
  S_l02Root_L0 65 a0 (cu64 0) (c64 63)
def S_SqrtFloor (a0 : I64) (a1 : I64) : I64 × Bool:=
  (bif (decide (a0.val < 0)) then ((c64 0),false) else (bif (decide (a1.val < 0)) then ((c64 0),false) else bindP (S_l02Mul a0 a1) fun r1=>bindP (S_l02Root r1) fun r2=>((w64 r2.val),true)))
def S_l03SqrtDown (a0 : I64) : I64 × Bool:=
  bindP (S_l00In a0 (c64 0) (c64 1152921504606846976)) fun r1=>(bif (!r1) then ((c64 0),false) else bindP (S_SqrtFloor a0 (c64 4294967296)) fun r2=>(r2.1,r2.2))
def S_l03SqrtUp (a0 : I64) : I64 × Bool:=
  bindP (S_l03SqrtDown a0) fun r1=>(bif (!r1.2) then ((c64 0),false) else bindP (S_MulFloor r1.1 r1.1 (c64 32)) fun r2=>(bif (r2.1.val != a0.val) then ((w64 (r1.1.val + 1)),true) else (bif ((iand .i64 (w64 (r1.1.val * r1.1.val)).val 4294967295).val != 0) then ((w64 (r1.1.val + 1)),true) else (r1.1,true))))
def S_SqrtI (a0 : Iv) : Iv:=
  bindP (S_l04Ok a0) fun r1=>(bif (!r1) then bindP (S_l04Whole) fun r2=>r2 else (bif (decide (a0.lo.val < 0)) then bindP (S_l04Whole) fun r3=>r3 else bindP (S_l03SqrtDown a0.lo) fun r4=>bindP (S_l03SqrtUp a0.hi) fun r5=>bindP (S_l04Make r4.1 r5.1) fun r6=>r6))
def S_RadiusN (a0 : El) (a1 : Iv) : Iv:=
  bindP (S_MajorI a0) fun r1=>bindP (S_l12W a0 a1) fun r2=>bindP (S_SqrtI r2) fun r3=>bindP (S_DivI r1 r3) fun r4=>r4
def S_CosI (a0 : Iv) : Iv:=
  bindP (S_l06Over a0 (c64 1)) fun r1=>r1
def S_l14To__pPl (b0 : Pl) (a0 : El) : Vc:=
  bindP (S_RadiansOf b0.point.lat) fun r1=>bindP (S_RadiansOf b0.point.lon) fun r2=>bindP (S_RadiusN a0 r1) fun r3=>bindP (S_Quotient b0.height (c64 1000)) fun r4=>bindP (S_AddI r3 r4) fun r5=>bindP (S_CosI r1) fun r6=>bindP (S_MulI r5 r6) fun r7=>bindP (S_Integer (c64 1)) fun r8=>bindP (S_EccI a0) fun r9=>bindP (S_SubI r8 r9) fun r10=>bindP (S_MulI r3 r10) fun r11=>bindP (S_AddI r11 r4) fun r12=>bindP (S_SinI r1) fun r13=>bindP (S_MulI r12 r13) fun r14=>bindP (S_CosI r2) fun r15=>bindP (S_MulI r7 r15) fun r16=>bindP (S_SinI r2) fun r17=>bindP (S_MulI r7 r17) fun r18=>(⟨r16,r18,r14⟩ : Vc)
def S_ToCartesian (a0 : El) (a1 : Pl) : Vc × I64:=
  bindP (S_ValidEllipsoid a0) fun r1=>(bif (!r1) then ((⟨(⟨(c64 0),(c64 0)⟩ : Iv),(⟨(c64 0),(c64 0)⟩ : Iv),(⟨(c64 0),(c64 0)⟩ : Iv)⟩ : Vc),(c64 1)) else bindP (S_l14Ok__pPl a1) fun r2=>(bif (!r2) then ((⟨(⟨(c64 0),(c64 0)⟩ : Iv),(⟨(c64 0),(c64 0)⟩ : Iv),(⟨(c64 0),(c64 0)⟩ : Iv)⟩ : Vc),(c64 1)) else bindP (S_l14To__pPl a1 a0) fun r3=>(r3,(c64 0))))
def I_within (a0 : I64) (a1 : I64) (a2 : I64) : Bool:=
  (bif (decide (a0.val ≥ a1.val)) then (decide (a0.val ≤ a2.val)) else false)
def I_areWithin__s3 (b0_0 : I64) (b0_1 : I64) (b0_2 : I64) (a0 : I64) : Bool:=
  bindP (I_within b0_0 (w64 (0 - a0.val)) a0) fun r1=>(bif (!r1) then false else bindP (I_within b0_1 (w64 (0 - a0.val)) a0) fun r2=>(bif (!r2) then false else bindP (I_within b0_2 (w64 (0 - a0.val)) a0) fun r3=>(bif (!r3) then false else true)))
def I_areWithin__s1 (b0 : I64) (a0 : I64) : Bool:=
  bindP (I_within b0 (w64 (0 - a0.val)) a0) fun r1=>(bif (!r1) then false else true)
def I_ValidShift (a0 : Sf) : Bool:=
  bindP (I_areWithin__s3 a0.tx a0.ty a0.tz (c64 10000000)) fun r1=>(bif r1 then bindP (I_areWithin__s3 a0.rx a0.ry a0.rz (c64 100000000)) fun r2=>(bif r2 then bindP (I_areWithin__s1 a0.sc (c64 1000000)) fun r3=>r3 else false) else false)
def I_Whole : Iv:=
  (⟨(c64 (-1152921504606846976)),(c64 1152921504606846976)⟩ : Iv)
def I_ValidInterval (a0 : Iv) : Bool:=
  (bif (decide ((-1152921504606846976) < a0.lo.val)) then (bif (decide (a0.lo.val ≤ a0.hi.val)) then (decide (a0.hi.val < 1152921504606846976)) else false) else false)
def I_bounded (a0 : I64) (a1 : I64) (a2 : Bool) : Iv:=
  (bif a2 then bindP (I_ValidInterval (⟨a0,a1⟩ : Iv)) fun r1=>(bif r1 then (⟨a0,a1⟩ : Iv) else bindP (I_Whole) fun r2=>r2) else bindP (I_Whole) fun r3=>r3)
def I_Integer (a0 : I64) : Iv:=
  bindP (I_within a0 (c64 (-268435456)) (c64 268435456)) fun r1=>(bif (!r1) then bindP (I_Whole) fun r2=>r2 else bindP (I_bounded (w64 (a0.val * 4294967296)) (w64 (a0.val * 4294967296)) true) fun r3=>r3)
def F_bits_Mul64 (a0 : U64) (a1 : U64) : U64 × U64:=
  ((wu64 ((wu64 ((wu64 ((ishr a0 32).val * (ishr a1 32).val)).val + (ishr (wu64 ((wu64 ((ishr a0 32).val * (iand .u64 a1.val 4294967295).val)).val + (ishr (wu64 ((iand .u64 a0.val 4294967295).val * (iand .u64 a1.val 4294967295).val)) 32).val)) 32).val)).val + (ishr (wu64 ((iand .u64 (wu64 ((wu64 ((ishr a0 32).val * (iand .u64 a1.val 4294967295).val)).val + (ishr (wu64 ((iand .u64 a0.val 4294967295).val * (iand .u64 a1.val 4294967295).val)) 32).val)).val 4294967295).val + (wu64 ((iand .u64 a0.val 4294967295).val * (ishr a1 32).val)).val)) 32).val)),(wu64 (a0.val * a1.val)))
def I_WideMul (a0 : I64) (a1 : I64) : Wd:=
  bindP (F_bits_Mul64 (wu64 a0.val) (wu64 a1.val)) fun r1=>(bif (decide (a0.val < 0)) then (bif (decide (a1.val < 0)) then (⟨(w64 (wu64 ((wu64 (r1.1.val - (wu64 a1.val).val)).val - (wu64 a0.val).val)).val),r1.2⟩ : Wd) else (⟨(w64 (wu64 (r1.1.val - (wu64 a1.val).val)).val),r1.2⟩ : Wd)) else (bif (decide (a1.val < 0)) then (⟨(w64 (wu64 (r1.1.val - (wu64 a0.val).val)).val),r1.2⟩ : Wd) else (⟨(w64 r1.1.val),r1.2⟩ : Wd)))
def F_bits_LeadingZeros64 (a0 : U64) : I64:=w64 (64 - (Lib.bitLen a0.val.toNat : Int))
def F_bits_Div64_L1 : Nat → U64 → U64 → U64 → U64 → U64 → U64 → U64 → U64 → U64 → U64 × U64
  | 0,_,_,_,_,_,_,_,_,_=>((cu64 0),(cu64 0))
  | fu + 1,x_y,x_s,x_yn1,x_yn0,x_un0,x_q1,x_un21,x_rhat,x_q0=>(bif (decide (x_q0.val ≥ 4294967296)) then (bif (decide ((wu64 (x_rhat.val + x_yn1.val)).val ≥ 4294967296)) then ((wu64 ((wu64 (x_q1.val * 4294967296)).val + (wu64 (x_q0.val - 1)).val)),(ishr (wu64 ((wu64 ((wu64 (x_un21.val * 4294967296)).val + x_un0.val)).val - (wu64 ((wu64 (x_q0.val - 1)).val * x_y.val)).val)) x_s.val)) else F_bits_Div64_L1 fu x_y x_s x_yn1 x_yn0 x_un0 x_q1 x_un21 (wu64 (x_rhat.val + x_yn1.val)) (wu64 (x_q0.val - 1))) else (bif (decide ((wu64 (x_q0.val * x_yn0.val)).val > (wu64 ((wu64 (4294967296 * x_rhat.val)).val + x_un0.val)).val)) then (bif (decide ((wu64 (x_rhat.val + x_yn1.val)).val ≥ 4294967296)) then ((wu64 ((wu64 (x_q1.val * 4294967296)).val + (wu64 (x_q0.val - 1)).val)),(ishr (wu64 ((wu64 ((wu64 (x_un21.val * 4294967296)).val + x_un0.val)).val - (wu64 ((wu64 (x_q0.val - 1)).val * x_y.val)).val)) x_s.val)) else F_bits_Div64_L1 fu x_y x_s x_yn1 x_yn0 x_un0 x_q1 x_un21 (wu64 (x_rhat.val + x_yn1.val)) (wu64 (x_q0.val - 1))) else ((wu64 ((wu64 (x_q1.val * 4294967296)).val + x_q0.val)),(ishr (wu64 ((wu64 ((wu64 (x_un21.val * 4294967296)).val + x_un0.val)).val - (wu64 (x_q0.val * x_y.val)).val)) x_s.val))))
def F_bits_Div64_L0 : Nat → U64 → U64 → U64 → U64 → U64 → U64 → U64 → U64 → U64 → U64 × U64
  | 0,_,_,_,_,_,_,_,_,_=>((cu64 0),(cu64 0))
  | fu + 1,x_y,x_s,x_yn1,x_yn0,x_un32,x_un1,x_un0,x_q1,x_rhat=>(bif (decide (x_q1.val ≥ 4294967296)) then (bif (decide ((wu64 (x_rhat.val + x_yn1.val)).val ≥ 4294967296)) then F_bits_Div64_L1 ((4294967296 - (wu64 ((wu64 ((wu64 ((wu64 (x_un32.val * 4294967296)).val + x_un1.val)).val - (wu64 ((wu64 (x_q1.val - 1)).val * x_y.val)).val)).val - (wu64 ((wu64 (Int.tdiv (wu64 ((wu64 ((wu64 (x_un32.val * 4294967296)).val + x_un1.val)).val - (wu64 ((wu64 (x_q1.val - 1)).val * x_y.val)).val)).val x_yn1.val)).val * x_yn1.val)).val)).val).toNat + 1) x_y x_s x_yn1 x_yn0 x_un0 (wu64 (x_q1.val - 1)) (wu64 ((wu64 ((wu64 (x_un32.val * 4294967296)).val + x_un1.val)).val - (wu64 ((wu64 (x_q1.val - 1)).val * x_y.val)).val)) (wu64 ((wu64 ((wu64 ((wu64 (x_un32.val * 4294967296)).val + x_un1.val)).val - (wu64 ((wu64 (x_q1.val - 1)).val * x_y.val)).val)).val - (wu64 ((wu64 (Int.tdiv (wu64 ((wu64 ((wu64 (x_un32.val * 4294967296)).val + x_un1.val)).val - (wu64 ((wu64 (x_q1.val - 1)).val * x_y.val)).val)).val x_yn1.val)).val * x_yn1.val)).val)) (wu64 (Int.tdiv (wu64 ((wu64 ((wu64 (x_un32.val * 4294967296)).val + x_un1.val)).val - (wu64 ((wu64 (x_q1.val - 1)).val * x_y.val)).val)).val x_yn1.val)) else F_bits_Div64_L0 fu x_y x_s x_yn1 x_yn0 x_un32 x_un1 x_un0 (wu64 (x_q1.val - 1)) (wu64 (x_rhat.val + x_yn1.val))) else (bif (decide ((wu64 (x_q1.val * x_yn0.val)).val > (wu64 ((wu64 (4294967296 * x_rhat.val)).val + x_un1.val)).val)) then (bif (decide ((wu64 (x_rhat.val + x_yn1.val)).val ≥ 4294967296)) then F_bits_Div64_L1 ((4294967296 - (wu64 ((wu64 ((wu64 ((wu64 (x_un32.val * 4294967296)).val + x_un1.val)).val - (wu64 ((wu64 (x_q1.val - 1)).val * x_y.val)).val)).val - (wu64 ((wu64 (Int.tdiv (wu64 ((wu64 ((wu64 (x_un32.val * 4294967296)).val + x_un1.val)).val - (wu64 ((wu64 (x_q1.val - 1)).val * x_y.val)).val)).val x_yn1.val)).val * x_yn1.val)).val)).val).toNat + 1) x_y x_s x_yn1 x_yn0 x_un0 (wu64 (x_q1.val - 1)) (wu64 ((wu64 ((wu64 (x_un32.val * 4294967296)).val + x_un1.val)).val - (wu64 ((wu64 (x_q1.val - 1)).val * x_y.val)).val)) (wu64 ((wu64 ((wu64 ((wu64 (x_un32.val * 4294967296)).val + x_un1.val)).val - (wu64 ((wu64 (x_q1.val - 1)).val * x_y.val)).val)).val - (wu64 ((wu64 (Int.tdiv (wu64 ((wu64 ((wu64 (x_un32.val * 4294967296)).val + x_un1.val)).val - (wu64 ((wu64 (x_q1.val - 1)).val * x_y.val)).val)).val x_yn1.val)).val * x_yn1.val)).val)) (wu64 (Int.tdiv (wu64 ((wu64 ((wu64 (x_un32.val * 4294967296)).val + x_un1.val)).val - (wu64 ((wu64 (x_q1.val - 1)).val * x_y.val)).val)).val x_yn1.val)) else F_bits_Div64_L0 fu x_y x_s x_yn1 x_yn0 x_un32 x_un1 x_un0 (wu64 (x_q1.val - 1)) (wu64 (x_rhat.val + x_yn1.val))) else F_bits_Div64_L1 ((4294967296 - (wu64 ((wu64 ((wu64 ((wu64 (x_un32.val * 4294967296)).val + x_un1.val)).val - (wu64 (x_q1.val * x_y.val)).val)).val - (wu64 ((wu64 (Int.tdiv (wu64 ((wu64 ((wu64 (x_un32.val * 4294967296)).val + x_un1.val)).val - (wu64 (x_q1.val * x_y.val)).val)).val x_yn1.val)).val * x_yn1.val)).val)).val).toNat + 1) x_y x_s x_yn1 x_yn0 x_un0 x_q1 (wu64 ((wu64 ((wu64 (x_un32.val * 4294967296)).val + x_un1.val)).val - (wu64 (x_q1.val * x_y.val)).val)) (wu64 ((wu64 ((wu64 ((wu64 (x_un32.val * 4294967296)).val + x_un1.val)).val - (wu64 (x_q1.val * x_y.val)).val)).val - (wu64 ((wu64 (Int.tdiv (wu64 ((wu64 ((wu64 (x_un32.val * 4294967296)).val + x_un1.val)).val - (wu64 (x_q1.val * x_y.val)).val)).val x_yn1.val)).val * x_yn1.val)).val)) (wu64 (Int.tdiv (wu64 ((wu64 ((wu64 (x_un32.val * 4294967296)).val + x_un1.val)).val - (wu64 (x_q1.val * x_y.val)).val)).val x_yn1.val))))
def F_bits_Div64 (a0 : U64) (a1 : U64) (a2 : U64) : U64 × U64:=
  (bif (a0.val == 0) then ((wu64 (Int.tdiv a1.val a2.val)),(imod a1 a2.val)) else bindP (F_bits_LeadingZeros64 a2) fun r2=>F_bits_Div64_L0 ((4294967296 - (wu64 ((ior .u64 (ishl .u64 a0.val (wu64 r2.val).val).val (ishr a1 (wu64 (64 - (wu64 r2.val).val)).val).val).val - (wu64 ((wu64 (Int.tdiv (ior .u64 (ishl .u64 a0.val (wu64 r2.val).val).val (ishr a1 (wu64 (64 - (wu64 r2.val).val)).val).val).val (ishr (ishl .u64 a2.val (wu64 r2.val).val) 32).val)).val * (ishr (ishl .u64 a2.val (wu64 r2.val).val) 32).val)).val)).val).toNat + 1) (ishl .u64 a2.val (wu64 r2.val).val) (wu64 r2.val) (ishr (ishl .u64 a2.val (wu64 r2.val).val) 32) (iand .u64 (ishl .u64 a2.val (wu64 r2.val).val).val 4294967295) (ior .u64 (ishl .u64 a0.val (wu64 r2.val).val).val (ishr a1 (wu64 (64 - (wu64 r2.val).val)).val).val) (ishr (ishl .u64 a1.val (wu64 r2.val).val) 32) (iand .u64 (ishl .u64 a1.val (wu64 r2.val).val).val 4294967295) (wu64 (Int.tdiv (ior .u64 (ishl .u64 a0.val (wu64 r2.val).val).val (ishr a1 (wu64 (64 - (wu64 r2.val).val)).val).val).val (ishr (ishl .u64 a2.val (wu64 r2.val).val) 32).val)) (wu64 ((ior .u64 (ishl .u64 a0.val (wu64 r2.val).val).val (ishr a1 (wu64 (64 - (wu64 r2.val).val)).val).val).val - (wu64 ((wu64 (Int.tdiv (ior .u64 (ishl .u64 a0.val (wu64 r2.val).val).val (ishr a1 (wu64 (64 - (wu64 r2.val).val)).val).val).val (ishr (ishl .u64 a2.val (wu64 r2.val).val) 32).val)).val * (ishr (ishl .u64 a2.val (wu64 r2.val).val) 32).val)).val)))
def I_divided (a0 : U64) (a1 : U64) (a2 : U64) : U64 × U64 × U64:=
  bindP (F_bits_Div64 (imod a0 a2.val) a1 a2) fun r1=>((wu64 (Int.tdiv a0.val a2.val)),r1.1,r1.2)
def I_Wide_negative (a0 : Wd) : Wd:=
  (⟨(w64 (sbb_lo (cu64 0) (wu64 a0.hi.val) (sbb_hi (cu64 0) a0.lo (cu64 0))).val),(sbb_lo (cu64 0) a0.lo (cu64 0))⟩ : Wd)
def I_WideDiv (a0 : Wd) (a1 : I64) : Wd × I64 × Bool:=
  (bif (decide (a1.val ≤ 0)) then ((⟨(c64 0),(cu64 0)⟩ : Wd),(c64 0),false) else (bif (decide (a0.hi.val ≥ 0)) then bindP (I_divided (wu64 a0.hi.val) a0.lo (wu64 a1.val)) fun r3=>((⟨(w64 r3.1.val),r3.2.1⟩ : Wd),(w64 r3.2.2.val),true) else bindP (I_Wide_negative a0) fun r4=>bindP (I_divided (wu64 r4.hi.val) r4.lo (wu64 a1.val)) fun r5=>(bif (r5.2.2.val == 0) then bindP (I_Wide_negative (⟨(w64 r5.1.val),r5.2.1⟩ : Wd)) fun r7=>(r7,(c64 0),true) else bindP (I_Wide_negative (⟨(w64 (wu64 (r5.1.val + (adc_hi r5.2.1 (cu64 1) (cu64 0)).val)).val),(adc_lo r5.2.1 (cu64 1) (cu64 0))⟩ : Wd)) fun r8=>(r8,(w64 (a1.val - (w64 r5.2.2.val).val)),true))))
def I_WideOf (a0 : I64) : Wd:=
  (⟨(ishr a0 63),(wu64 a0.val)⟩ : Wd)
def I_WideInt (a0 : Wd) : I64 × Bool:=
  bindP (I_WideOf (w64 a0.lo.val)) fun r1=>(bif (!((r1.hi.val == a0.hi.val) && (r1.lo.val == a0.lo.val))) then ((c64 0),false) else ((w64 a0.lo.val),true))
def I_MulDivFloor (a0 : I64) (a1 : I64) (a2 : I64) : I64 × Bool:=
  bindP (I_WideMul a0 a1) fun r1=>bindP (I_WideDiv r1 a2) fun r2=>(bif (!r2.2.2) then ((c64 0),false) else bindP (I_WideInt r2.1) fun r3=>(r3.1,r3.2))
def I_ValidFix (a0 : I64) : Bool:=
  bindP (I_within a0 (c64 (-1152921504606846976)) (c64 1152921504606846976)) fun r1=>r1
def I_fixed (a0 : I64) (a1 : Bool) : I64 × Bool:=
  (bif (!a1) then ((c64 0),false) else bindP (I_ValidFix a0) fun r1=>(bif (!r1) then ((c64 0),false) else (a0,true)))
def I_FixFloor (a0 : I64) (a1 : I64) : I64 × Bool:=
  bindP (I_MulDivFloor a0 (c64 4294967296) a1) fun r1=>bindP (I_fixed r1.1 r1.2) fun r2=>(r2.1,r2.2)
def I_mulDivCeil (a0 : I64) (a1 : I64) (a2 : I64) : I64 × Bool:=
  bindP (I_WideMul a0 a1) fun r1=>bindP (I_WideDiv r1 a2) fun r2=>(bif (!r2.2.2) then ((c64 0),false) else bindP (I_WideInt r2.1) fun r3=>(bif (!r3.2) then ((c64 0),false) else (bif (decide (r2.2.1.val > 0)) then (bif (r3.1.val == 9223372036854775807) then ((c64 0),false) else (bif (decide (r2.2.1.val > 0)) then ((w64 (r3.1.val + 1)),true) else (r3.1,true))) else (bif (decide (r2.2.1.val > 0)) then ((w64 (r3.1.val + 1)),true) else (r3.1,true)))))
end Go.Proofs.YtfhnlkinjbakgaaGreatDoor.Abs
set_option linter.unusedVariables false
set_option linter.unusedSimpArgs false
namespace Go.Proofs.YtfhnlkinjbakgaaGreatDoor.Abs
open Go Go.RowKit
def I_FixCeil (a0 : I64) (a1 : I64) : I64 × Bool:=
  bindP (I_mulDivCeil a0 (c64 4294967296) a1) fun r1=>bindP (I_fixed r1.1 r1.2) fun r2=>(r2.1,r2.2)
def I_Quotient (a0 : I64) (a1 : I64) : Iv:=
  (bif (decide (a1.val < 0)) then (bif (decide ((w64 (0 - a1.val)).val < 0)) then bindP (I_Whole) fun r1=>r1 else (bif ((w64 (0 - a0.val)).val == (-9223372036854775808)) then bindP (I_Whole) fun r2=>r2 else bindP (I_FixFloor (w64 (0 - a0.val)) (w64 (0 - a1.val))) fun r3=>bindP (I_FixCeil (w64 (0 - a0.val)) (w64 (0 - a1.val))) fun r4=>(bif r3.2 then bindP (I_bounded r3.1 r4.1 r4.2) fun r5=>r5 else bindP (I_bounded r3.1 r4.1 false) fun r6=>r6))) else bindP (I_FixFloor a0 a1) fun r7=>bindP (I_FixCeil a0 a1) fun r8=>(bif r7.2 then bindP (I_bounded r7.1 r8.1 r8.2) fun r9=>r9 else bindP (I_bounded r7.1 r8.1 false) fun r10=>r10))
def I_areBounded (a0 : Iv) (a1 : Iv) : Bool:=
  bindP (I_ValidInterval a0) fun r1=>(bif r1 then bindP (I_ValidInterval a1) fun r2=>r2 else false)
def I_AddI (a0 : Iv) (a1 : Iv) : Iv:=
  bindP (I_areBounded a0 a1) fun r1=>(bif (!r1) then bindP (I_Whole) fun r2=>r2 else bindP (I_bounded (w64 (a0.lo.val + a1.lo.val)) (w64 (a0.hi.val + a1.hi.val)) true) fun r3=>r3)
def I_IsWhole (a0 : Iv) : Bool:=
  bindP (I_ValidInterval a0) fun r1=>(!r1)
def I_NegI (a0 : Iv) : Iv:=
  bindP (I_IsWhole a0) fun r1=>(bif r1 then bindP (I_Whole) fun r2=>r2 else (⟨(w64 (0 - a0.hi.val)),(w64 (0 - a0.lo.val))⟩ : Iv))
def I_WideShift (a0 : Wd) (a1 : I64) : Wd:=
  bindP (I_within a1 (c64 0) (c64 127)) fun r1=>(bif (!r1) then (⟨(c64 0),(cu64 0)⟩ : Wd) else (bif (decide (a1.val ≥ 64)) then (⟨(ishr a0.hi 63),(wu64 (ishr a0.hi (w64 (a1.val - 64)).val).val)⟩ : Wd) else (⟨(ishr a0.hi a1.val),(ior .u64 (ishr a0.lo a1.val).val (ishl .u64 (wu64 a0.hi.val).val (w64 (64 - a1.val)).val).val)⟩ : Wd)))
def I_MulFloor (a0 : I64) (a1 : I64) (a2 : I64) : I64 × Bool:=
  bindP (I_within a2 (c64 0) (c64 126)) fun r1=>(bif (!r1) then ((c64 0),false) else bindP (I_WideMul a0 a1) fun r2=>bindP (I_WideShift r2 a2) fun r3=>bindP (I_WideInt r3) fun r4=>(r4.1,r4.2))
def I_TurnI_r : Nat → I64 → Iv
  | 0,_=>(⟨(c64 0),(c64 0)⟩ : Iv)
  | fu + 1,a0=>bindP (I_within a0 (c64 (-4096)) (c64 4096)) fun r1=>(bif (!r1) then bindP (I_Whole) fun r3=>r3 else (bif (decide (a0.val < 0)) then bindP (I_TurnI_r fu (w64 (0 - a0.val))) fun r5=>bindP (I_NegI r5) fun r6=>r6 else (bif (a0.val == 0) then (⟨(c64 0),(c64 0)⟩ : Iv) else bindP (I_MulFloor a0 (c64 7244019458077122842) (c64 30)) fun r8=>(⟨r8.1,(w64 (r8.1.val + 1))⟩ : Iv))))
def I_TurnI (a0 : I64) : Iv:=I_TurnI_r 2 a0
def I_PiI : Iv:=
  bindP (I_TurnI (c64 2)) fun r1=>r1
def I_MulDown (a0 : I64) (a1 : I64) : I64 × Bool:=
  bindP (I_ValidFix a0) fun r1=>(bif (!r1) then ((c64 0),false) else bindP (I_ValidFix a1) fun r2=>(bif (!r2) then ((c64 0),false) else bindP (I_MulFloor a0 a1 (c64 32)) fun r3=>bindP (I_fixed r3.1 r3.2) fun r4=>(r4.1,r4.2)))
def I_MulUp (a0 : I64) (a1 : I64) : I64 × Bool:=
  bindP (I_ValidFix a0) fun r1=>(bif (!r1) then ((c64 0),false) else bindP (I_ValidFix a1) fun r2=>(bif (!r2) then ((c64 0),false) else bindP (I_MulDown (w64 (0 - a0.val)) a1) fun r3=>((w64 (0 - r3.1.val)),r3.2)))
def I_combine__impl_MulDown__impl_MulUp (a0 : Iv) (a1 : Iv) : Iv:=
  bindP (I_MulDown a0.lo a1.lo) fun r1=>bindP (I_MulUp a0.lo a1.lo) fun r2=>(bif (!r1.2) then bindP (I_Whole) fun r3=>r3 else (bif (!r2.2) then bindP (I_Whole) fun r4=>r4 else bindP (I_MulDown a0.lo a1.hi) fun r5=>bindP (I_MulUp a0.lo a1.hi) fun r6=>(bif (!r5.2) then bindP (I_Whole) fun r7=>r7 else (bif (!r6.2) then bindP (I_Whole) fun r8=>r8 else bindP (I_MulDown a0.hi a1.lo) fun r9=>bindP (I_MulUp a0.hi a1.lo) fun r10=>(bif (!r9.2) then bindP (I_Whole) fun r11=>r11 else (bif (!r10.2) then bindP (I_Whole) fun r12=>r12 else bindP (I_MulDown a0.hi a1.hi) fun r13=>bindP (I_MulUp a0.hi a1.hi) fun r14=>(bif (!r13.2) then bindP (I_Whole) fun r15=>r15 else (bif (!r14.2) then bindP (I_Whole) fun r16=>r16 else bindP (I_bounded (mn (mn (mn (mn r1.1 r1.1) r5.1) r9.1) r13.1) (mx (mx (mx (mx r2.1 r2.1) r6.1) r10.1) r14.1) true) fun r17=>r17))))))))
def I_MulI (a0 : Iv) (a1 : Iv) : Iv:=
  bindP (I_areBounded a0 a1) fun r1=>(bif (!r1) then bindP (I_Whole) fun r2=>r2 else bindP (I_combine__impl_MulDown__impl_MulUp a0 a1) fun r3=>r3)
def I_affineOf_1__pIv (b0 : Iv) (a0 : I64) : Iv:=
  bindP (I_PiI) fun r1=>bindP (I_Quotient a0 (c64 648000000000)) fun r2=>bindP (I_MulI r1 r2) fun r3=>bindP (I_MulI b0 r3) fun r4=>r4
def I_affineOf (a0 : Sf) : Af:=
  bindP (I_Integer (c64 1)) fun r1=>bindP (I_Quotient a0.sc (c64 1000000000)) fun r2=>bindP (I_AddI r1 r2) fun r3=>bindP (I_affineOf_1__pIv r3 a0.rx) fun r4=>bindP (I_affineOf_1__pIv r3 a0.ry) fun r5=>bindP (I_affineOf_1__pIv r3 a0.rz) fun r6=>bindP (I_NegI r5) fun r7=>bindP (I_NegI r6) fun r8=>bindP (I_NegI r4) fun r9=>bindP (I_Quotient a0.tx (c64 1000)) fun r10=>bindP (I_Quotient a0.ty (c64 1000)) fun r11=>bindP (I_Quotient a0.tz (c64 1000)) fun r12=>(⟨(⟨(⟨r3,r6,r7⟩ : Vc),(⟨r8,r3,r4⟩ : Vc),(⟨r5,r9,r3⟩ : Vc)⟩ : Mt),(⟨r10,r11,r12⟩ : Vc)⟩ : Af)
def I_AffineOf (a0 : Sf) : Af × I64:=
  bindP (I_ValidShift a0) fun r1=>(bif (!r1) then ((⟨(⟨(⟨(⟨(c64 0),(c64 0)⟩ : Iv),(⟨(c64 0),(c64 0)⟩ : Iv),(⟨(c64 0),(c64 0)⟩ : Iv)⟩ : Vc),(⟨(⟨(c64 0),(c64 0)⟩ : Iv),(⟨(c64 0),(c64 0)⟩ : Iv),(⟨(c64 0),(c64 0)⟩ : Iv)⟩ : Vc),(⟨(⟨(c64 0),(c64 0)⟩ : Iv),(⟨(c64 0),(c64 0)⟩ : Iv),(⟨(c64 0),(c64 0)⟩ : Iv)⟩ : Vc)⟩ : Mt),(⟨(⟨(c64 0),(c64 0)⟩ : Iv),(⟨(c64 0),(c64 0)⟩ : Iv),(⟨(c64 0),(c64 0)⟩ : Iv)⟩ : Vc)⟩ : Af),(c64 1)) else bindP (I_affineOf a0) fun r2=>(r2,(c64 0)))
def I_SubI (a0 : Iv) (a1 : Iv) : Iv:=
  bindP (I_NegI a1) fun r1=>bindP (I_AddI a0 r1) fun r2=>r2
def I_CrossV (a0 : Vc) (a1 : Vc) : Vc:=
  bindP (I_MulI a0.y a1.z) fun r1=>bindP (I_MulI a0.z a1.y) fun r2=>bindP (I_SubI r1 r2) fun r3=>bindP (I_MulI a0.z a1.x) fun r4=>bindP (I_MulI a0.x a1.z) fun r5=>bindP (I_SubI r4 r5) fun r6=>bindP (I_MulI a0.x a1.y) fun r7=>bindP (I_MulI a0.y a1.x) fun r8=>bindP (I_SubI r7 r8) fun r9=>(⟨r3,r6,r9⟩ : Vc)
def I_DotV (a0 : Vc) (a1 : Vc) : Iv:=
  bindP (I_MulI a0.x a1.x) fun r1=>bindP (I_MulI a0.y a1.y) fun r2=>bindP (I_AddI r1 r2) fun r3=>bindP (I_MulI a0.z a1.z) fun r4=>bindP (I_AddI r3 r4) fun r5=>r5
def I_HasI (a0 : Iv) (a1 : I64) : Bool:=
  bindP (I_IsWhole a0) fun r1=>(bif r1 then true else bindP (I_within a1 a0.lo a0.hi) fun r2=>r2)
def I_transposed (a0 : Mt) : Mt:=
  (⟨(⟨a0.a.x,a0.b.x,a0.c.x⟩ : Vc),(⟨a0.a.y,a0.b.y,a0.c.y⟩ : Vc),(⟨a0.a.z,a0.b.z,a0.c.z⟩ : Vc)⟩ : Mt)
def I_DivDown (a0 : I64) (a1 : I64) : I64 × Bool:=
  bindP (I_ValidFix a0) fun r1=>(bif (!r1) then ((c64 0),false) else bindP (I_ValidFix a1) fun r2=>(bif (!r2) then ((c64 0),false) else (bif (decide (a1.val < 0)) then bindP (I_MulDivFloor (w64 (0 - a0.val)) (c64 4294967296) (w64 (0 - a1.val))) fun r3=>bindP (I_fixed r3.1 r3.2) fun r4=>(r4.1,r4.2) else bindP (I_MulDivFloor a0 (c64 4294967296) a1) fun r5=>bindP (I_fixed r5.1 r5.2) fun r6=>(r6.1,r6.2))))
def I_DivUp (a0 : I64) (a1 : I64) : I64 × Bool:=
  bindP (I_ValidFix a0) fun r1=>(bif (!r1) then ((c64 0),false) else bindP (I_ValidFix a1) fun r2=>(bif (!r2) then ((c64 0),false) else bindP (I_DivDown (w64 (0 - a0.val)) a1) fun r3=>((w64 (0 - r3.1.val)),r3.2)))
def I_combine__impl_DivDown__impl_DivUp (a0 : Iv) (a1 : Iv) : Iv:=
  bindP (I_DivDown a0.lo a1.lo) fun r1=>bindP (I_DivUp a0.lo a1.lo) fun r2=>(bif (!r1.2) then bindP (I_Whole) fun r3=>r3 else (bif (!r2.2) then bindP (I_Whole) fun r4=>r4 else bindP (I_DivDown a0.lo a1.hi) fun r5=>bindP (I_DivUp a0.lo a1.hi) fun r6=>(bif (!r5.2) then bindP (I_Whole) fun r7=>r7 else (bif (!r6.2) then bindP (I_Whole) fun r8=>r8 else bindP (I_DivDown a0.hi a1.lo) fun r9=>bindP (I_DivUp a0.hi a1.lo) fun r10=>(bif (!r9.2) then bindP (I_Whole) fun r11=>r11 else (bif (!r10.2) then bindP (I_Whole) fun r12=>r12 else bindP (I_DivDown a0.hi a1.hi) fun r13=>bindP (I_DivUp a0.hi a1.hi) fun r14=>(bif (!r13.2) then bindP (I_Whole) fun r15=>r15 else (bif (!r14.2) then bindP (I_Whole) fun r16=>r16 else bindP (I_bounded (mn (mn (mn (mn r1.1 r1.1) r5.1) r9.1) r13.1) (mx (mx (mx (mx r2.1 r2.1) r6.1) r10.1) r14.1) true) fun r17=>r17))))))))
def I_DivI (a0 : Iv) (a1 : Iv) : Iv:=
  bindP (I_areBounded a0 a1) fun r1=>(bif (!r1) then bindP (I_Whole) fun r2=>r2 else bindP (I_HasI a1 (c64 0)) fun r3=>(bif r3 then bindP (I_Whole) fun r4=>r4 else bindP (I_combine__impl_DivDown__impl_DivUp a0 a1) fun r5=>r5))
def I_dividedV (a0 : Vc) (a1 : Iv) : Vc:=
  bindP (I_DivI a0.x a1) fun r1=>bindP (I_DivI a0.y a1) fun r2=>bindP (I_DivI a0.z a1) fun r3=>(⟨r1,r2,r3⟩ : Vc)
def I_InverseM (a0 : Mt) : Mt × Bool:=
  bindP (I_CrossV a0.b a0.c) fun r1=>bindP (I_CrossV a0.c a0.a) fun r2=>bindP (I_CrossV a0.a a0.b) fun r3=>bindP (I_DotV a0.a r1) fun r4=>bindP (I_HasI r4 (c64 0)) fun r5=>(bif r5 then ((⟨(⟨(⟨(c64 0),(c64 0)⟩ : Iv),(⟨(c64 0),(c64 0)⟩ : Iv),(⟨(c64 0),(c64 0)⟩ : Iv)⟩ : Vc),(⟨(⟨(c64 0),(c64 0)⟩ : Iv),(⟨(c64 0),(c64 0)⟩ : Iv),(⟨(c64 0),(c64 0)⟩ : Iv)⟩ : Vc),(⟨(⟨(c64 0),(c64 0)⟩ : Iv),(⟨(c64 0),(c64 0)⟩ : Iv),(⟨(c64 0),(c64 0)⟩ : Iv)⟩ : Vc)⟩ : Mt),false) else bindP (I_transposed (⟨r1,r2,r3⟩ : Mt)) fun r6=>bindP (I_dividedV r6.a r4) fun r7=>bindP (I_dividedV r6.b r4) fun r8=>bindP (I_dividedV r6.c r4) fun r9=>((⟨r7,r8,r9⟩ : Mt),true))
def I_ApplyM (a0 : Mt) (a1 : Vc) : Vc:=
  bindP (I_DotV a0.a a1) fun r1=>bindP (I_DotV a0.b a1) fun r2=>bindP (I_DotV a0.c a1) fun r3=>(⟨r1,r2,r3⟩ : Vc)
def I_InvertAffine (a0 : Af) : Af × Bool:=
  bindP (I_InverseM a0.m) fun r1=>(bif (!r1.2) then ((⟨(⟨(⟨(⟨(c64 0),(c64 0)⟩ : Iv),(⟨(c64 0),(c64 0)⟩ : Iv),(⟨(c64 0),(c64 0)⟩ : Iv)⟩ : Vc),(⟨(⟨(c64 0),(c64 0)⟩ : Iv),(⟨(c64 0),(c64 0)⟩ : Iv),(⟨(c64 0),(c64 0)⟩ : Iv)⟩ : Vc),(⟨(⟨(c64 0),(c64 0)⟩ : Iv),(⟨(c64 0),(c64 0)⟩ : Iv),(⟨(c64 0),(c64 0)⟩ : Iv)⟩ : Vc)⟩ : Mt),(⟨(⟨(c64 0),(c64 0)⟩ : Iv),(⟨(c64 0),(c64 0)⟩ : Iv),(⟨(c64 0),(c64 0)⟩ : Iv)⟩ : Vc)⟩ : Af),false) else bindP (I_ApplyM r1.1 a0.t) fun r2=>bindP (I_NegI r2.x) fun r3=>bindP (I_NegI r2.y) fun r4=>bindP (I_NegI r2.z) fun r5=>((⟨r1.1,(⟨r3,r4,r5⟩ : Vc)⟩ : Af),true))
def I_AddV (a0 : Vc) (a1 : Vc) : Vc:=
  bindP (I_AddI a0.x a1.x) fun r1=>bindP (I_AddI a0.y a1.y) fun r2=>bindP (I_AddI a0.z a1.z) fun r3=>(⟨r1,r2,r3⟩ : Vc)
def I_ApplyAffine (a0 : Af) (a1 : Vc) : Vc:=
  bindP (I_ApplyM a0.m a1) fun r1=>bindP (I_AddV r1 a0.t) fun r2=>r2
def S_OverlapV (a0 : Vc) (a1 : Vc) : Bool:=
  bindP (S_OverlapI a0.x a1.x) fun r1=>(bif r1 then bindP (S_OverlapI a0.y a1.y) fun r2=>(bif r2 then bindP (S_OverlapI a0.z a1.z) fun r3=>r3 else false) else false)
def I_MulM (a0 : Mt) (a1 : Mt) : Mt:=
  bindP (I_transposed a1) fun r1=>bindP (I_ApplyM r1 a0.a) fun r2=>bindP (I_ApplyM r1 a0.b) fun r3=>bindP (I_ApplyM r1 a0.c) fun r4=>(⟨r2,r3,r4⟩ : Mt)
def I_ThenAffine (a0 : Af) (a1 : Af) : Af:=
  bindP (I_MulM a1.m a0.m) fun r1=>bindP (I_ApplyAffine a1 a0.t) fun r2=>(⟨r1,r2⟩ : Af)
def I_OppositeShift (a0 : Sf) : Sf × I64:=
  bindP (I_ValidShift a0) fun r1=>(bif (!r1) then ((⟨(c64 0),(c64 0),(c64 0),(c64 0),(c64 0),(c64 0),(c64 0)⟩ : Sf),(c64 1)) else ((⟨(w64 (0 - a0.tx.val)),(w64 (0 - a0.ty.val)),(w64 (0 - a0.tz.val)),(w64 (0 - a0.rx.val)),(w64 (0 - a0.ry.val)),(w64 (0 - a0.rz.val)),(w64 (0 - a0.sc.val))⟩ : Sf),(c64 0)))
def L_FnShifts (c0 : Cd) (c1 : Cd) : Bool:=
  bindP (L_d8Long c0 c1) fun r1=>(bif r1 then true else bindP (S_E8Shift c0) fun r2=>bindP (S_E8Ellipsoid c1) fun r3=>bindP (S_E8Place c1) fun r4=>bindP (S_ToCartesian r3 r4) fun r5=>bindP (I_AffineOf r2) fun r6=>bindP (S_E8Shift c1) fun r7=>bindP (I_AffineOf r7) fun r8=>bindP (I_InvertAffine r6.1) fun r9=>bindP (I_ShiftText r2) fun r10=>bindP (I_ReadShift r10) fun r11=>(bif (r6.2.val != 0) then false else (bif (r8.2.val != 0) then false else (bif (!r9.2) then false else (bif (!r11.2) then false else (bif (!((r11.1.tx.val == r2.tx.val) && ((r11.1.ty.val == r2.ty.val) && ((r11.1.tz.val == r2.tz.val) && ((r11.1.rx.val == r2.rx.val) && ((r11.1.ry.val == r2.ry.val) && ((r11.1.rz.val == r2.rz.val) && ((r11.1.sc.val == r2.sc.val) && true)))))))) then false else bindP (I_ApplyAffine r6.1 r5.1) fun r12=>bindP (I_ApplyAffine r9.1 r12) fun r13=>bindP (S_OverlapV r13 r5.1) fun r14=>(bif (!r14) then false else bindP (I_ThenAffine r6.1 r8.1) fun r15=>bindP (I_ApplyAffine r15 r5.1) fun r16=>bindP (I_ApplyAffine r8.1 r12) fun r17=>bindP (S_OverlapV r16 r17) fun r18=>(bif (!r18) then false else bindP (I_OppositeShift r2) fun r19=>bindP (I_OppositeShift r19.1) fun r20=>(bif (r19.2.val == 0) then (bif (r20.2.val == 0) then ((r20.1.tx.val == r2.tx.val) && ((r20.1.ty.val == r2.ty.val) && ((r20.1.tz.val == r2.tz.val) && ((r20.1.rx.val == r2.rx.val) && ((r20.1.ry.val == r2.ry.val) && ((r20.1.rz.val == r2.rz.val) && ((r20.1.sc.val == r2.sc.val) && true))))))) else false) else false)))))))))
end Go.Proofs.YtfhnlkinjbakgaaGreatDoor.Abs
set_option linter.unusedVariables false
namespace Go.Proofs.YtfhnlkinjbakgaaGreatDoor.Abs
open Go
def S_AddV (a0 : Vc) (a1 : Vc) : Vc:=
  bindP (S_AddI a0.x a1.x) fun r1=>bindP (S_AddI a0.y a1.y) fun r2=>bindP (S_AddI a0.z a1.z) fun r3=>(⟨r1,r2,r3⟩ : Vc)
def S_l23Ok__pSf (b0 : Sf) : Bool:=
  bindP (S_l00In b0.tx (c64 (-10000000)) (c64 10000000)) fun r1=>(bif (!r1) then false else bindP (S_l00In b0.rx (c64 (-100000000)) (c64 100000000)) fun r2=>(bif (!r2) then false else bindP (S_l00In b0.ty (c64 (-10000000)) (c64 10000000)) fun r3=>(bif (!r3) then false else bindP (S_l00In b0.ry (c64 (-100000000)) (c64 100000000)) fun r4=>(bif (!r4) then false else bindP (S_l00In b0.tz (c64 (-10000000)) (c64 10000000)) fun r5=>(bif (!r5) then false else bindP (S_l00In b0.rz (c64 (-100000000)) (c64 100000000)) fun r6=>(bif (!r6) then false else bindP (S_l00In b0.sc (c64 (-1000000)) (c64 1000000)) fun r7=>r7))))))
def S_PiI : Iv:=
  bindP (S_l05Turn (c64 2)) fun r1=>r1
def S_l23Arc (a0 : I64) : Iv:=
  bindP (S_PiI) fun r1=>bindP (S_Quotient a0 (c64 648000000000)) fun r2=>bindP (S_MulI r1 r2) fun r3=>r3
def S_l23Affine__pSf (b0 : Sf) : Af:=
  bindP (S_Integer (c64 1)) fun r1=>bindP (S_Quotient b0.sc (c64 1000000000)) fun r2=>bindP (S_AddI r1 r2) fun r3=>bindP (S_l23Arc b0.rx) fun r4=>bindP (S_MulI r3 r4) fun r5=>bindP (S_l23Arc b0.ry) fun r6=>bindP (S_MulI r3 r6) fun r7=>bindP (S_l23Arc b0.rz) fun r8=>bindP (S_MulI r3 r8) fun r9=>bindP (S_NegI r7) fun r10=>bindP (S_NegI r9) fun r11=>bindP (S_NegI r5) fun r12=>bindP (S_Quotient b0.tx (c64 1000)) fun r13=>bindP (S_Quotient b0.ty (c64 1000)) fun r14=>bindP (S_Quotient b0.tz (c64 1000)) fun r15=>(⟨(⟨(⟨r3,r9,r10⟩ : Vc),(⟨r11,r3,r5⟩ : Vc),(⟨r7,r12,r3⟩ : Vc)⟩ : Mt),(⟨r13,r14,r15⟩ : Vc)⟩ : Af)
def S_AffineOf (a0 : Sf) : Af × I64:=
  bindP (S_l23Ok__pSf a0) fun r1=>(bif (!r1) then ((⟨(⟨(⟨(⟨(c64 0),(c64 0)⟩ : Iv),(⟨(c64 0),(c64 0)⟩ : Iv),(⟨(c64 0),(c64 0)⟩ : Iv)⟩ : Vc),(⟨(⟨(c64 0),(c64 0)⟩ : Iv),(⟨(c64 0),(c64 0)⟩ : Iv),(⟨(c64 0),(c64 0)⟩ : Iv)⟩ : Vc),(⟨(⟨(c64 0),(c64 0)⟩ : Iv),(⟨(c64 0),(c64 0)⟩ : Iv),(⟨(c64 0),(c64 0)⟩ : Iv)⟩ : Vc)⟩ : Mt),(⟨(⟨(c64 0),(c64 0)⟩ : Iv),(⟨(c64 0),(c64 0)⟩ : Iv),(⟨(c64 0),(c64 0)⟩ : Iv)⟩ : Vc)⟩ : Af),(c64 1)) else bindP (S_l23Affine__pSf a0) fun r2=>(r2,(c64 0)))
def S_DotV (a0 : Vc) (a1 : Vc) : Iv:=
  bindP (S_MulI a0.x a1.x) fun r1=>bindP (S_MulI a0.y a1.y) fun r2=>bindP (S_AddI r1 r2) fun r3=>bindP (S_MulI a0.z a1.z) fun r4=>bindP (S_AddI r3 r4) fun r5=>r5
def S_ApplyM (a0 : Mt) (a1 : Vc) : Vc:=
  bindP (S_DotV a0.a a1) fun r1=>bindP (S_DotV a0.b a1) fun r2=>bindP (S_DotV a0.c a1) fun r3=>(⟨r1,r2,r3⟩ : Vc)
def S_ApplyAffine (a0 : Af) (a1 : Vc) : Vc:=
  bindP (S_ApplyM a0.m a1) fun r1=>bindP (S_AddV r1 a0.t) fun r2=>r2
def S_CrossV (a0 : Vc) (a1 : Vc) : Vc:=
  bindP (S_MulI a0.y a1.z) fun r1=>bindP (S_MulI a0.z a1.y) fun r2=>bindP (S_SubI r1 r2) fun r3=>bindP (S_MulI a0.z a1.x) fun r4=>bindP (S_MulI a0.x a1.z) fun r5=>bindP (S_SubI r4 r5) fun r6=>bindP (S_MulI a0.x a1.y) fun r7=>bindP (S_MulI a0.y a1.x) fun r8=>bindP (S_SubI r7 r8) fun r9=>(⟨r3,r6,r9⟩ : Vc)
def S_HasI (a0 : Iv) (a1 : I64) : Bool:=
  bindP (S_l04Ok a0) fun r1=>(bif (!r1) then true else bindP (S_l04Has a0 a1) fun r2=>r2)
def S_l10Columns (a0 : Mt) : Mt:=
  (⟨(⟨a0.a.x,a0.b.x,a0.c.x⟩ : Vc),(⟨a0.a.y,a0.b.y,a0.c.y⟩ : Vc),(⟨a0.a.z,a0.b.z,a0.c.z⟩ : Vc)⟩ : Mt)
def S_l10Over (a0 : Vc) (a1 : Iv) : Vc:=
  bindP (S_DivI a0.x a1) fun r1=>bindP (S_DivI a0.y a1) fun r2=>bindP (S_DivI a0.z a1) fun r3=>(⟨r1,r2,r3⟩ : Vc)
def S_InverseM (a0 : Mt) : Mt × Bool:=
  bindP (S_CrossV a0.b a0.c) fun r1=>bindP (S_CrossV a0.c a0.a) fun r2=>bindP (S_CrossV a0.a a0.b) fun r3=>bindP (S_DotV a0.a r1) fun r4=>bindP (S_HasI r4 (c64 0)) fun r5=>(bif r5 then ((⟨(⟨(⟨(c64 0),(c64 0)⟩ : Iv),(⟨(c64 0),(c64 0)⟩ : Iv),(⟨(c64 0),(c64 0)⟩ : Iv)⟩ : Vc),(⟨(⟨(c64 0),(c64 0)⟩ : Iv),(⟨(c64 0),(c64 0)⟩ : Iv),(⟨(c64 0),(c64 0)⟩ : Iv)⟩ : Vc),(⟨(⟨(c64 0),(c64 0)⟩ : Iv),(⟨(c64 0),(c64 0)⟩ : Iv),(⟨(c64 0),(c64 0)⟩ : Iv)⟩ : Vc)⟩ : Mt),false) else bindP (S_l10Columns (⟨r1,r2,r3⟩ : Mt)) fun r6=>bindP (S_l10Over r6.a r4) fun r7=>bindP (S_l10Over r6.b r4) fun r8=>bindP (S_l10Over r6.c r4) fun r9=>((⟨r7,r8,r9⟩ : Mt),true))
def S_InvertAffine (a0 : Af) : Af × Bool:=
  bindP (S_InverseM a0.m) fun r1=>(bif (!r1.2) then ((⟨(⟨(⟨(⟨(c64 0),(c64 0)⟩ : Iv),(⟨(c64 0),(c64 0)⟩ : Iv),(⟨(c64 0),(c64 0)⟩ : Iv)⟩ : Vc),(⟨(⟨(c64 0),(c64 0)⟩ : Iv),(⟨(c64 0),(c64 0)⟩ : Iv),(⟨(c64 0),(c64 0)⟩ : Iv)⟩ : Vc),(⟨(⟨(c64 0),(c64 0)⟩ : Iv),(⟨(c64 0),(c64 0)⟩ : Iv),(⟨(c64 0),(c64 0)⟩ : Iv)⟩ : Vc)⟩ : Mt),(⟨(⟨(c64 0),(c64 0)⟩ : Iv),(⟨(c64 0),(c64 0)⟩ : Iv),(⟨(c64 0),(c64 0)⟩ : Iv)⟩ : Vc)⟩ : Af),false) else bindP (S_ApplyM r1.1 a0.t) fun r2=>bindP (S_NegI r2.x) fun r3=>bindP (S_NegI r2.y) fun r4=>bindP (S_NegI r2.z) fun r5=>((⟨r1.1,(⟨r3,r4,r5⟩ : Vc)⟩ : Af),true))
def S_MulM (a0 : Mt) (a1 : Mt) : Mt:=
  bindP (S_l10Columns a1) fun r1=>bindP (S_ApplyM r1 a0.a) fun r2=>bindP (S_ApplyM r1 a0.b) fun r3=>bindP (S_ApplyM r1 a0.c) fun r4=>(⟨r2,r3,r4⟩ : Mt)
def S_OppositeShift (a0 : Sf) : Sf × I64:=
  bindP (S_l23Ok__pSf a0) fun r1=>(bif (!r1) then ((⟨(c64 0),(c64 0),(c64 0),(c64 0),(c64 0),(c64 0),(c64 0)⟩ : Sf),(c64 1)) else ((⟨(w64 (0 - a0.tx.val)),(w64 (0 - a0.ty.val)),(w64 (0 - a0.tz.val)),(w64 (0 - a0.rx.val)),(w64 (0 - a0.ry.val)),(w64 (0 - a0.rz.val)),(w64 (0 - a0.sc.val))⟩ : Sf),(c64 0)))
def S_ThenAffine (a0 : Af) (a1 : Af) : Af:=
  bindP (S_MulM a1.m a0.m) fun r1=>bindP (S_ApplyAffine a1 a0.t) fun r2=>(⟨r1,r2⟩ : Af)
end Go.Proofs.YtfhnlkinjbakgaaGreatDoor.Abs
