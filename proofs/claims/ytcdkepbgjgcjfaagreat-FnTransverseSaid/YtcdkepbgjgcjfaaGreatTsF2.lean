/- The functions, on numbers; part 2 (written by w.py). -/
import Derived.Test.YtcdkepbgjgcjfaaGreatTsF1
set_option linter.unusedVariables false
set_option linter.unusedSimpArgs false
namespace Go.Proofs.YtcdkepbgjgcjfaaGreat.Abs
open Go Go.RowKit
def I_oneLess (a0 : Iv) : Iv:=
  bindP (I_Integer (c64 1)) fun r1=>bindP (I_SubI r1 a0) fun r2=>r2
def I_knownI (a0 : Iv) : Iv × I64:=
  bindP (I_IsWhole a0) fun r1=>(bif r1 then ((⟨(c64 0),(c64 0)⟩ : Iv),(c64 9)) else (a0,(c64 0)))
def I_TransverseScale (a0 : Pj) (a1 : Pt) : Iv × I64:=
  bindP (I_transverse a0 a1) fun r1=>(bif (r1.2.2.2.val != 0) then ((⟨(c64 0),(c64 0)⟩ : Iv),r1.2.2.2) else bindP (I_Integer (c64 1)) fun r2=>bindP (I_SqrI r1.2.2.1) fun r3=>bindP (I_oneLess r3) fun r4=>bindP (I_SqrtI r4) fun r5=>bindP (I_DivI r2 r5) fun r6=>bindP (I_knownI r6) fun r7=>(r7.1,r7.2))
def S_l00In (a0 : I64) (a1 : I64) (a2 : I64) : Bool:=
  (bif (decide (a0.val ≥ a1.val)) then (decide (a0.val ≤ a2.val)) else false)
def S_l11Ok (a0 : Pt) : Bool:=
  bindP (S_l00In a0.lat (c64 (-900000000)) (c64 900000000)) fun r1=>(bif r1 then bindP (S_l00In a0.lon (c64 (-1799999999)) (c64 1800000000)) fun r2=>r2 else false)
def S_l17Standard (a0 : I64) : Bool:=
  bindP (S_l00In a0 (c64 (-890000000)) (c64 890000000)) fun r1=>r1
def S_l17Ok (a0 : Pj) : Bool:=
  bindP (S_l11Ok (⟨a0.lat0,a0.lon0⟩ : Pt)) fun r1=>(bif (!r1) then false else bindP (S_l17Standard a0.lat1) fun r2=>(bif (!r2) then false else bindP (S_l17Standard a0.lat2) fun r3=>(bif (!r3) then false else (bif (a0.kind.val == 1) then (bif (a0.lat0.val == 0) then (a0.lat2.val == 0) else false) else (bif (a0.kind.val == 3) then (bif (a0.lat0.val == 0) then (a0.lat2.val == 0) else false) else (bif (a0.kind.val == 2) then (bif (a0.lat0.val == 0) then (bif (a0.lat1.val == 0) then (a0.lat2.val == 0) else false) else false) else (bif (a0.kind.val == 4) then (bif (a0.lat0.val == 0) then (bif (a0.lat1.val == 0) then (a0.lat2.val == 0) else false) else false) else (bif (a0.kind.val == 13) then (bif (a0.lat0.val == 0) then (bif (a0.lat1.val == 0) then (a0.lat2.val == 0) else false) else false) else (bif (a0.kind.val == 14) then (bif (a0.lat0.val == 0) then (bif (a0.lat1.val == 0) then (a0.lat2.val == 0) else false) else false) else (bif (a0.kind.val == 15) then (bif (a0.lat0.val == 0) then (bif (a0.lat1.val == 0) then (a0.lat2.val == 0) else false) else false) else (bif (a0.kind.val == 5) then (bif (a0.lat1.val == 0) then (a0.lat2.val == 0) else false) else (bif (a0.kind.val == 6) then (bif (a0.lat1.val == 0) then (a0.lat2.val == 0) else false) else (bif (a0.kind.val == 7) then (bif (a0.lat1.val == 0) then (a0.lat2.val == 0) else false) else (bif (a0.kind.val == 8) then (bif (a0.lat1.val == 0) then (a0.lat2.val == 0) else false) else (bif (a0.kind.val == 9) then (bif (a0.lat1.val == 0) then (a0.lat2.val == 0) else false) else (bif (a0.kind.val == 16) then (bif (a0.lat1.val == 0) then (a0.lat2.val == 0) else false) else (bif (a0.kind.val == 10) then (bif (decide ((w64 (a0.lat1.val + a0.lat2.val)).val ≥ 10000000)) then true else (decide ((w64 (a0.lat1.val + a0.lat2.val)).val ≤ (-10000000)))) else (bif (a0.kind.val == 11) then (bif (decide ((w64 (a0.lat1.val + a0.lat2.val)).val ≥ 10000000)) then true else (decide ((w64 (a0.lat1.val + a0.lat2.val)).val ≤ (-10000000)))) else (bif (a0.kind.val == 12) then (bif (decide ((w64 (a0.lat1.val + a0.lat2.val)).val ≥ 10000000)) then true else (decide ((w64 (a0.lat1.val + a0.lat2.val)).val ≤ (-10000000)))) else false)))))))))))))))))))
def S_ValidProjection (a0 : Pj) : Bool:=
  bindP (S_l17Ok a0) fun r1=>r1
def S_l21Ok__pPj (b0 : Pj) : Bool:=
  (bif (b0.kind.val == 16) then bindP (S_ValidProjection b0) fun r1=>r1 else false)
def S_l21Edge__pPj (b0 : Pj) (a0 : Pt) : Bool:=
  bindP (S_l11Wrap (w64 (a0.lon.val - b0.lon0.val))) fun r1=>(bif (a0.lat.val == 0) then (bif (r1.val == 900000000) then true else (r1.val == (-900000000))) else false)
def S_l04Whole : Iv:=
  (⟨(c64 (-1152921504606846976)),(c64 1152921504606846976)⟩ : Iv)
def S_Whole : Iv:=
  bindP (S_l04Whole) fun r1=>r1
def S_l04Ok (a0 : Iv) : Bool:=
  (bif (decide ((-1152921504606846976) < a0.lo.val)) then (bif (decide (a0.lo.val ≤ a0.hi.val)) then (decide (a0.hi.val < 1152921504606846976)) else false) else false)
def S_l04Make (a0 : I64) (a1 : I64) : Iv:=
  bindP (S_l04Ok (⟨a0,a1⟩ : Iv)) fun r1=>(bif (!r1) then bindP (S_l04Whole) fun r2=>r2 else (⟨a0,a1⟩ : Iv))
def S_NegI (a0 : Iv) : Iv:=
  bindP (S_l04Ok a0) fun r1=>(bif (!r1) then bindP (S_l04Whole) fun r2=>r2 else bindP (S_l04Make (w64 (0 - a0.hi.val)) (w64 (0 - a0.lo.val))) fun r3=>r3)
def S_l02Size (a0 : I64) : U64:=
  (bif (decide (a0.val < 0)) then (wu64 (0 - (wu64 a0.val).val)) else (wu64 a0.val))
def S_l02Times (a0 : U64) (a1 : U64) : U64 × U64:=
  ((wu64 ((wu64 ((wu64 ((ishr a0 32).val * (ishr a1 32).val)).val + (ishr (wu64 ((wu64 ((ishr a0 32).val * (iand .u64 a1.val 4294967295).val)).val + (ishr (wu64 ((iand .u64 a0.val 4294967295).val * (iand .u64 a1.val 4294967295).val)) 32).val)) 32).val)).val + (ishr (wu64 ((wu64 ((iand .u64 a0.val 4294967295).val * (ishr a1 32).val)).val + (iand .u64 (wu64 ((wu64 ((ishr a0 32).val * (iand .u64 a1.val 4294967295).val)).val + (ishr (wu64 ((iand .u64 a0.val 4294967295).val * (iand .u64 a1.val 4294967295).val)) 32).val)).val 4294967295).val)) 32).val)),(wu64 (a0.val * a1.val)))
def S_l02Minus (a0 : Wd) : Wd:=
  (bif (a0.lo.val == 0) then (⟨(w64 (0 - a0.hi.val)),(wu64 (0 - a0.lo.val))⟩ : Wd) else (⟨(inot .i64 a0.hi.val),(wu64 (0 - a0.lo.val))⟩ : Wd))
def S_l02Mul (a0 : I64) (a1 : I64) : Wd:=
  bindP (S_l02Size a0) fun r1=>bindP (S_l02Size a1) fun r2=>bindP (S_l02Times r1 r2) fun r3=>(bif (!((decide (a0.val < 0)) == (decide (a1.val < 0)))) then bindP (S_l02Minus (⟨(w64 r3.1.val),r3.2⟩ : Wd)) fun r4=>r4 else (⟨(w64 r3.1.val),r3.2⟩ : Wd))
def S_l02Divide_L0 : Nat → U64 → U64 → U64 → U64 → U64 → I64 → U64 × U64 × U64
  | 0,_,_,_,_,_,_=>((cu64 0),(cu64 0),(cu64 0))
  | fu + 1,a1,a2,x_qhi,x_rest,x_q,x_i=>(bif (decide (x_i.val ≥ 0)) then (bif ((ishr x_rest 63).val == 1) then S_l02Divide_L0 fu a1 a2 x_qhi (wu64 ((ior .u64 (ishl .u64 x_rest.val 1).val (iand .u64 (ishr a1 (wu64 x_i.val).val).val 1).val).val - a2.val)) (ior .u64 (ishl .u64 x_q.val 1).val 1) (w64 (x_i.val - 1)) else (bif (decide ((ior .u64 (ishl .u64 x_rest.val 1).val (iand .u64 (ishr a1 (wu64 x_i.val).val).val 1).val).val ≥ a2.val)) then S_l02Divide_L0 fu a1 a2 x_qhi (wu64 ((ior .u64 (ishl .u64 x_rest.val 1).val (iand .u64 (ishr a1 (wu64 x_i.val).val).val 1).val).val - a2.val)) (ior .u64 (ishl .u64 x_q.val 1).val 1) (w64 (x_i.val - 1)) else S_l02Divide_L0 fu a1 a2 x_qhi (ior .u64 (ishl .u64 x_rest.val 1).val (iand .u64 (ishr a1 (wu64 x_i.val).val).val 1).val) (ishl .u64 x_q.val 1) (w64 (x_i.val - 1)))) else (x_qhi,x_q,x_rest))
def S_l02Divide (a0 : U64) (a1 : U64) (a2 : U64) : U64 × U64 × U64:=
  S_l02Divide_L0 65 a1 a2 (wu64 (Int.tdiv a0.val a2.val)) (imod a0 a2.val) (cu64 0) (c64 63)
def S_l02Of (a0 : I64) : Wd:=
  (bif (decide (a0.val < 0)) then (⟨(c64 (-1)),(wu64 a0.val)⟩ : Wd) else (⟨(c64 0),(wu64 a0.val)⟩ : Wd))
def S_l02Plus (a0 : Wd) (a1 : Wd) : Wd:=
  (bif (decide ((wu64 (a0.lo.val + a1.lo.val)).val < a0.lo.val)) then (⟨(w64 ((w64 (a0.hi.val + a1.hi.val)).val + 1)),(wu64 (a0.lo.val + a1.lo.val))⟩ : Wd) else (⟨(w64 (a0.hi.val + a1.hi.val)),(wu64 (a0.lo.val + a1.lo.val))⟩ : Wd))
def S_l02Div (a0 : Wd) (a1 : I64) : Wd × I64:=
  (bif (decide (a0.hi.val ≥ 0)) then bindP (S_l02Divide (wu64 a0.hi.val) a0.lo (wu64 a1.val)) fun r2=>((⟨(w64 r2.1.val),r2.2.1⟩ : Wd),(w64 r2.2.2.val)) else bindP (S_l02Minus a0) fun r3=>bindP (S_l02Divide (wu64 r3.hi.val) r3.lo (wu64 a1.val)) fun r4=>bindP (S_l02Minus (⟨(w64 r4.1.val),r4.2.1⟩ : Wd)) fun r5=>(bif (r4.2.2.val == 0) then (r5,(c64 0)) else bindP (S_l02Of (c64 (-1))) fun r7=>bindP (S_l02Plus r5 r7) fun r8=>(r8,(w64 (a1.val - (w64 r4.2.2.val).val)))))
def S_l02Int (a0 : Wd) : I64 × Bool:=
  bindP (S_l02Of (w64 a0.lo.val)) fun r1=>(bif (!((r1.hi.val == a0.hi.val) && (r1.lo.val == a0.lo.val))) then ((c64 0),false) else ((w64 a0.lo.val),true))
def S_MulDivFloor (a0 : I64) (a1 : I64) (a2 : I64) : I64 × Bool:=
  (bif (decide (a2.val ≤ 0)) then ((c64 0),false) else bindP (S_l02Mul a0 a1) fun r2=>bindP (S_l02Div r2 a2) fun r3=>bindP (S_l02Int r3.1) fun r4=>(r4.1,r4.2))
def S_RadiansOf_b (self : I64 → Iv) (a0 : I64) : Iv:=
  bindP (S_l00In a0 (c64 (-36000000000)) (c64 36000000000)) fun r1=>(bif (!r1) then bindP (S_Whole) fun r3=>r3 else (bif (a0.val == 0) then (⟨(c64 0),(c64 0)⟩ : Iv) else (bif (decide (a0.val < 0)) then bindP (self (w64 (0 - a0.val))) fun r6=>bindP (S_NegI r6) fun r7=>r7 else bindP (S_MulDivFloor a0 (c64 7244019458077122842) (c64 966367641600000000)) fun r8=>bindP (S_MulDivFloor a0 (c64 7244019458077122843) (c64 966367641600000000)) fun r9=>(⟨r8.1,(w64 (r9.1.val + 1))⟩ : Iv))))
def S_RadiansOf_r : Nat → I64 → Iv
  | 0,_=>(⟨(c64 0),(c64 0)⟩ : Iv)
  | fu + 1,a0=>S_RadiansOf_b (S_RadiansOf_r fu) a0
def S_RadiansOf (a0 : I64) : Iv:=S_RadiansOf_r 2 a0
def S_ValidInterval (a0 : Iv) : Bool:=
  bindP (S_l04Ok a0) fun r1=>r1
def S_l06Angle (a0 : I64) : Bool:=
  bindP (S_l00In a0 (c64 (-1099511627776)) (c64 1099511627776)) fun r1=>r1
def S_l06Fits (a0 : Iv) : Bool:=
  bindP (S_ValidInterval a0) fun r1=>(bif r1 then bindP (S_l06Angle a0.lo) fun r2=>(bif r2 then bindP (S_l06Angle a0.hi) fun r3=>r3 else false) else false)
def S_l06Ring : Iv:=
  (⟨(c64 (-4294967296)),(c64 4294967296)⟩ : Iv)
def S_l06Floor (a0 : I64) (a1 : I64) : I64:=
  (bif (decide ((imod a0 a1.val).val < 0)) then (w64 ((w64 (Int.tdiv a0.val a1.val)).val - 1)) else (w64 (Int.tdiv a0.val a1.val)))
def S_QuarterOf (a0 : I64) : I64:=
  bindP (S_l06Angle a0) fun r1=>(bif (!r1) then (c64 0) else bindP (S_l06Floor (w64 (a0.val + 3373259426)) (c64 6746518852)) fun r3=>r3)
def S_l05At (a0 : I64) : Iv:=
  (⟨a0,a0⟩ : Iv)
def S_l02Shift (a0 : Wd) (a1 : I64) : Wd:=
  (bif (a1.val == 0) then a0 else (bif (decide (a1.val < 64)) then (⟨(ishr a0.hi (wu64 a1.val).val),(ior .u64 (ishr a0.lo (wu64 a1.val).val).val (ishl .u64 (wu64 a0.hi.val).val (wu64 (w64 (64 - a1.val)).val).val).val)⟩ : Wd) else (⟨(ishr a0.hi 63),(wu64 (ishr a0.hi (wu64 (w64 (a1.val - 64)).val).val).val)⟩ : Wd)))
def S_MulFloor (a0 : I64) (a1 : I64) (a2 : I64) : I64 × Bool:=
  bindP (S_l00In a2 (c64 0) (c64 126)) fun r1=>(bif (!r1) then ((c64 0),false) else bindP (S_l02Mul a0 a1) fun r2=>bindP (S_l02Shift r2 a2) fun r3=>bindP (S_l02Int r3) fun r4=>(r4.1,r4.2))
def S_l05Turn_r : Nat → I64 → Iv
  | 0,_=>(⟨(c64 0),(c64 0)⟩ : Iv)
  | fu + 1,a0=>(bif (a0.val == 0) then (⟨(c64 0),(c64 0)⟩ : Iv) else (bif (decide (a0.val < 0)) then bindP (S_l05Turn_r fu (w64 (0 - a0.val))) fun r3=>(⟨(w64 (0 - r3.hi.val)),(w64 (0 - r3.lo.val))⟩ : Iv) else bindP (S_MulFloor a0 (c64 7244019458077122842) (c64 30)) fun r4=>(⟨r4.1,(w64 (r4.1.val + 1))⟩ : Iv)))
def S_l05Turn (a0 : I64) : Iv:=S_l05Turn_r 2 a0
def S_TurnI (a0 : I64) : Iv:=
  bindP (S_l00In a0 (c64 (-4096)) (c64 4096)) fun r1=>(bif (!r1) then bindP (S_Whole) fun r3=>r3 else bindP (S_l05Turn a0) fun r4=>r4)
def S_SubI (a0 : Iv) (a1 : Iv) : Iv:=
  bindP (S_l04Ok a0) fun r1=>(bif (!r1) then bindP (S_l04Whole) fun r2=>r2 else bindP (S_l04Ok a1) fun r3=>(bif (!r3) then bindP (S_l04Whole) fun r4=>r4 else bindP (S_l04Make (w64 (a0.lo.val - a1.hi.val)) (w64 (a0.hi.val - a1.lo.val))) fun r5=>r5))
def S_InsideI (a0 : Iv) (a1 : Iv) : Bool:=
  bindP (S_l04Ok a1) fun r1=>(bif (!r1) then true else bindP (S_l04Ok a0) fun r2=>(bif r2 then (bif (decide (a1.lo.val ≤ a0.lo.val)) then (decide (a0.hi.val ≤ a1.hi.val)) else false) else false))
def S_l00Max (a0 : I64) (a1 : I64) : I64:=
  (bif (decide (a0.val > a1.val)) then a0 else a1)
def S_l04Has (a0 : Iv) (a1 : I64) : Bool:=
  bindP (S_l00In a1 a0.lo a0.hi) fun r1=>r1
def S_l00Min (a0 : I64) (a1 : I64) : I64:=
  (bif (decide (a0.val < a1.val)) then a0 else a1)
def S_l04Ends (a0 : Iv) : I64 × I64:=
  bindP (S_l00Max a0.lo (w64 (0 - a0.lo.val))) fun r1=>bindP (S_l00Max a0.hi (w64 (0 - a0.hi.val))) fun r2=>bindP (S_l04Has a0 (c64 0)) fun r3=>(bif r3 then bindP (S_l00Max r1 r2) fun r4=>((c64 0),r4) else bindP (S_l00Min r1 r2) fun r5=>bindP (S_l00Max r1 r2) fun r6=>(r5,r6))
def S_l03Ok (a0 : I64) : Bool:=
  bindP (S_l00In a0 (c64 (-1152921504606846976)) (c64 1152921504606846976)) fun r1=>r1
def S_l03End (a0 : I64) (a1 : Bool) : I64 × Bool:=
  (bif (!a1) then ((c64 0),false) else bindP (S_l03Ok a0) fun r1=>(bif (!r1) then ((c64 0),false) else (a0,true)))
def S_l03MulDown (a0 : I64) (a1 : I64) : I64 × Bool:=
  bindP (S_l03Ok a0) fun r1=>(bif (!r1) then ((c64 0),false) else bindP (S_l03Ok a1) fun r2=>(bif (!r2) then ((c64 0),false) else bindP (S_MulFloor a0 a1 (c64 32)) fun r3=>bindP (S_l03End r3.1 r3.2) fun r4=>(r4.1,r4.2)))
def S_l03MulUp (a0 : I64) (a1 : I64) : I64 × Bool:=
  bindP (S_l03MulDown (w64 (0 - a0.val)) a1) fun r1=>bindP (S_l03Ok a0) fun r2=>(bif (!r2) then ((c64 0),false) else (bif (!r1.2) then ((c64 0),false) else ((w64 (0 - r1.1.val)),true)))
def S_SqrI (a0 : Iv) : Iv:=
  bindP (S_l04Ok a0) fun r1=>(bif (!r1) then bindP (S_l04Whole) fun r2=>r2 else bindP (S_l04Ends a0) fun r3=>bindP (S_l03MulDown r3.1 r3.1) fun r4=>bindP (S_l03MulUp r3.2 r3.2) fun r5=>(bif (!r4.2) then bindP (S_l04Whole) fun r6=>r6 else (bif (!r5.2) then bindP (S_l04Whole) fun r7=>r7 else bindP (S_l04Make r4.1 r5.1) fun r8=>r8)))
def S_Integer (a0 : I64) : Iv:=
  bindP (S_l00In a0 (c64 (-268435455)) (c64 268435455)) fun r1=>(bif (!r1) then bindP (S_l04Whole) fun r2=>r2 else bindP (S_l04Make (w64 (a0.val * 4294967296)) (w64 (a0.val * 4294967296))) fun r3=>r3)
def S_l03DivDown (a0 : I64) (a1 : I64) : I64 × Bool:=
  bindP (S_l03Ok a0) fun r1=>(bif (!r1) then ((c64 0),false) else bindP (S_l03Ok a1) fun r2=>(bif (!r2) then ((c64 0),false) else (bif (a1.val == 0) then ((c64 0),false) else (bif (decide (a1.val < 0)) then bindP (S_MulDivFloor (w64 (0 - a0.val)) (c64 4294967296) (w64 (0 - a1.val))) fun r3=>bindP (S_l03End r3.1 r3.2) fun r4=>(r4.1,r4.2) else bindP (S_MulDivFloor a0 (c64 4294967296) a1) fun r5=>bindP (S_l03End r5.1 r5.2) fun r6=>(r6.1,r6.2)))))
def S_l03DivUp (a0 : I64) (a1 : I64) : I64 × Bool:=
  bindP (S_l03Ok a0) fun r1=>(bif (!r1) then ((c64 0),false) else bindP (S_l03DivDown (w64 (0 - a0.val)) a1) fun r2=>((w64 (0 - r2.1.val)),r2.2))
def S_DivI (a0 : Iv) (a1 : Iv) : Iv:=
  bindP (S_l04Ok a0) fun r1=>(bif (!r1) then bindP (S_l04Whole) fun r2=>r2 else bindP (S_l04Ok a1) fun r3=>(bif (!r3) then bindP (S_l04Whole) fun r4=>r4 else bindP (S_l04Has a1 (c64 0)) fun r5=>(bif r5 then bindP (S_l04Whole) fun r6=>r6 else bindP (S_l03DivDown a0.lo a1.lo) fun r7=>bindP (S_l03DivUp a0.lo a1.lo) fun r8=>(bif (!r7.2) then bindP (S_l04Whole) fun r9=>r9 else (bif (!r8.2) then bindP (S_l04Whole) fun r10=>r10 else bindP (S_l00Min (c64 1152921504606846976) r7.1) fun r11=>bindP (S_l00Max (c64 (-1152921504606846976)) r8.1) fun r12=>bindP (S_l03DivDown a0.lo a1.hi) fun r13=>bindP (S_l03DivUp a0.lo a1.hi) fun r14=>(bif (!r13.2) then bindP (S_l04Whole) fun r15=>r15 else (bif (!r14.2) then bindP (S_l04Whole) fun r16=>r16 else bindP (S_l00Min r11 r13.1) fun r17=>bindP (S_l00Max r12 r14.1) fun r18=>bindP (S_l03DivDown a0.hi a1.lo) fun r19=>bindP (S_l03DivUp a0.hi a1.lo) fun r20=>(bif (!r19.2) then bindP (S_l04Whole) fun r21=>r21 else (bif (!r20.2) then bindP (S_l04Whole) fun r22=>r22 else bindP (S_l00Min r17 r19.1) fun r23=>bindP (S_l00Max r18 r20.1) fun r24=>bindP (S_l03DivDown a0.hi a1.hi) fun r25=>bindP (S_l03DivUp a0.hi a1.hi) fun r26=>(bif (!r25.2) then bindP (S_l04Whole) fun r27=>r27 else (bif (!r26.2) then bindP (S_l04Whole) fun r28=>r28 else bindP (S_l00Min r23 r25.1) fun r29=>bindP (S_l00Max r24 r26.1) fun r30=>bindP (S_l04Make r29 r30) fun r31=>r31)))))))))))
def S_MulI (a0 : Iv) (a1 : Iv) : Iv:=
  bindP (S_l04Ok a0) fun r1=>(bif (!r1) then bindP (S_l04Whole) fun r2=>r2 else bindP (S_l04Ok a1) fun r3=>(bif (!r3) then bindP (S_l04Whole) fun r4=>r4 else bindP (S_l03MulDown a0.lo a1.lo) fun r5=>bindP (S_l03MulUp a0.lo a1.lo) fun r6=>(bif (!r5.2) then bindP (S_l04Whole) fun r7=>r7 else (bif (!r6.2) then bindP (S_l04Whole) fun r8=>r8 else bindP (S_l00Min (c64 1152921504606846976) r5.1) fun r9=>bindP (S_l00Max (c64 (-1152921504606846976)) r6.1) fun r10=>bindP (S_l03MulDown a0.lo a1.hi) fun r11=>bindP (S_l03MulUp a0.lo a1.hi) fun r12=>(bif (!r11.2) then bindP (S_l04Whole) fun r13=>r13 else (bif (!r12.2) then bindP (S_l04Whole) fun r14=>r14 else bindP (S_l00Min r9 r11.1) fun r15=>bindP (S_l00Max r10 r12.1) fun r16=>bindP (S_l03MulDown a0.hi a1.lo) fun r17=>bindP (S_l03MulUp a0.hi a1.lo) fun r18=>(bif (!r17.2) then bindP (S_l04Whole) fun r19=>r19 else (bif (!r18.2) then bindP (S_l04Whole) fun r20=>r20 else bindP (S_l00Min r15 r17.1) fun r21=>bindP (S_l00Max r16 r18.1) fun r22=>bindP (S_l03MulDown a0.hi a1.hi) fun r23=>bindP (S_l03MulUp a0.hi a1.hi) fun r24=>(bif (!r23.2) then bindP (S_l04Whole) fun r25=>r25 else (bif (!r24.2) then bindP (S_l04Whole) fun r26=>r26 else bindP (S_l00Min r21 r23.1) fun r27=>bindP (S_l00Max r22 r24.1) fun r28=>bindP (S_l04Make r27 r28) fun r29=>r29))))))))))
def S_l06Series (a0 : Iv) (a1 : I64) : Iv:=
  bindP (S_Integer (c64 1)) fun r1=>bindP (S_Integer (c64 1)) fun r2=>bindP (S_Integer (w64 ((w64 (16 + a1.val)).val * (w64 ((w64 (16 + a1.val)).val + 1)).val))) fun r3=>bindP (S_DivI a0 r3) fun r4=>bindP (S_MulI r4 r1) fun r5=>bindP (S_SubI r2 r5) fun r6=>bindP (S_Integer (c64 1)) fun r7=>bindP (S_Integer (w64 ((w64 (14 + a1.val)).val * (w64 ((w64 (14 + a1.val)).val + 1)).val))) fun r8=>bindP (S_DivI a0 r8) fun r9=>bindP (S_MulI r9 r6) fun r10=>bindP (S_SubI r7 r10) fun r11=>bindP (S_Integer (c64 1)) fun r12=>bindP (S_Integer (w64 ((w64 (12 + a1.val)).val * (w64 ((w64 (12 + a1.val)).val + 1)).val))) fun r13=>bindP (S_DivI a0 r13) fun r14=>bindP (S_MulI r14 r11) fun r15=>bindP (S_SubI r12 r15) fun r16=>bindP (S_Integer (c64 1)) fun r17=>bindP (S_Integer (w64 ((w64 (10 + a1.val)).val * (w64 ((w64 (10 + a1.val)).val + 1)).val))) fun r18=>bindP (S_DivI a0 r18) fun r19=>bindP (S_MulI r19 r16) fun r20=>bindP (S_SubI r17 r20) fun r21=>bindP (S_Integer (c64 1)) fun r22=>bindP (S_Integer (w64 ((w64 (8 + a1.val)).val * (w64 ((w64 (8 + a1.val)).val + 1)).val))) fun r23=>bindP (S_DivI a0 r23) fun r24=>bindP (S_MulI r24 r21) fun r25=>bindP (S_SubI r22 r25) fun r26=>bindP (S_Integer (c64 1)) fun r27=>bindP (S_Integer (w64 ((w64 (6 + a1.val)).val * (w64 ((w64 (6 + a1.val)).val + 1)).val))) fun r28=>bindP (S_DivI a0 r28) fun r29=>bindP (S_MulI r29 r26) fun r30=>bindP (S_SubI r27 r30) fun r31=>bindP (S_Integer (c64 1)) fun r32=>bindP (S_Integer (w64 ((w64 (4 + a1.val)).val * (w64 ((w64 (4 + a1.val)).val + 1)).val))) fun r33=>bindP (S_DivI a0 r33) fun r34=>bindP (S_MulI r34 r31) fun r35=>bindP (S_SubI r32 r35) fun r36=>bindP (S_Integer (c64 1)) fun r37=>bindP (S_Integer (w64 ((w64 (2 + a1.val)).val * (w64 ((w64 (2 + a1.val)).val + 1)).val))) fun r38=>bindP (S_DivI a0 r38) fun r39=>bindP (S_MulI r39 r36) fun r40=>bindP (S_SubI r37 r40) fun r41=>r41
def S_l06Tiny : Iv:=
  (⟨(c64 (-1)),(c64 1)⟩ : Iv)
def S_AddI (a0 : Iv) (a1 : Iv) : Iv:=
  bindP (S_l04Ok a0) fun r1=>(bif (!r1) then bindP (S_l04Whole) fun r2=>r2 else bindP (S_l04Ok a1) fun r3=>(bif (!r3) then bindP (S_l04Whole) fun r4=>r4 else bindP (S_l04Make (w64 (a0.lo.val + a1.lo.val)) (w64 (a0.hi.val + a1.hi.val))) fun r5=>r5))
def S_SinSeries (a0 : Iv) : Iv:=
  bindP (S_l06Ring) fun r1=>bindP (S_InsideI a0 r1) fun r2=>(bif (!r2) then bindP (S_Whole) fun r3=>r3 else bindP (S_SqrI a0) fun r4=>bindP (S_l06Series r4 (c64 0)) fun r5=>bindP (S_MulI a0 r5) fun r6=>bindP (S_l06Tiny) fun r7=>bindP (S_AddI r6 r7) fun r8=>r8)
def S_MeetI (a0 : Iv) (a1 : Iv) : Iv × Bool:=
  bindP (S_l04Ok a0) fun r1=>(bif (!r1) then bindP (S_l04Ok a1) fun r2=>(bif (!r2) then bindP (S_l04Whole) fun r3=>(r3,true) else bindP (S_l04Ok a0) fun r4=>(bif (!r4) then (a1,true) else bindP (S_l04Ok a1) fun r5=>(bif (!r5) then (a0,true) else bindP (S_l00Max a0.lo a1.lo) fun r6=>bindP (S_l00Min a0.hi a1.hi) fun r7=>(bif (decide (r6.val > r7.val)) then ((⟨(c64 0),(c64 0)⟩ : Iv),false) else ((⟨r6,r7⟩ : Iv),true))))) else bindP (S_l04Ok a0) fun r8=>(bif (!r8) then (a1,true) else bindP (S_l04Ok a1) fun r9=>(bif (!r9) then (a0,true) else bindP (S_l00Max a0.lo a1.lo) fun r10=>bindP (S_l00Min a0.hi a1.hi) fun r11=>(bif (decide (r10.val > r11.val)) then ((⟨(c64 0),(c64 0)⟩ : Iv),false) else ((⟨r10,r11⟩ : Iv),true)))))
def S_l06Meet (a0 : Iv) : Iv:=
  bindP (S_l06Ring) fun r1=>bindP (S_MeetI a0 r1) fun r2=>(bif (!r2.2) then bindP (S_l06Ring) fun r3=>r3 else r2.1)
end Go.Proofs.YtcdkepbgjgcjfaaGreat.Abs
