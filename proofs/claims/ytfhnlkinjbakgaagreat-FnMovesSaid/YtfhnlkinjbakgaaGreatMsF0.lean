/- The functions, on numbers; part 0 (written by w.py). -/
import Derived.Test.YtfhnlkinjbakgaaGreatMsAbsD
import Derived.Lib.BitFns
set_option linter.unusedVariables false
set_option linter.unusedSimpArgs false
namespace Go.Proofs.YtfhnlkinjbakgaaGreat.Abs
open Go Go.RowKit
def vT_U_U (a : U64 × U64) : Value:=.tuple #[vU a.1,vU a.2]
def vT_U_U_U (a : U64 × U64 × U64) : Value:=.tuple #[vU a.1,vU a.2.1,vU a.2.2]
def vT_Wd_I_B (a : Wd × I64 × Bool) : Value:=.tuple #[vWd a.1,vI a.2.1,vB a.2.2]
def vT_I_B (a : I64 × Bool) : Value:=.tuple #[vI a.1,vB a.2]
def vT_Iv_B (a : Iv × Bool) : Value:=.tuple #[vIv a.1,vB a.2]
def vT_U_B (a : U64 × Bool) : Value:=.tuple #[vU a.1,vB a.2]
def vT_Wd_B (a : Wd × Bool) : Value:=.tuple #[vWd a.1,vB a.2]
def vT_I_I (a : I64 × I64) : Value:=.tuple #[vI a.1,vI a.2]
def vT_Iv_Iv_Iv_I (a : Iv × Iv × Iv × I64) : Value:=.tuple #[vIv a.1,vIv a.2.1,vIv a.2.2.1,vI a.2.2.2]
def vT_Wd_I (a : Wd × I64) : Value:=.tuple #[vWd a.1,vI a.2]
def vT_El_I (a : El × I64) : Value:=.tuple #[vEl a.1,vI a.2]
def L_d8Long (c0 : Cd) (c1 : Cd) : Bool:=
  (bif (decide ((((c0.L.length : Nat) : Int)) > 1048576)) then true else (decide ((((c1.L.length : Nat) : Int)) > 1048576)))
def S_l00Src_next__src (c0 : Cd) (b1 : Src) : I64 × Src:=
  (bif (decide (b1.ix.val < (((c0.L.length : Nat) : Int)))) then (bif (decide ((w64 (b1.ix.val + 1)).val ≤ (((c0.L.length : Nat) : Int)))) then ((w64 (byteAt c0.L b1.ix).val),(⟨(w64 (b1.ix.val + 1)),(wu64 ((wu64 ((wu64 (b1.sd.val * 6364136223846793005)).val + (wu64 (w64 (byteAt c0.L b1.ix).val).val).val)).val + 1442695040888963407))⟩ : Src)) else ((w64 (iand .u64 (ishr (wu64 ((wu64 ((wu64 (b1.sd.val * 6364136223846793005)).val + (wu64 (w64 (byteAt c0.L b1.ix).val).val).val)).val + 1442695040888963407)) 40).val 255).val),(⟨(w64 (b1.ix.val + 1)),(wu64 ((wu64 ((wu64 (b1.sd.val * 6364136223846793005)).val + (wu64 (w64 (byteAt c0.L b1.ix).val).val).val)).val + 1442695040888963407))⟩ : Src))) else (bif (decide ((w64 (b1.ix.val + 1)).val ≤ (((c0.L.length : Nat) : Int)))) then ((c64 0),(⟨(w64 (b1.ix.val + 1)),(wu64 ((wu64 ((wu64 (b1.sd.val * 6364136223846793005)).val + 0)).val + 1442695040888963407))⟩ : Src)) else ((w64 (iand .u64 (ishr (wu64 ((wu64 ((wu64 (b1.sd.val * 6364136223846793005)).val + 0)).val + 1442695040888963407)) 40).val 255).val),(⟨(w64 (b1.ix.val + 1)),(wu64 ((wu64 ((wu64 (b1.sd.val * 6364136223846793005)).val + 0)).val + 1442695040888963407))⟩ : Src))))
def S_l00Src_pick__src (c0 : Cd) (b1 : Src) (a0 : I64) : I64 × Src:=
  (bif (decide (a0.val ≤ 1)) then ((c64 0),b1) else bindP (S_l00Src_next__src c0 b1) fun r2=>(bif (decide (a0.val > 200)) then bindP (S_l00Src_next__src c0 r2.2) fun r4=>((imod (w64 ((w64 (r2.1.val * 256)).val + r4.1.val)) a0.val),r4.2) else ((imod r2.1 a0.val),r2.2)))
def S_l12Wgs : El:=
  (⟨(c64 6378137000),(c64 1000000000),(c64 298257223563)⟩ : El)
def S_E8Ellipsoid (c0 : Cd) : El:=
  bindP (S_l00Src_pick__src c0 (⟨(c64 0),(cu64 0)⟩ : Src) (c64 4)) fun r1=>(bif (r1.1.val == 0) then (⟨(c64 6371000000),(c64 0),(c64 1)⟩ : El) else (bif (r1.1.val == 1) then (⟨(c64 6377397155),(c64 10000000),(c64 2991528128)⟩ : El) else (bif (r1.1.val == 2) then bindP (S_l00Src_pick__src c0 r1.2 (c64 400)) fun r5=>bindP (S_l00Src_pick__src c0 r5.2 (c64 2)) fun r6=>bindP (S_l00Src_pick__src c0 r6.2 (c64 300)) fun r7=>(⟨(w64 (6000000000 + (w64 (r5.1.val * 1000000)).val)),r6.1,(w64 (100 + r7.1.val))⟩ : El) else bindP (S_l12Wgs) fun r8=>r8)))
def S_l00Src_one__src (c0 : Cd) (b1 : Src) (a0 : I64) : Bool × Src:=
  bindP (S_l00Src_pick__src c0 b1 a0) fun r1=>((r1.1.val == 0),r1.2)
def S_l00Src_among__src__s4 (c0 : Cd) (b1_0 : I64) (b1_1 : I64) (b1_2 : I64) (b1_3 : I64) (b2 : Src) : I64 × Src:=
  bindP (S_l00Src_pick__src c0 b2 (c64 4)) fun r1=>((listAt [b1_0,b1_1,b1_2,b1_3] r1.1),r1.2)
def S_l05Number__src (c0 : Cd) (b1 : Src) (a0 : I64) : I64 × Src:=
  bindP (S_l00Src_next__src c0 b1) fun r1=>bindP (S_l00Src_next__src c0 r1.2) fun r2=>bindP (S_l00Src_next__src c0 r2.2) fun r3=>bindP (S_l00Src_next__src c0 r3.2) fun r4=>bindP (S_l00Src_next__src c0 r4.2) fun r5=>bindP (S_l00Src_next__src c0 r5.2) fun r6=>bindP (S_l00Src_next__src c0 r6.2) fun r7=>bindP (S_l00Src_pick__src c0 r7.2 (c64 5)) fun r8=>(bif (r8.1.val == 0) then bindP (S_l00Src_pick__src c0 r8.2 (c64 40)) fun r10=>bindP (S_l00Src_one__src c0 r10.2 (c64 2)) fun r11=>(bif r11.1 then ((w64 (0 - (ishr (imod (ixor .i64 (ishl .i64 (ixor .i64 (ishl .i64 (ixor .i64 (ishl .i64 (ixor .i64 (ishl .i64 (ixor .i64 (ishl .i64 (ixor .i64 (ishl .i64 (ixor .i64 0 r1.1.val).val 8).val r2.1.val).val 8).val r3.1.val).val 8).val r4.1.val).val 8).val r5.1.val).val 8).val r6.1.val).val 8).val r7.1.val) (w64 (a0.val + 1)).val) (wu64 r10.1.val).val).val)),r11.2) else ((ishr (imod (ixor .i64 (ishl .i64 (ixor .i64 (ishl .i64 (ixor .i64 (ishl .i64 (ixor .i64 (ishl .i64 (ixor .i64 (ishl .i64 (ixor .i64 (ishl .i64 (ixor .i64 0 r1.1.val).val 8).val r2.1.val).val 8).val r3.1.val).val 8).val r4.1.val).val 8).val r5.1.val).val 8).val r6.1.val).val 8).val r7.1.val) (w64 (a0.val + 1)).val) (wu64 r10.1.val).val),r11.2)) else (bif (r8.1.val == 1) then bindP (S_l00Src_among__src__s4 c0 (c64 0) (c64 1) a0 (w64 (Int.tdiv a0.val 2)) r8.2) fun r14=>bindP (S_l00Src_one__src c0 r14.2 (c64 2)) fun r15=>(bif r15.1 then ((w64 (0 - r14.1.val)),r15.2) else (r14.1,r15.2)) else bindP (S_l00Src_one__src c0 r8.2 (c64 2)) fun r17=>(bif r17.1 then ((w64 (0 - (imod (ixor .i64 (ishl .i64 (ixor .i64 (ishl .i64 (ixor .i64 (ishl .i64 (ixor .i64 (ishl .i64 (ixor .i64 (ishl .i64 (ixor .i64 (ishl .i64 (ixor .i64 0 r1.1.val).val 8).val r2.1.val).val 8).val r3.1.val).val 8).val r4.1.val).val 8).val r5.1.val).val 8).val r6.1.val).val 8).val r7.1.val) (w64 (a0.val + 1)).val).val)),r17.2) else ((imod (ixor .i64 (ishl .i64 (ixor .i64 (ishl .i64 (ixor .i64 (ishl .i64 (ixor .i64 (ishl .i64 (ixor .i64 (ishl .i64 (ixor .i64 (ishl .i64 (ixor .i64 0 r1.1.val).val 8).val r2.1.val).val 8).val r3.1.val).val 8).val r4.1.val).val 8).val r5.1.val).val 8).val r6.1.val).val 8).val r7.1.val) (w64 (a0.val + 1)).val),r17.2))))
def S_l11Wrap (a0 : I64) : I64:=
  (bif (decide ((imod a0 3600000000).val > 1800000000)) then (bif (decide ((w64 ((imod a0 3600000000).val - 3600000000)).val ≤ (-1800000000))) then (w64 ((w64 ((imod a0 3600000000).val - 3600000000)).val + 3600000000)) else (w64 ((imod a0 3600000000).val - 3600000000))) else (bif (decide ((imod a0 3600000000).val ≤ (-1800000000))) then (w64 ((imod a0 3600000000).val + 3600000000)) else (imod a0 3600000000)))
def S_l00Src_among__src__s5 (c0 : Cd) (b1_0 : I64) (b1_1 : I64) (b1_2 : I64) (b1_3 : I64) (b1_4 : I64) (b2 : Src) : I64 × Src:=
  bindP (S_l00Src_pick__src c0 b2 (c64 5)) fun r1=>((listAt [b1_0,b1_1,b1_2,b1_3,b1_4] r1.1),r1.2)
def S_l11Draw__src (c0 : Cd) (b1 : Src) : Pt × Src:=
  bindP (S_l05Number__src c0 b1 (c64 900000000)) fun r1=>bindP (S_l05Number__src c0 r1.2 (c64 1800000000)) fun r2=>bindP (S_l11Wrap r2.1) fun r3=>bindP (S_l00Src_pick__src c0 r2.2 (c64 10)) fun r4=>(bif (r4.1.val == 0) then bindP (S_l00Src_among__src__s4 c0 (c64 900000000) (c64 (-900000000)) (c64 0) (c64 1) r4.2) fun r6=>((⟨r6.1,r3⟩ : Pt),r6.2) else (bif (r4.1.val == 1) then bindP (S_l00Src_among__src__s5 c0 (c64 1800000000) (c64 (-1799999999)) (c64 0) (c64 900000000) (c64 (-900000000)) r4.2) fun r8=>((⟨r1.1,r8.1⟩ : Pt),r8.2) else ((⟨r1.1,r3⟩ : Pt),r4.2)))
def S_E8Place (c0 : Cd) : Pl:=
  bindP (S_l11Draw__src c0 (⟨(c64 0),(cu64 0)⟩ : Src)) fun r1=>bindP (S_l05Number__src c0 r1.2 (c64 20000000)) fun r2=>(bif (decide (r2.1.val < 0)) then (⟨r1.1,(w64 (0 - r2.1.val))⟩ : Pl) else (⟨r1.1,r2.1⟩ : Pl))
def I_within (a0 : I64) (a1 : I64) (a2 : I64) : Bool:=
  (bif (decide (a0.val ≥ a1.val)) then (decide (a0.val ≤ a2.val)) else false)
def I_ValidEllipsoid (a0 : El) : Bool:=
  bindP (I_within a0.a (c64 1000) (c64 100000000000)) fun r1=>(bif r1 then bindP (I_within a0.den (c64 1) (c64 1000000000000)) fun r2=>(bif r2 then bindP (I_within a0.num (c64 0) (w64 (Int.tdiv a0.den.val 100))) fun r3=>r3 else false) else false)
def I_areWithin__s3 (b0_0 : I64) (b0_1 : I64) (b0_2 : I64) (a0 : I64) : Bool:=
  bindP (I_within b0_0 (w64 (0 - a0.val)) a0) fun r1=>(bif (!r1) then false else bindP (I_within b0_1 (w64 (0 - a0.val)) a0) fun r2=>(bif (!r2) then false else bindP (I_within b0_2 (w64 (0 - a0.val)) a0) fun r3=>(bif (!r3) then false else true)))
def I_areWithin__s1 (b0 : I64) (a0 : I64) : Bool:=
  bindP (I_within b0 (w64 (0 - a0.val)) a0) fun r1=>(bif (!r1) then false else true)
def I_ValidShift (a0 : Sf) : Bool:=
  bindP (I_areWithin__s3 a0.tx a0.ty a0.tz (c64 10000000)) fun r1=>(bif r1 then bindP (I_areWithin__s3 a0.rx a0.ry a0.rz (c64 100000000)) fun r2=>(bif r2 then bindP (I_areWithin__s1 a0.sc (c64 1000000)) fun r3=>r3 else false) else false)
def I_ValidPoint (a0 : Pt) : Bool:=
  bindP (I_within a0.lat (c64 (-900000000)) (c64 900000000)) fun r1=>(bif r1 then (bif (decide (a0.lon.val > (-1800000000))) then (decide (a0.lon.val ≤ 1800000000)) else false) else false)
def I_isHeight (a0 : I64) : Bool:=
  bindP (I_within a0 (c64 (-20000000)) (c64 20000000000)) fun r1=>r1
def I_ValidPlace (a0 : Pl) : Bool:=
  bindP (I_ValidPoint a0.point) fun r1=>(bif r1 then bindP (I_isHeight a0.height) fun r2=>r2 else false)
def I_Whole : Iv:=
  (⟨(c64 (-1152921504606846976)),(c64 1152921504606846976)⟩ : Iv)
def I_ValidInterval (a0 : Iv) : Bool:=
  (bif (decide ((-1152921504606846976) < a0.lo.val)) then (bif (decide (a0.lo.val ≤ a0.hi.val)) then (decide (a0.hi.val < 1152921504606846976)) else false) else false)
def I_bounded (a0 : I64) (a1 : I64) (a2 : Bool) : Iv:=
  (bif a2 then bindP (I_ValidInterval (⟨a0,a1⟩ : Iv)) fun r1=>(bif r1 then (⟨a0,a1⟩ : Iv) else bindP (I_Whole) fun r2=>r2) else bindP (I_Whole) fun r3=>r3)
def I_Integer (a0 : I64) : Iv:=
  bindP (I_within a0 (c64 (-268435456)) (c64 268435456)) fun r1=>(bif (!r1) then bindP (I_Whole) fun r2=>r2 else bindP (I_bounded (w64 (a0.val * 4294967296)) (w64 (a0.val * 4294967296)) true) fun r3=>r3)
def F_bits_Mul64 (a0 : U64) (a1 : U64) : U64 × U64:=
  ((wu64 ((wu64 ((wu64 ((ishr a0 32).val * (ishr a1 32).val)).val + (ishr (wu64 ((wu64 ((ishr a0 32).val * (iand .u64 a1.val 4294967295).val)).val + (ishr (wu64 ((iand .u64 a0.val 4294967295).val * (iand .u64 a1.val 4294967295).val)) 32).val)) 32).val)).val + (ishr (wu64 ((iand .u64 (wu64 ((wu64 ((ishr a0 32).val * (iand .u64 a1.val 4294967295).val)).val + (ishr (wu64 ((iand .u64 a0.val 4294967295).val * (iand .u64 a1.val 4294967295).val)) 32).val)).val 4294967295).val + (wu64 ((iand .u64 a0.val 4294967295).val * (ishr a1 32).val)).val)) 32).val)),(wu64 (a0.val * a1.val)))
def I_WideMul (a0 : I64) (a1 : I64) : Wd:=
  bindP (F_bits_Mul64 (wu64 a0.val) (wu64 a1.val)) fun r1=>(bif (decide (a0.val < 0)) then (bif (decide (a1.val < 0)) then (⟨(w64 (wu64 ((wu64 (r1.1.val - (wu64 a1.val).val)).val - (wu64 a0.val).val)).val),r1.2⟩ : Wd) else (⟨(w64 (wu64 (r1.1.val - (wu64 a1.val).val)).val),r1.2⟩ : Wd)) else (bif (decide (a1.val < 0)) then (⟨(w64 (wu64 (r1.1.val - (wu64 a0.val).val)).val),r1.2⟩ : Wd) else (⟨(w64 r1.1.val),r1.2⟩ : Wd)))
def F_bits_LeadingZeros64 (a0 : U64) : I64:=w64 (64 - (Lib.bitLen a0.val.toNat : Int))
def F_bits_Div64_L1 : Nat → U64 → U64 → U64 → U64 → U64 → U64 → U64 → U64 → U64 → U64 × U64
  | 0,_,_,_,_,_,_,_,_,_=>((cu64 0),(cu64 0))
  | fu + 1,x_y,x_s,x_yn1,x_yn0,x_un0,x_q1,x_un21,x_rhat,x_q0=>(bif (decide (x_q0.val ≥ 4294967296)) then (bif (decide ((wu64 (x_rhat.val + x_yn1.val)).val ≥ 4294967296)) then ((wu64 ((wu64 (x_q1.val * 4294967296)).val + (wu64 (x_q0.val - 1)).val)),(ishr (wu64 ((wu64 ((wu64 (x_un21.val * 4294967296)).val + x_un0.val)).val - (wu64 ((wu64 (x_q0.val - 1)).val * x_y.val)).val)) x_s.val)) else F_bits_Div64_L1 fu x_y x_s x_yn1 x_yn0 x_un0 x_q1 x_un21 (wu64 (x_rhat.val + x_yn1.val)) (wu64 (x_q0.val - 1))) else (bif (decide ((wu64 (x_q0.val * x_yn0.val)).val > (wu64 ((wu64 (4294967296 * x_rhat.val)).val + x_un0.val)).val)) then (bif (decide ((wu64 (x_rhat.val + x_yn1.val)).val ≥ 4294967296)) then ((wu64 ((wu64 (x_q1.val * 4294967296)).val + (wu64 (x_q0.val - 1)).val)),(ishr (wu64 ((wu64 ((wu64 (x_un21.val * 4294967296)).val + x_un0.val)).val - (wu64 ((wu64 (x_q0.val - 1)).val * x_y.val)).val)) x_s.val)) else F_bits_Div64_L1 fu x_y x_s x_yn1 x_yn0 x_un0 x_q1 x_un21 (wu64 (x_rhat.val + x_yn1.val)) (wu64 (x_q0.val - 1))) else ((wu64 ((wu64 (x_q1.val * 4294967296)).val + x_q0.val)),(ishr (wu64 ((wu64 ((wu64 (x_un21.val * 4294967296)).val + x_un0.val)).val - (wu64 (x_q0.val * x_y.val)).val)) x_s.val))))
def F_bits_Div64_L0 : Nat → U64 → U64 → U64 → U64 → U64 → U64 → U64 → U64 → U64 → U64 × U64
  | 0,_,_,_,_,_,_,_,_,_=>((cu64 0),(cu64 0))
  | fu + 1,x_y,x_s,x_yn1,x_yn0,x_un32,x_un1,x_un0,x_q1,x_rhat=>(bif (decide (x_q1.val ≥ 4294967296)) then (bif (decide ((wu64 (x_rhat.val + x_yn1.val)).val ≥ 4294967296)) then F_bits_Div64_L1 ((4294967296 - (wu64 ((wu64 ((wu64 ((wu64 (x_un32.val * 4294967296)).val + x_un1.val)).val - (wu64 ((wu64 (x_q1.val - 1)).val * x_y.val)).val)).val - (wu64 ((wu64 (Int.tdiv (wu64 ((wu64 ((wu64 (x_un32.val * 4294967296)).val + x_un1.val)).val - (wu64 ((wu64 (x_q1.val - 1)).val * x_y.val)).val)).val x_yn1.val)).val * x_yn1.val)).val)).val).toNat + 1) x_y x_s x_yn1 x_yn0 x_un0 (wu64 (x_q1.val - 1)) (wu64 ((wu64 ((wu64 (x_un32.val * 4294967296)).val + x_un1.val)).val - (wu64 ((wu64 (x_q1.val - 1)).val * x_y.val)).val)) (wu64 ((wu64 ((wu64 ((wu64 (x_un32.val * 4294967296)).val + x_un1.val)).val - (wu64 ((wu64 (x_q1.val - 1)).val * x_y.val)).val)).val - (wu64 ((wu64 (Int.tdiv (wu64 ((wu64 ((wu64 (x_un32.val * 4294967296)).val + x_un1.val)).val - (wu64 ((wu64 (x_q1.val - 1)).val * x_y.val)).val)).val x_yn1.val)).val * x_yn1.val)).val)) (wu64 (Int.tdiv (wu64 ((wu64 ((wu64 (x_un32.val * 4294967296)).val + x_un1.val)).val - (wu64 ((wu64 (x_q1.val - 1)).val * x_y.val)).val)).val x_yn1.val)) else F_bits_Div64_L0 fu x_y x_s x_yn1 x_yn0 x_un32 x_un1 x_un0 (wu64 (x_q1.val - 1)) (wu64 (x_rhat.val + x_yn1.val))) else (bif (decide ((wu64 (x_q1.val * x_yn0.val)).val > (wu64 ((wu64 (4294967296 * x_rhat.val)).val + x_un1.val)).val)) then (bif (decide ((wu64 (x_rhat.val + x_yn1.val)).val ≥ 4294967296)) then F_bits_Div64_L1 ((4294967296 - (wu64 ((wu64 ((wu64 ((wu64 (x_un32.val * 4294967296)).val + x_un1.val)).val - (wu64 ((wu64 (x_q1.val - 1)).val * x_y.val)).val)).val - (wu64 ((wu64 (Int.tdiv (wu64 ((wu64 ((wu64 (x_un32.val * 4294967296)).val + x_un1.val)).val - (wu64 ((wu64 (x_q1.val - 1)).val * x_y.val)).val)).val x_yn1.val)).val * x_yn1.val)).val)).val).toNat + 1) x_y x_s x_yn1 x_yn0 x_un0 (wu64 (x_q1.val - 1)) (wu64 ((wu64 ((wu64 (x_un32.val * 4294967296)).val + x_un1.val)).val - (wu64 ((wu64 (x_q1.val - 1)).val * x_y.val)).val)) (wu64 ((wu64 ((wu64 ((wu64 (x_un32.val * 4294967296)).val + x_un1.val)).val - (wu64 ((wu64 (x_q1.val - 1)).val * x_y.val)).val)).val - (wu64 ((wu64 (Int.tdiv (wu64 ((wu64 ((wu64 (x_un32.val * 4294967296)).val + x_un1.val)).val - (wu64 ((wu64 (x_q1.val - 1)).val * x_y.val)).val)).val x_yn1.val)).val * x_yn1.val)).val)) (wu64 (Int.tdiv (wu64 ((wu64 ((wu64 (x_un32.val * 4294967296)).val + x_un1.val)).val - (wu64 ((wu64 (x_q1.val - 1)).val * x_y.val)).val)).val x_yn1.val)) else F_bits_Div64_L0 fu x_y x_s x_yn1 x_yn0 x_un32 x_un1 x_un0 (wu64 (x_q1.val - 1)) (wu64 (x_rhat.val + x_yn1.val))) else F_bits_Div64_L1 ((4294967296 - (wu64 ((wu64 ((wu64 ((wu64 (x_un32.val * 4294967296)).val + x_un1.val)).val - (wu64 (x_q1.val * x_y.val)).val)).val - (wu64 ((wu64 (Int.tdiv (wu64 ((wu64 ((wu64 (x_un32.val * 4294967296)).val + x_un1.val)).val - (wu64 (x_q1.val * x_y.val)).val)).val x_yn1.val)).val * x_yn1.val)).val)).val).toNat + 1) x_y x_s x_yn1 x_yn0 x_un0 x_q1 (wu64 ((wu64 ((wu64 (x_un32.val * 4294967296)).val + x_un1.val)).val - (wu64 (x_q1.val * x_y.val)).val)) (wu64 ((wu64 ((wu64 ((wu64 (x_un32.val * 4294967296)).val + x_un1.val)).val - (wu64 (x_q1.val * x_y.val)).val)).val - (wu64 ((wu64 (Int.tdiv (wu64 ((wu64 ((wu64 (x_un32.val * 4294967296)).val + x_un1.val)).val - (wu64 (x_q1.val * x_y.val)).val)).val x_yn1.val)).val * x_yn1.val)).val)) (wu64 (Int.tdiv (wu64 ((wu64 ((wu64 (x_un32.val * 4294967296)).val + x_un1.val)).val - (wu64 (x_q1.val * x_y.val)).val)).val x_yn1.val))))
def F_bits_Div64 (a0 : U64) (a1 : U64) (a2 : U64) : U64 × U64:=
  (bif (a0.val == 0) then ((wu64 (Int.tdiv a1.val a2.val)),(imod a1 a2.val)) else bindP (F_bits_LeadingZeros64 a2) fun r2=>F_bits_Div64_L0 ((4294967296 - (wu64 ((ior .u64 (ishl .u64 a0.val (wu64 r2.val).val).val (ishr a1 (wu64 (64 - (wu64 r2.val).val)).val).val).val - (wu64 ((wu64 (Int.tdiv (ior .u64 (ishl .u64 a0.val (wu64 r2.val).val).val (ishr a1 (wu64 (64 - (wu64 r2.val).val)).val).val).val (ishr (ishl .u64 a2.val (wu64 r2.val).val) 32).val)).val * (ishr (ishl .u64 a2.val (wu64 r2.val).val) 32).val)).val)).val).toNat + 1) (ishl .u64 a2.val (wu64 r2.val).val) (wu64 r2.val) (ishr (ishl .u64 a2.val (wu64 r2.val).val) 32) (iand .u64 (ishl .u64 a2.val (wu64 r2.val).val).val 4294967295) (ior .u64 (ishl .u64 a0.val (wu64 r2.val).val).val (ishr a1 (wu64 (64 - (wu64 r2.val).val)).val).val) (ishr (ishl .u64 a1.val (wu64 r2.val).val) 32) (iand .u64 (ishl .u64 a1.val (wu64 r2.val).val).val 4294967295) (wu64 (Int.tdiv (ior .u64 (ishl .u64 a0.val (wu64 r2.val).val).val (ishr a1 (wu64 (64 - (wu64 r2.val).val)).val).val).val (ishr (ishl .u64 a2.val (wu64 r2.val).val) 32).val)) (wu64 ((ior .u64 (ishl .u64 a0.val (wu64 r2.val).val).val (ishr a1 (wu64 (64 - (wu64 r2.val).val)).val).val).val - (wu64 ((wu64 (Int.tdiv (ior .u64 (ishl .u64 a0.val (wu64 r2.val).val).val (ishr a1 (wu64 (64 - (wu64 r2.val).val)).val).val).val (ishr (ishl .u64 a2.val (wu64 r2.val).val) 32).val)).val * (ishr (ishl .u64 a2.val (wu64 r2.val).val) 32).val)).val)))
def I_divided (a0 : U64) (a1 : U64) (a2 : U64) : U64 × U64 × U64:=
  bindP (F_bits_Div64 (imod a0 a2.val) a1 a2) fun r1=>((wu64 (Int.tdiv a0.val a2.val)),r1.1,r1.2)
def I_Wide_negative (a0 : Wd) : Wd:=
  (⟨(w64 (sbb_lo (cu64 0) (wu64 a0.hi.val) (sbb_hi (cu64 0) a0.lo (cu64 0))).val),(sbb_lo (cu64 0) a0.lo (cu64 0))⟩ : Wd)
def I_WideDiv (a0 : Wd) (a1 : I64) : Wd × I64 × Bool:=
  (bif (decide (a1.val ≤ 0)) then ((⟨(c64 0),(cu64 0)⟩ : Wd),(c64 0),false) else (bif (decide (a0.hi.val ≥ 0)) then bindP (I_divided (wu64 a0.hi.val) a0.lo (wu64 a1.val)) fun r3=>((⟨(w64 r3.1.val),r3.2.1⟩ : Wd),(w64 r3.2.2.val),true) else bindP (I_Wide_negative a0) fun r4=>bindP (I_divided (wu64 r4.hi.val) r4.lo (wu64 a1.val)) fun r5=>(bif (r5.2.2.val == 0) then bindP (I_Wide_negative (⟨(w64 r5.1.val),r5.2.1⟩ : Wd)) fun r7=>(r7,(c64 0),true) else bindP (I_Wide_negative (⟨(w64 (wu64 (r5.1.val + (adc_hi r5.2.1 (cu64 1) (cu64 0)).val)).val),(adc_lo r5.2.1 (cu64 1) (cu64 0))⟩ : Wd)) fun r8=>(r8,(w64 (a1.val - (w64 r5.2.2.val).val)),true))))
def I_WideOf (a0 : I64) : Wd:=
  (⟨(ishr a0 63),(wu64 a0.val)⟩ : Wd)
def I_WideInt (a0 : Wd) : I64 × Bool:=
  bindP (I_WideOf (w64 a0.lo.val)) fun r1=>(bif (!((r1.hi.val == a0.hi.val) && (r1.lo.val == a0.lo.val))) then ((c64 0),false) else ((w64 a0.lo.val),true))
def I_MulDivFloor (a0 : I64) (a1 : I64) (a2 : I64) : I64 × Bool:=
  bindP (I_WideMul a0 a1) fun r1=>bindP (I_WideDiv r1 a2) fun r2=>(bif (!r2.2.2) then ((c64 0),false) else bindP (I_WideInt r2.1) fun r3=>(r3.1,r3.2))
def I_ValidFix (a0 : I64) : Bool:=
  bindP (I_within a0 (c64 (-1152921504606846976)) (c64 1152921504606846976)) fun r1=>r1
def I_fixed (a0 : I64) (a1 : Bool) : I64 × Bool:=
  (bif (!a1) then ((c64 0),false) else bindP (I_ValidFix a0) fun r1=>(bif (!r1) then ((c64 0),false) else (a0,true)))
def I_FixFloor (a0 : I64) (a1 : I64) : I64 × Bool:=
  bindP (I_MulDivFloor a0 (c64 4294967296) a1) fun r1=>bindP (I_fixed r1.1 r1.2) fun r2=>(r2.1,r2.2)
def I_mulDivCeil (a0 : I64) (a1 : I64) (a2 : I64) : I64 × Bool:=
  bindP (I_WideMul a0 a1) fun r1=>bindP (I_WideDiv r1 a2) fun r2=>(bif (!r2.2.2) then ((c64 0),false) else bindP (I_WideInt r2.1) fun r3=>(bif (!r3.2) then ((c64 0),false) else (bif (decide (r2.2.1.val > 0)) then (bif (r3.1.val == 9223372036854775807) then ((c64 0),false) else (bif (decide (r2.2.1.val > 0)) then ((w64 (r3.1.val + 1)),true) else (r3.1,true))) else (bif (decide (r2.2.1.val > 0)) then ((w64 (r3.1.val + 1)),true) else (r3.1,true)))))
def I_FixCeil (a0 : I64) (a1 : I64) : I64 × Bool:=
  bindP (I_mulDivCeil a0 (c64 4294967296) a1) fun r1=>bindP (I_fixed r1.1 r1.2) fun r2=>(r2.1,r2.2)
def I_Quotient (a0 : I64) (a1 : I64) : Iv:=
  (bif (decide (a1.val < 0)) then (bif (decide ((w64 (0 - a1.val)).val < 0)) then bindP (I_Whole) fun r1=>r1 else (bif ((w64 (0 - a0.val)).val == (-9223372036854775808)) then bindP (I_Whole) fun r2=>r2 else bindP (I_FixFloor (w64 (0 - a0.val)) (w64 (0 - a1.val))) fun r3=>bindP (I_FixCeil (w64 (0 - a0.val)) (w64 (0 - a1.val))) fun r4=>(bif r3.2 then bindP (I_bounded r3.1 r4.1 r4.2) fun r5=>r5 else bindP (I_bounded r3.1 r4.1 false) fun r6=>r6))) else bindP (I_FixFloor a0 a1) fun r7=>bindP (I_FixCeil a0 a1) fun r8=>(bif r7.2 then bindP (I_bounded r7.1 r8.1 r8.2) fun r9=>r9 else bindP (I_bounded r7.1 r8.1 false) fun r10=>r10))
def I_areBounded (a0 : Iv) (a1 : Iv) : Bool:=
  bindP (I_ValidInterval a0) fun r1=>(bif r1 then bindP (I_ValidInterval a1) fun r2=>r2 else false)
def I_AddI (a0 : Iv) (a1 : Iv) : Iv:=
  bindP (I_areBounded a0 a1) fun r1=>(bif (!r1) then bindP (I_Whole) fun r2=>r2 else bindP (I_bounded (w64 (a0.lo.val + a1.lo.val)) (w64 (a0.hi.val + a1.hi.val)) true) fun r3=>r3)
def I_IsWhole (a0 : Iv) : Bool:=
  bindP (I_ValidInterval a0) fun r1=>(!r1)
def I_NegI (a0 : Iv) : Iv:=
  bindP (I_IsWhole a0) fun r1=>(bif r1 then bindP (I_Whole) fun r2=>r2 else (⟨(w64 (0 - a0.hi.val)),(w64 (0 - a0.lo.val))⟩ : Iv))
def I_WideShift (a0 : Wd) (a1 : I64) : Wd:=
  bindP (I_within a1 (c64 0) (c64 127)) fun r1=>(bif (!r1) then (⟨(c64 0),(cu64 0)⟩ : Wd) else (bif (decide (a1.val ≥ 64)) then (⟨(ishr a0.hi 63),(wu64 (ishr a0.hi (w64 (a1.val - 64)).val).val)⟩ : Wd) else (⟨(ishr a0.hi a1.val),(ior .u64 (ishr a0.lo a1.val).val (ishl .u64 (wu64 a0.hi.val).val (w64 (64 - a1.val)).val).val)⟩ : Wd)))
def I_MulFloor (a0 : I64) (a1 : I64) (a2 : I64) : I64 × Bool:=
  bindP (I_within a2 (c64 0) (c64 126)) fun r1=>(bif (!r1) then ((c64 0),false) else bindP (I_WideMul a0 a1) fun r2=>bindP (I_WideShift r2 a2) fun r3=>bindP (I_WideInt r3) fun r4=>(r4.1,r4.2))
def I_TurnI_r : Nat → I64 → Iv
  | 0,_=>(⟨(c64 0),(c64 0)⟩ : Iv)
  | fu + 1,a0=>bindP (I_within a0 (c64 (-4096)) (c64 4096)) fun r1=>(bif (!r1) then bindP (I_Whole) fun r3=>r3 else (bif (decide (a0.val < 0)) then bindP (I_TurnI_r fu (w64 (0 - a0.val))) fun r5=>bindP (I_NegI r5) fun r6=>r6 else (bif (a0.val == 0) then (⟨(c64 0),(c64 0)⟩ : Iv) else bindP (I_MulFloor a0 (c64 7244019458077122842) (c64 30)) fun r8=>(⟨r8.1,(w64 (r8.1.val + 1))⟩ : Iv))))
def I_TurnI (a0 : I64) : Iv:=I_TurnI_r 2 a0
def I_PiI : Iv:=
  bindP (I_TurnI (c64 2)) fun r1=>r1
def I_MulDown (a0 : I64) (a1 : I64) : I64 × Bool:=
  bindP (I_ValidFix a0) fun r1=>(bif (!r1) then ((c64 0),false) else bindP (I_ValidFix a1) fun r2=>(bif (!r2) then ((c64 0),false) else bindP (I_MulFloor a0 a1 (c64 32)) fun r3=>bindP (I_fixed r3.1 r3.2) fun r4=>(r4.1,r4.2)))
def I_MulUp (a0 : I64) (a1 : I64) : I64 × Bool:=
  bindP (I_ValidFix a0) fun r1=>(bif (!r1) then ((c64 0),false) else bindP (I_ValidFix a1) fun r2=>(bif (!r2) then ((c64 0),false) else bindP (I_MulDown (w64 (0 - a0.val)) a1) fun r3=>((w64 (0 - r3.1.val)),r3.2)))
def I_combine__impl_MulDown__impl_MulUp (a0 : Iv) (a1 : Iv) : Iv:=
  bindP (I_MulDown a0.lo a1.lo) fun r1=>bindP (I_MulUp a0.lo a1.lo) fun r2=>(bif (!r1.2) then bindP (I_Whole) fun r3=>r3 else (bif (!r2.2) then bindP (I_Whole) fun r4=>r4 else bindP (I_MulDown a0.lo a1.hi) fun r5=>bindP (I_MulUp a0.lo a1.hi) fun r6=>(bif (!r5.2) then bindP (I_Whole) fun r7=>r7 else (bif (!r6.2) then bindP (I_Whole) fun r8=>r8 else bindP (I_MulDown a0.hi a1.lo) fun r9=>bindP (I_MulUp a0.hi a1.lo) fun r10=>(bif (!r9.2) then bindP (I_Whole) fun r11=>r11 else (bif (!r10.2) then bindP (I_Whole) fun r12=>r12 else bindP (I_MulDown a0.hi a1.hi) fun r13=>bindP (I_MulUp a0.hi a1.hi) fun r14=>(bif (!r13.2) then bindP (I_Whole) fun r15=>r15 else (bif (!r14.2) then bindP (I_Whole) fun r16=>r16 else bindP (I_bounded (mn (mn (mn (mn r1.1 r1.1) r5.1) r9.1) r13.1) (mx (mx (mx (mx r2.1 r2.1) r6.1) r10.1) r14.1) true) fun r17=>r17))))))))
def I_MulI (a0 : Iv) (a1 : Iv) : Iv:=
  bindP (I_areBounded a0 a1) fun r1=>(bif (!r1) then bindP (I_Whole) fun r2=>r2 else bindP (I_combine__impl_MulDown__impl_MulUp a0 a1) fun r3=>r3)
def I_affineOf_1__pIv (b0 : Iv) (a0 : I64) : Iv:=
  bindP (I_PiI) fun r1=>bindP (I_Quotient a0 (c64 648000000000)) fun r2=>bindP (I_MulI r1 r2) fun r3=>bindP (I_MulI b0 r3) fun r4=>r4
def I_affineOf (a0 : Sf) : Af:=
  bindP (I_Integer (c64 1)) fun r1=>bindP (I_Quotient a0.sc (c64 1000000000)) fun r2=>bindP (I_AddI r1 r2) fun r3=>bindP (I_affineOf_1__pIv r3 a0.rx) fun r4=>bindP (I_affineOf_1__pIv r3 a0.ry) fun r5=>bindP (I_affineOf_1__pIv r3 a0.rz) fun r6=>bindP (I_NegI r5) fun r7=>bindP (I_NegI r6) fun r8=>bindP (I_NegI r4) fun r9=>bindP (I_Quotient a0.tx (c64 1000)) fun r10=>bindP (I_Quotient a0.ty (c64 1000)) fun r11=>bindP (I_Quotient a0.tz (c64 1000)) fun r12=>(⟨(⟨(⟨r3,r6,r7⟩ : Vc),(⟨r8,r3,r4⟩ : Vc),(⟨r5,r9,r3⟩ : Vc)⟩ : Mt),(⟨r10,r11,r12⟩ : Vc)⟩ : Af)
def I_RadiansOf_r : Nat → I64 → Iv
  | 0,_=>(⟨(c64 0),(c64 0)⟩ : Iv)
  | fu + 1,a0=>bindP (I_within a0 (c64 (-36000000000)) (c64 36000000000)) fun r1=>(bif (!r1) then bindP (I_Whole) fun r3=>r3 else (bif (decide (a0.val < 0)) then bindP (I_RadiansOf_r fu (w64 (0 - a0.val))) fun r5=>bindP (I_NegI r5) fun r6=>r6 else (bif (a0.val == 0) then (⟨(c64 0),(c64 0)⟩ : Iv) else bindP (I_MulDivFloor a0 (c64 7244019458077122842) (c64 966367641600000000)) fun r8=>bindP (I_MulDivFloor a0 (c64 7244019458077122843) (c64 966367641600000000)) fun r9=>(⟨r8.1,(w64 (r9.1.val + 1))⟩ : Iv))))
def I_RadiansOf (a0 : I64) : Iv:=I_RadiansOf_r 2 a0
def I_LatOf (a0 : Pt) : Iv:=
  bindP (I_ValidPoint a0) fun r1=>(bif (!r1) then bindP (I_Whole) fun r2=>r2 else bindP (I_RadiansOf a0.lat) fun r3=>r3)
end Go.Proofs.YtfhnlkinjbakgaaGreat.Abs
