/- Functions on numbers of the reference that the plain laws lean on. -/
import Derived.Test.YtfhnlkinjbakgaaGreatSsF3
set_option linter.unusedVariables false
namespace Go.Proofs.YtfhnlkinjbakgaaGreat.Abs
open Go
def B9 (a0 : Iv) : Aq × Aq:=
  Aa (Cg a0.lo (An (0 - a0.lo.val))) fun r1=>Aa (Cg a0.hi (An (0 - a0.hi.val))) fun r2=>Aa (I1 a0 (Ah 0)) fun r3=>(bif r3 then Aa (Cg r1 r2) fun r4=>((Ah 0),r4) else Aa (Cq r1 r2) fun r5=>Aa (Cg r1 r2) fun r6=>(r5,r6))
def Yk (a0 : Iv) : Iv:=
  Aa (Am a0) fun r1=>(bif (!r1) then Aa (Aw) fun r2=>r2 else Aa (B9 a0) fun r3=>Aa (C0 r3.1 r3.2) fun r4=>r4)
def Bj (a0 : Iv) (a1 : Iv) : Iv:=
  Aa (Am a0) fun r1=>(bif (!r1) then Aa (Aw) fun r2=>r2 else Aa (Am a1) fun r3=>(bif (!r3) then Aa (Aw) fun r4=>r4 else Aa (C0 (An (a0.lo.val + a1.lo.val)) (An (a0.hi.val + a1.hi.val))) fun r5=>r5))
def Cr : Iv:=
  Aa (Aw) fun r1=>r1
def Kl (a0 : Iv) : Iv:=
  Aa (Am a0) fun r1=>(bif (!r1) then Aa (Aw) fun r2=>r2 else Aa (C0 (An (0 - a0.hi.val)) (An (0 - a0.lo.val))) fun r3=>r3)
def Ib : Nat → Dp → Dp → Dp → Dp → Dp → Aq → Dp × Dp × Dp
  | 0,_,_,_,_,_,_=>((Eu 0),(Eu 0),(Eu 0))
  | fu + 1,a1,a2,x_qhi,x_rest,x_q,x_i=>(bif (decide (x_i.val ≥ 0)) then (bif ((Ck x_rest 63).val == 1) then Ib fu a1 a2 x_qhi (Ak ((Qg .u64 (Ci .u64 x_rest.val 1).val (Eo .u64 (Ck a1 (Ak x_i.val).val).val 1).val).val - a2.val)) (Qg .u64 (Ci .u64 x_q.val 1).val 1) (An (x_i.val - 1)) else (bif (decide ((Qg .u64 (Ci .u64 x_rest.val 1).val (Eo .u64 (Ck a1 (Ak x_i.val).val).val 1).val).val ≥ a2.val)) then Ib fu a1 a2 x_qhi (Ak ((Qg .u64 (Ci .u64 x_rest.val 1).val (Eo .u64 (Ck a1 (Ak x_i.val).val).val 1).val).val - a2.val)) (Qg .u64 (Ci .u64 x_q.val 1).val 1) (An (x_i.val - 1)) else Ib fu a1 a2 x_qhi (Qg .u64 (Ci .u64 x_rest.val 1).val (Eo .u64 (Ck a1 (Ak x_i.val).val).val 1).val) (Ci .u64 x_q.val 1) (An (x_i.val - 1)))) else (x_qhi,x_q,x_rest))
def O8 (a0 : Dp) (a1 : Dp) (a2 : Dp) : Dp × Dp × Dp:=
  Ib 65 a1 a2 (Ak (Int.tdiv a0.val a2.val)) (Jl a0 a2.val) (Eu 0) (Ah 63)
def Fw (a0 : Wd) (a1 : Wd) : Wd:=
  (bif (decide ((Ak (a0.lo.val + a1.lo.val)).val < a0.lo.val)) then (⟨(An ((An (a0.hi.val + a1.hi.val)).val + 1)),(Ak (a0.lo.val + a1.lo.val))⟩ : Wd) else (⟨(An (a0.hi.val + a1.hi.val)),(Ak (a0.lo.val + a1.lo.val))⟩ : Wd))
def Ha (a0 : Wd) (a1 : Aq) : Wd × Aq:=
  (bif (decide (a0.hi.val ≥ 0)) then Aa (O8 (Ak a0.hi.val) a0.lo (Ak a1.val)) fun r2=>((⟨(An r2.1.val),r2.2.1⟩ : Wd),(An r2.2.2.val)) else Aa (Db a0) fun r3=>Aa (O8 (Ak r3.hi.val) r3.lo (Ak a1.val)) fun r4=>Aa (Db (⟨(An r4.1.val),r4.2.1⟩ : Wd)) fun r5=>(bif (r4.2.2.val == 0) then (r5,(Ah 0)) else Aa (I5 (Ah (-1))) fun r7=>Aa (Fw r5 r7) fun r8=>(r8,(An (a1.val - (An r4.2.2.val).val)))))
def Ds (a0 : Aq) (a1 : Aq) (a2 : Aq) : Aq × Bool:=
  (bif (decide (a2.val ≤ 0)) then ((Ah 0),false) else Aa (A3 a0 a1) fun r2=>Aa (Ha r2 a2) fun r3=>Aa (Ke r3.1) fun r4=>(r4.1,r4.2))
def Kk (self : Aq → Iv) (a0 : Aq) : Iv:=
  Aa (Bz a0 (Ah (-36000000000)) (Ah 36000000000)) fun r1=>(bif (!r1) then Aa (Cr) fun r3=>r3 else (bif (a0.val == 0) then (⟨(Ah 0),(Ah 0)⟩ : Iv) else (bif (decide (a0.val < 0)) then Aa (self (An (0 - a0.val))) fun r6=>Aa (Kl r6) fun r7=>r7 else Aa (Ds a0 (Ah 7244019458077122842) (Ah 966367641600000000)) fun r8=>Aa (Ds a0 (Ah 7244019458077122843) (Ah 966367641600000000)) fun r9=>(⟨r8.1,(An (r9.1.val + 1))⟩ : Iv))))
def He : Nat → Aq → Iv
  | 0,_=>(⟨(Ah 0),(Ah 0)⟩ : Iv)
  | fu + 1,a0=>Kk (He fu) a0
def B8 (a0 : Aq) : Iv:=He 2 a0
def Of (a0 : Iv) : Bool:=
  Aa (Am a0) fun r1=>r1
def F5 (a0 : Aq) : Bool:=
  Aa (Bz a0 (Ah (-1099511627776)) (Ah 1099511627776)) fun r1=>r1
def Lx (a0 : Iv) : Bool:=
  Aa (Of a0) fun r1=>(bif r1 then Aa (F5 a0.lo) fun r2=>(bif r2 then Aa (F5 a0.hi) fun r3=>r3 else false) else false)
def Co : Iv:=
  (⟨(Ah (-4294967296)),(Ah 4294967296)⟩ : Iv)
def Wz (a0 : Aq) (a1 : Aq) : Aq:=
  (bif (decide ((Jl a0 a1.val).val < 0)) then (An ((An (Int.tdiv a0.val a1.val)).val - 1)) else (An (Int.tdiv a0.val a1.val)))
def Cl (a0 : Aq) : Aq:=
  Aa (F5 a0) fun r1=>(bif (!r1) then (Ah 0) else Aa (Wz (An (a0.val + 3373259426)) (Ah 6746518852)) fun r3=>r3)
def Bm (a0 : Aq) : Iv:=
  (⟨a0,a0⟩ : Iv)
def Kd : Nat → Aq → Iv
  | 0,_=>(⟨(Ah 0),(Ah 0)⟩ : Iv)
  | fu + 1,a0=>(bif (a0.val == 0) then (⟨(Ah 0),(Ah 0)⟩ : Iv) else (bif (decide (a0.val < 0)) then Aa (Kd fu (An (0 - a0.val))) fun r3=>(⟨(An (0 - r3.hi.val)),(An (0 - r3.lo.val))⟩ : Iv) else Aa (Ei a0 (Ah 7244019458077122842) (Ah 30)) fun r4=>(⟨r4.1,(An (r4.1.val + 1))⟩ : Iv)))
def G9 (a0 : Aq) : Iv:=Kd 2 a0
def C5 (a0 : Aq) : Iv:=
  Aa (Bz a0 (Ah (-4096)) (Ah 4096)) fun r1=>(bif (!r1) then Aa (Cr) fun r3=>r3 else Aa (G9 a0) fun r4=>r4)
def Cw (a0 : Iv) (a1 : Iv) : Iv:=
  Aa (Am a0) fun r1=>(bif (!r1) then Aa (Aw) fun r2=>r2 else Aa (Am a1) fun r3=>(bif (!r3) then Aa (Aw) fun r4=>r4 else Aa (C0 (An (a0.lo.val - a1.hi.val)) (An (a0.hi.val - a1.lo.val))) fun r5=>r5))
def Jc (a0 : Iv) (a1 : Iv) : Bool:=
  Aa (Am a1) fun r1=>(bif (!r1) then true else Aa (Am a0) fun r2=>(bif r2 then (bif (decide (a1.lo.val ≤ a0.lo.val)) then (decide (a0.hi.val ≤ a1.hi.val)) else false) else false))
def I6 (a0 : Iv) : Iv:=
  Aa (Am a0) fun r1=>(bif (!r1) then Aa (Aw) fun r2=>r2 else Aa (B9 a0) fun r3=>Aa (Bb r3.1 r3.1) fun r4=>Aa (Ca r3.2 r3.2) fun r5=>(bif (!r4.2) then Aa (Aw) fun r6=>r6 else (bif (!r5.2) then Aa (Aw) fun r7=>r7 else Aa (C0 r4.1 r5.1) fun r8=>r8)))
def Bl (a0 : Aq) (a1 : Aq) : Aq × Bool:=
  Aa (B7 a0) fun r1=>(bif (!r1) then ((Ah 0),false) else Aa (B7 a1) fun r2=>(bif (!r2) then ((Ah 0),false) else (bif (a1.val == 0) then ((Ah 0),false) else (bif (decide (a1.val < 0)) then Aa (Ds (An (0 - a0.val)) (Ah 4294967296) (An (0 - a1.val))) fun r3=>Aa (Fu r3.1 r3.2) fun r4=>(r4.1,r4.2) else Aa (Ds a0 (Ah 4294967296) a1) fun r5=>Aa (Fu r5.1 r5.2) fun r6=>(r6.1,r6.2)))))
def Cj (a0 : Aq) (a1 : Aq) : Aq × Bool:=
  Aa (B7 a0) fun r1=>(bif (!r1) then ((Ah 0),false) else Aa (Bl (An (0 - a0.val)) a1) fun r2=>((An (0 - r2.1.val)),r2.2))
def A4 (a0 : Iv) (a1 : Iv) : Iv:=
  Aa (Am a0) fun r1=>(bif (!r1) then Aa (Aw) fun r2=>r2 else Aa (Am a1) fun r3=>(bif (!r3) then Aa (Aw) fun r4=>r4 else Aa (I1 a1 (Ah 0)) fun r5=>(bif r5 then Aa (Aw) fun r6=>r6 else Aa (Bl a0.lo a1.lo) fun r7=>Aa (Cj a0.lo a1.lo) fun r8=>(bif (!r7.2) then Aa (Aw) fun r9=>r9 else (bif (!r8.2) then Aa (Aw) fun r10=>r10 else Aa (Cq (Ah 1152921504606846976) r7.1) fun r11=>Aa (Cg (Ah (-1152921504606846976)) r8.1) fun r12=>Aa (Bl a0.lo a1.hi) fun r13=>Aa (Cj a0.lo a1.hi) fun r14=>(bif (!r13.2) then Aa (Aw) fun r15=>r15 else (bif (!r14.2) then Aa (Aw) fun r16=>r16 else Aa (Cq r11 r13.1) fun r17=>Aa (Cg r12 r14.1) fun r18=>Aa (Bl a0.hi a1.lo) fun r19=>Aa (Cj a0.hi a1.lo) fun r20=>(bif (!r19.2) then Aa (Aw) fun r21=>r21 else (bif (!r20.2) then Aa (Aw) fun r22=>r22 else Aa (Cq r17 r19.1) fun r23=>Aa (Cg r18 r20.1) fun r24=>Aa (Bl a0.hi a1.hi) fun r25=>Aa (Cj a0.hi a1.hi) fun r26=>(bif (!r25.2) then Aa (Aw) fun r27=>r27 else (bif (!r26.2) then Aa (Aw) fun r28=>r28 else Aa (Cq r23 r25.1) fun r29=>Aa (Cg r24 r26.1) fun r30=>Aa (C0 r29 r30) fun r31=>r31)))))))))))
def Gl (a0 : Iv) (a1 : Aq) : Iv:=
  Aa (Ao (Ah 1)) fun r1=>Aa (Ao (Ah 1)) fun r2=>Aa (Ao (An ((An (16 + a1.val)).val * (An ((An (16 + a1.val)).val + 1)).val))) fun r3=>Aa (A4 a0 r3) fun r4=>Aa (Ay r4 r1) fun r5=>Aa (Cw r2 r5) fun r6=>Aa (Ao (Ah 1)) fun r7=>Aa (Ao (An ((An (14 + a1.val)).val * (An ((An (14 + a1.val)).val + 1)).val))) fun r8=>Aa (A4 a0 r8) fun r9=>Aa (Ay r9 r6) fun r10=>Aa (Cw r7 r10) fun r11=>Aa (Ao (Ah 1)) fun r12=>Aa (Ao (An ((An (12 + a1.val)).val * (An ((An (12 + a1.val)).val + 1)).val))) fun r13=>Aa (A4 a0 r13) fun r14=>Aa (Ay r14 r11) fun r15=>Aa (Cw r12 r15) fun r16=>Aa (Ao (Ah 1)) fun r17=>Aa (Ao (An ((An (10 + a1.val)).val * (An ((An (10 + a1.val)).val + 1)).val))) fun r18=>Aa (A4 a0 r18) fun r19=>Aa (Ay r19 r16) fun r20=>Aa (Cw r17 r20) fun r21=>Aa (Ao (Ah 1)) fun r22=>Aa (Ao (An ((An (8 + a1.val)).val * (An ((An (8 + a1.val)).val + 1)).val))) fun r23=>Aa (A4 a0 r23) fun r24=>Aa (Ay r24 r21) fun r25=>Aa (Cw r22 r25) fun r26=>Aa (Ao (Ah 1)) fun r27=>Aa (Ao (An ((An (6 + a1.val)).val * (An ((An (6 + a1.val)).val + 1)).val))) fun r28=>Aa (A4 a0 r28) fun r29=>Aa (Ay r29 r26) fun r30=>Aa (Cw r27 r30) fun r31=>Aa (Ao (Ah 1)) fun r32=>Aa (Ao (An ((An (4 + a1.val)).val * (An ((An (4 + a1.val)).val + 1)).val))) fun r33=>Aa (A4 a0 r33) fun r34=>Aa (Ay r34 r31) fun r35=>Aa (Cw r32 r35) fun r36=>Aa (Ao (Ah 1)) fun r37=>Aa (Ao (An ((An (2 + a1.val)).val * (An ((An (2 + a1.val)).val + 1)).val))) fun r38=>Aa (A4 a0 r38) fun r39=>Aa (Ay r39 r36) fun r40=>Aa (Cw r37 r40) fun r41=>r41
def M4 : Iv:=
  (⟨(Ah (-1)),(Ah 1)⟩ : Iv)
def K4 (a0 : Iv) : Iv:=
  Aa (Co) fun r1=>Aa (Jc a0 r1) fun r2=>(bif (!r2) then Aa (Cr) fun r3=>r3 else Aa (I6 a0) fun r4=>Aa (Gl r4 (Ah 0)) fun r5=>Aa (Ay a0 r5) fun r6=>Aa (M4) fun r7=>Aa (Bj r6 r7) fun r8=>r8)
def O6 (a0 : Iv) : Iv:=
  Aa (Co) fun r1=>Aa (Io a0 r1) fun r2=>(bif (!r2.2) then Aa (Co) fun r3=>r3 else r2.1)
def K5 (a0 : Iv) : Iv:=
  Aa (Co) fun r1=>Aa (Jc a0 r1) fun r2=>(bif (!r2) then Aa (Cr) fun r3=>r3 else Aa (I6 a0) fun r4=>Aa (Gl r4 (Ah (-1))) fun r5=>Aa (M4) fun r6=>Aa (Bj r5 r6) fun r7=>r7)
def Q9 (a0 : Aq) (a1 : Aq) : Iv:=
  Aa (F5 a0) fun r1=>(bif (!r1) then Aa (Co) fun r2=>r2 else Aa (Cl a0) fun r3=>Aa (Bm a0) fun r4=>Aa (C5 r3) fun r5=>Aa (Cw r4 r5) fun r6=>(bif ((Eo .i64 (An (r3.val + a1.val)).val 3).val == 0) then Aa (K4 r6) fun r7=>Aa (O6 r7) fun r8=>r8 else (bif ((Eo .i64 (An (r3.val + a1.val)).val 3).val == 1) then Aa (K5 r6) fun r9=>Aa (O6 r9) fun r10=>r10 else (bif ((Eo .i64 (An (r3.val + a1.val)).val 3).val == 2) then Aa (K4 r6) fun r11=>Aa (Kl r11) fun r12=>Aa (O6 r12) fun r13=>r13 else Aa (K5 r6) fun r14=>Aa (Kl r14) fun r15=>Aa (O6 r15) fun r16=>r16))))
def Cm (a0 : Iv) (a1 : Iv) : Iv:=
  Aa (Am a0) fun r1=>(bif (!r1) then Aa (Aw) fun r2=>r2 else Aa (Am a1) fun r3=>(bif (!r3) then Aa (Aw) fun r4=>r4 else Aa (Cq a0.lo a1.lo) fun r5=>Aa (Cg a0.hi a1.hi) fun r6=>Aa (C0 r5 r6) fun r7=>r7))
def Ft : Nat → Aq → Iv → Aq → Iv → Iv
  | 0,_,_,_,_=>(⟨(Ah 0),(Ah 0)⟩ : Iv)
  | fu + 1,a1,a0,x_k,y_2=>Aa (Cl a0.hi) fun r8=>(bif (decide (x_k.val ≤ (An (r8.val + 1)).val)) then Aa (C5 x_k) fun r10=>Aa (Bx r10 a0) fun r11=>(bif (!r11) then Ft fu a1 a0 (An (x_k.val + 1)) y_2 else (bif ((Eo .i64 (An (x_k.val + a1.val)).val 3).val == 1) then Aa (Ao (Ah 1)) fun r14=>Aa (Cm y_2 r14) fun r15=>Ft fu a1 a0 (An (x_k.val + 1)) r15 else (bif ((Eo .i64 (An (x_k.val + a1.val)).val 3).val == 3) then Aa (Ao (Ah (-1))) fun r17=>Aa (Cm y_2 r17) fun r18=>Ft fu a1 a0 (An (x_k.val + 1)) r18 else Ft fu a1 a0 (An (x_k.val + 1)) y_2))) else y_2)
def Sp (a0 : Iv) (a1 : Aq) : Iv:=
  Aa (Lx a0) fun r1=>(bif (!r1) then Aa (Co) fun r3=>r3 else Aa (Q9 a0.lo a1) fun r4=>Aa (Q9 a0.hi a1) fun r5=>Aa (Cm r4 r5) fun r6=>Aa (Cl a0.lo) fun r7=>Ft ((2000 - (An (r7.val - 1)).val).toNat + 1) a1 a0 (An (r7.val - 1)) r6)
def Hp (a0 : Iv) : Iv:=
  Aa (Sp a0 (Ah 1)) fun r1=>r1
def Lh (a0 : Iv) : Iv:=
  Aa (Sp a0 (Ah 0)) fun r1=>r1
def Lm (a0 : Pt) : Vc:=
  Aa (B8 a0.lat) fun r1=>Aa (B8 a0.lon) fun r2=>Aa (Hp r1) fun r3=>Aa (Hp r2) fun r4=>Aa (Ay r3 r4) fun r5=>Aa (Lh r2) fun r6=>Aa (Ay r3 r6) fun r7=>Aa (Lh r1) fun r8=>(⟨r5,r7,r8⟩ : Vc)
def Tm (a0 : Vc) (a1 : Vc) : Vc:=
  Aa (Ay a0.y a1.z) fun r1=>Aa (Ay a0.z a1.y) fun r2=>Aa (Cw r1 r2) fun r3=>Aa (Ay a0.z a1.x) fun r4=>Aa (Ay a0.x a1.z) fun r5=>Aa (Cw r4 r5) fun r6=>Aa (Ay a0.x a1.y) fun r7=>Aa (Ay a0.y a1.x) fun r8=>Aa (Cw r7 r8) fun r9=>(⟨r3,r6,r9⟩ : Vc)
def Dt (a0 : Iv) : Bool:=
  Aa (Am a0) fun r1=>(!r1)
def Vr (a0 : Iv) : Aq × Aq:=
  Aa (Yk a0) fun r1=>(r1.lo,r1.hi)
def E8 (a0 : Aq) (a1 : Aq) (a2 : Aq) : Wd:=
  Aa (A3 a0 a0) fun r1=>Aa (A3 a1 a1) fun r2=>Aa (Fw r1 r2) fun r3=>Aa (A3 a2 a2) fun r4=>Aa (Fw r3 r4) fun r5=>r5
def Cy : Nat → Wd → Dp → Aq → Dp
  | 0,_,_,_=>(Eu 0)
  | fu + 1,a0,x_out,x_i=>(bif (decide (x_i.val ≥ 0)) then Aa (Ce (Qg .u64 x_out.val (Ci .u64 1 (Ak x_i.val).val).val) (Qg .u64 x_out.val (Ci .u64 1 (Ak x_i.val).val).val)) fun r2=>(bif (decide (r2.1.val < (Ak a0.hi.val).val)) then Cy fu a0 (Qg .u64 x_out.val (Ci .u64 1 (Ak x_i.val).val).val) (An (x_i.val - 1)) else (bif (r2.1.val == (Ak a0.hi.val).val) then (bif (decide (r2.2.val ≤ a0.lo.val)) then Cy fu a0 (Qg .u64 x_out.val (Ci .u64 1 (Ak x_i.val).val).val) (An (x_i.val - 1)) else Cy fu a0 x_out (An (x_i.val - 1))) else Cy fu a0 x_out (An (x_i.val - 1)))) else x_out)
def Cc (a0 : Wd) : Dp:=
  Cy 65 a0 (Eu 0) (Ah 63)
def W1 (a0 : Vc) : Iv:=
  Aa (Dt a0.x) fun r1=>(bif r1 then Aa (Cr) fun r2=>r2 else Aa (Dt a0.y) fun r3=>(bif r3 then Aa (Cr) fun r4=>r4 else Aa (Dt a0.z) fun r5=>(bif r5 then Aa (Cr) fun r6=>r6 else Aa (Vr a0.x) fun r7=>Aa (Vr a0.y) fun r8=>Aa (Vr a0.z) fun r9=>Aa (E8 r7.1 r8.1 r9.1) fun r10=>Aa (Cc r10) fun r11=>Aa (E8 r7.2 r8.2 r9.2) fun r12=>Aa (Cc r12) fun r13=>Aa (A3 (An r13.val) (An r13.val)) fun r14=>(bif (!((r14.hi.val == r12.hi.val) && (r14.lo.val == r12.lo.val))) then (bif (decide ((An ((An r13.val).val + 1)).val ≥ 1152921504606846976)) then Aa (Cr) fun r15=>r15 else (⟨(An r11.val),(An ((An r13.val).val + 1))⟩ : Iv)) else (bif (decide ((An r13.val).val ≥ 1152921504606846976)) then Aa (Cr) fun r16=>r16 else (⟨(An r11.val),(An r13.val)⟩ : Iv))))))
def l8 (a0 : Vc) (a1 : Vc) : Iv:=
  Aa (Ay a0.x a1.x) fun r1=>Aa (Ay a0.y a1.y) fun r2=>Aa (Bj r1 r2) fun r3=>Aa (Ay a0.z a1.z) fun r4=>Aa (Bj r3 r4) fun r5=>r5
def G8 (a0 : Aq) : Bool:=
  (bif (decide ((-1152921504606846976) < a0.val)) then (decide (a0.val < 1152921504606846976)) else false)
def Kc : Iv:=
  Aa (G9 (Ah 1)) fun r1=>Aa (G9 (Ah 1)) fun r2=>(⟨(An (0 - r1.hi.val)),r2.hi⟩ : Iv)
def I8 (a0 : Aq) (a1 : Aq) : Aq × Bool:=
  (bif (decide (a0.val < 0)) then ((Ah 0),false) else (bif (decide (a1.val < 0)) then ((Ah 0),false) else Aa (A3 a0 a1) fun r1=>Aa (Cc r1) fun r2=>((An r2.val),true)))
def Ly (a0 : Aq) : Aq × Bool:=
  Aa (Bz a0 (Ah 0) (Ah 1152921504606846976)) fun r1=>(bif (!r1) then ((Ah 0),false) else Aa (I8 a0 (Ah 4294967296)) fun r2=>(r2.1,r2.2))
def Rm (a0 : Aq) : Aq × Bool:=
  Aa (Ly a0) fun r1=>(bif (!r1.2) then ((Ah 0),false) else Aa (Ei r1.1 r1.1 (Ah 32)) fun r2=>(bif (r2.1.val != a0.val) then ((An (r1.1.val + 1)),true) else (bif ((Eo .i64 (An (r1.1.val * r1.1.val)).val 4294967295).val != 0) then ((An (r1.1.val + 1)),true) else (r1.1,true))))
def Jw (a0 : Iv) : Iv:=
  Aa (Am a0) fun r1=>(bif (!r1) then Aa (Aw) fun r2=>r2 else (bif (decide (a0.lo.val < 0)) then Aa (Aw) fun r3=>r3 else Aa (Ly a0.lo) fun r4=>Aa (Rm a0.hi) fun r5=>Aa (C0 r4.1 r5.1) fun r6=>r6))
def Qt (a0 : Iv) : Iv:=
  Aa (Ao (Ah 1)) fun r1=>Aa (Ao (Ah 1)) fun r2=>Aa (I6 a0) fun r3=>Aa (Bj r2 r3) fun r4=>Aa (Jw r4) fun r5=>Aa (Bj r1 r5) fun r6=>Aa (A4 a0 r6) fun r7=>r7
def Mj (a0 : Aq) (a1 : Aq) : Aq × Bool:=
  (bif (decide (a1.val ≤ 0)) then ((Ah 0),false) else Aa (Ds a0 (Ah 4294967296) a1) fun r1=>Aa (Fu r1.1 r1.2) fun r2=>(r2.1,r2.2))
def O7 (a0 : Aq) (a1 : Aq) : Aq × Bool:=
  (bif (decide (a1.val ≤ 0)) then ((Ah 0),false) else Aa (Ds a0 (Ah 4294967296) a1) fun r1=>(bif (!r1.2) then ((Ah 0),false) else (bif ((An (r1.1.val * a1.val)).val != (An (a0.val * 4294967296)).val) then Aa (Fu (An (r1.1.val + 1)) true) fun r2=>(r2.1,r2.2) else Aa (Fu r1.1 true) fun r3=>(r3.1,r3.2))))
def C9 (a0 : Aq) (a1 : Aq) : Iv:=
  (bif (decide (a1.val < 0)) then (bif (a0.val == (-9223372036854775808)) then Aa (Aw) fun r1=>r1 else (bif (a1.val == (-9223372036854775808)) then Aa (Aw) fun r2=>r2 else Aa (Mj (An (0 - a0.val)) (An (0 - a1.val))) fun r3=>Aa (O7 (An (0 - a0.val)) (An (0 - a1.val))) fun r4=>(bif (!r3.2) then Aa (Aw) fun r5=>r5 else (bif (!r4.2) then Aa (Aw) fun r6=>r6 else Aa (C0 r3.1 r4.1) fun r7=>r7)))) else Aa (Mj a0 a1) fun r8=>Aa (O7 a0 a1) fun r9=>(bif (!r8.2) then Aa (Aw) fun r10=>r10 else (bif (!r9.2) then Aa (Aw) fun r11=>r11 else Aa (C0 r8.1 r9.1) fun r12=>r12)))
def Ro (a0 : Iv) : Iv:=
  Aa (Jc a0 (⟨(Ah (-1073741824)),(Ah 1073741824)⟩ : Iv)) fun r1=>(bif (!r1) then Aa (Cr) fun r2=>r2 else Aa (I6 a0) fun r3=>Aa (C9 (Ah 1) (Ah 21)) fun r4=>Aa (C9 (Ah 1) (Ah 19)) fun r5=>Aa (Ay r3 r4) fun r6=>Aa (Cw r5 r6) fun r7=>Aa (C9 (Ah 1) (Ah 17)) fun r8=>Aa (Ay r3 r7) fun r9=>Aa (Cw r8 r9) fun r10=>Aa (C9 (Ah 1) (Ah 15)) fun r11=>Aa (Ay r3 r10) fun r12=>Aa (Cw r11 r12) fun r13=>Aa (C9 (Ah 1) (Ah 13)) fun r14=>Aa (Ay r3 r13) fun r15=>Aa (Cw r14 r15) fun r16=>Aa (C9 (Ah 1) (Ah 11)) fun r17=>Aa (Ay r3 r16) fun r18=>Aa (Cw r17 r18) fun r19=>Aa (C9 (Ah 1) (Ah 9)) fun r20=>Aa (Ay r3 r19) fun r21=>Aa (Cw r20 r21) fun r22=>Aa (C9 (Ah 1) (Ah 7)) fun r23=>Aa (Ay r3 r22) fun r24=>Aa (Cw r23 r24) fun r25=>Aa (C9 (Ah 1) (Ah 5)) fun r26=>Aa (Ay r3 r25) fun r27=>Aa (Cw r26 r27) fun r28=>Aa (C9 (Ah 1) (Ah 3)) fun r29=>Aa (Ay r3 r28) fun r30=>Aa (Cw r29 r30) fun r31=>Aa (C9 (Ah 1) (Ah 1)) fun r32=>Aa (Ay r3 r31) fun r33=>Aa (Cw r32 r33) fun r34=>Aa (Ay a0 r34) fun r35=>Aa (M4) fun r36=>Aa (Bj r35 r36) fun r37=>r37)
def Qu (a0 : Iv) : Iv:=
  Aa (Am a0) fun r1=>(bif (!r1) then Aa (Aw) fun r2=>r2 else Aa (C0 (An (2 * a0.lo.val)) (An (2 * a0.hi.val))) fun r3=>r3)
def So (a0 : Iv) : Iv:=
  Aa (Qt a0) fun r1=>Aa (Qt r1) fun r2=>Aa (Ro r2) fun r3=>Aa (Qu r3) fun r4=>Aa (Qu r4) fun r5=>r5
def To (self : Aq → Iv) (a0 : Aq) : Iv:=
  Aa (G8 a0) fun r1=>(bif (!r1) then Aa (Kc) fun r3=>r3 else (bif (decide (a0.val < 0)) then Aa (self (An (0 - a0.val))) fun r5=>Aa (Kl r5) fun r6=>r6 else (bif (decide (a0.val > 4294967296)) then Aa (C5 (Ah 1)) fun r8=>Aa (Ao (Ah 1)) fun r9=>Aa (Bm a0) fun r10=>Aa (A4 r9 r10) fun r11=>Aa (So r11) fun r12=>Aa (Cw r8 r12) fun r13=>r13 else Aa (Bm a0) fun r14=>Aa (So r14) fun r15=>r15)))
def Ot : Nat → Aq → Iv
  | 0,_=>(⟨(Ah 0),(Ah 0)⟩ : Iv)
  | fu + 1,a0=>To (Ot fu) a0
def Vs (a0 : Aq) : Iv:=Ot 2 a0
def De (a0 : Iv) : Iv:=
  Aa (Dt a0) fun r1=>(bif r1 then Aa (Kc) fun r2=>r2 else Aa (Vs a0.lo) fun r3=>Aa (Vs a0.hi) fun r4=>Aa (Cm r3 r4) fun r5=>r5)
def Bh (a0 : Aq) (a1 : Aq) : Iv:=
  Aa (G8 a0) fun r1=>(bif (!r1) then Aa (Cr) fun r2=>r2 else Aa (G8 a1) fun r3=>(bif (!r3) then Aa (Cr) fun r4=>r4 else (bif (a1.val == 0) then (bif (a0.val == 0) then Aa (Cr) fun r5=>r5 else (bif (decide (a0.val < 0)) then (bif (decide ((An (0 - a0.val)).val > a1.val)) then (bif (decide ((An (0 - a0.val)).val > (An (0 - a1.val)).val)) then (bif (decide (a0.val < 0)) then Aa (C5 (Ah (-1))) fun r6=>Aa (Bm a1) fun r7=>Aa (Bm a0) fun r8=>Aa (A4 r7 r8) fun r9=>Aa (De r9) fun r10=>Aa (Cw r6 r10) fun r11=>r11 else Aa (C5 (Ah 1)) fun r12=>Aa (Bm a1) fun r13=>Aa (Bm a0) fun r14=>Aa (A4 r13 r14) fun r15=>Aa (De r15) fun r16=>Aa (Cw r12 r16) fun r17=>r17) else (bif (decide (a1.val > 0)) then Aa (Bm a0) fun r18=>Aa (Bm a1) fun r19=>Aa (A4 r18 r19) fun r20=>Aa (De r20) fun r21=>r21 else (bif (decide (a0.val < 0)) then Aa (Bm a0) fun r22=>Aa (Bm a1) fun r23=>Aa (A4 r22 r23) fun r24=>Aa (De r24) fun r25=>Aa (C5 (Ah (-2))) fun r26=>Aa (Bj r25 r26) fun r27=>r27 else Aa (Bm a0) fun r28=>Aa (Bm a1) fun r29=>Aa (A4 r28 r29) fun r30=>Aa (De r30) fun r31=>Aa (C5 (Ah 2)) fun r32=>Aa (Bj r31 r32) fun r33=>r33))) else (bif (decide (a1.val > 0)) then Aa (Bm a0) fun r34=>Aa (Bm a1) fun r35=>Aa (A4 r34 r35) fun r36=>Aa (De r36) fun r37=>r37 else (bif (decide (a0.val < 0)) then Aa (Bm a0) fun r38=>Aa (Bm a1) fun r39=>Aa (A4 r38 r39) fun r40=>Aa (De r40) fun r41=>Aa (C5 (Ah (-2))) fun r42=>Aa (Bj r41 r42) fun r43=>r43 else Aa (Bm a0) fun r44=>Aa (Bm a1) fun r45=>Aa (A4 r44 r45) fun r46=>Aa (De r46) fun r47=>Aa (C5 (Ah 2)) fun r48=>Aa (Bj r47 r48) fun r49=>r49))) else (bif (decide (a0.val > a1.val)) then (bif (decide (a0.val > (An (0 - a1.val)).val)) then (bif (decide (a0.val < 0)) then Aa (C5 (Ah (-1))) fun r50=>Aa (Bm a1) fun r51=>Aa (Bm a0) fun r52=>Aa (A4 r51 r52) fun r53=>Aa (De r53) fun r54=>Aa (Cw r50 r54) fun r55=>r55 else Aa (C5 (Ah 1)) fun r56=>Aa (Bm a1) fun r57=>Aa (Bm a0) fun r58=>Aa (A4 r57 r58) fun r59=>Aa (De r59) fun r60=>Aa (Cw r56 r60) fun r61=>r61) else (bif (decide (a1.val > 0)) then Aa (Bm a0) fun r62=>Aa (Bm a1) fun r63=>Aa (A4 r62 r63) fun r64=>Aa (De r64) fun r65=>r65 else (bif (decide (a0.val < 0)) then Aa (Bm a0) fun r66=>Aa (Bm a1) fun r67=>Aa (A4 r66 r67) fun r68=>Aa (De r68) fun r69=>Aa (C5 (Ah (-2))) fun r70=>Aa (Bj r69 r70) fun r71=>r71 else Aa (Bm a0) fun r72=>Aa (Bm a1) fun r73=>Aa (A4 r72 r73) fun r74=>Aa (De r74) fun r75=>Aa (C5 (Ah 2)) fun r76=>Aa (Bj r75 r76) fun r77=>r77))) else (bif (decide (a1.val > 0)) then Aa (Bm a0) fun r78=>Aa (Bm a1) fun r79=>Aa (A4 r78 r79) fun r80=>Aa (De r80) fun r81=>r81 else (bif (decide (a0.val < 0)) then Aa (Bm a0) fun r82=>Aa (Bm a1) fun r83=>Aa (A4 r82 r83) fun r84=>Aa (De r84) fun r85=>Aa (C5 (Ah (-2))) fun r86=>Aa (Bj r85 r86) fun r87=>r87 else Aa (Bm a0) fun r88=>Aa (Bm a1) fun r89=>Aa (A4 r88 r89) fun r90=>Aa (De r90) fun r91=>Aa (C5 (Ah 2)) fun r92=>Aa (Bj r91 r92) fun r93=>r93))))) else (bif (decide (a0.val < 0)) then (bif (decide ((An (0 - a0.val)).val > a1.val)) then (bif (decide ((An (0 - a0.val)).val > (An (0 - a1.val)).val)) then (bif (decide (a0.val < 0)) then Aa (C5 (Ah (-1))) fun r94=>Aa (Bm a1) fun r95=>Aa (Bm a0) fun r96=>Aa (A4 r95 r96) fun r97=>Aa (De r97) fun r98=>Aa (Cw r94 r98) fun r99=>r99 else Aa (C5 (Ah 1)) fun r100=>Aa (Bm a1) fun r101=>Aa (Bm a0) fun r102=>Aa (A4 r101 r102) fun r103=>Aa (De r103) fun r104=>Aa (Cw r100 r104) fun r105=>r105) else (bif (decide (a1.val > 0)) then Aa (Bm a0) fun r106=>Aa (Bm a1) fun r107=>Aa (A4 r106 r107) fun r108=>Aa (De r108) fun r109=>r109 else (bif (decide (a0.val < 0)) then Aa (Bm a0) fun r110=>Aa (Bm a1) fun r111=>Aa (A4 r110 r111) fun r112=>Aa (De r112) fun r113=>Aa (C5 (Ah (-2))) fun r114=>Aa (Bj r113 r114) fun r115=>r115 else Aa (Bm a0) fun r116=>Aa (Bm a1) fun r117=>Aa (A4 r116 r117) fun r118=>Aa (De r118) fun r119=>Aa (C5 (Ah 2)) fun r120=>Aa (Bj r119 r120) fun r121=>r121))) else (bif (decide (a1.val > 0)) then Aa (Bm a0) fun r122=>Aa (Bm a1) fun r123=>Aa (A4 r122 r123) fun r124=>Aa (De r124) fun r125=>r125 else (bif (decide (a0.val < 0)) then Aa (Bm a0) fun r126=>Aa (Bm a1) fun r127=>Aa (A4 r126 r127) fun r128=>Aa (De r128) fun r129=>Aa (C5 (Ah (-2))) fun r130=>Aa (Bj r129 r130) fun r131=>r131 else Aa (Bm a0) fun r132=>Aa (Bm a1) fun r133=>Aa (A4 r132 r133) fun r134=>Aa (De r134) fun r135=>Aa (C5 (Ah 2)) fun r136=>Aa (Bj r135 r136) fun r137=>r137))) else (bif (decide (a0.val > a1.val)) then (bif (decide (a0.val > (An (0 - a1.val)).val)) then (bif (decide (a0.val < 0)) then Aa (C5 (Ah (-1))) fun r138=>Aa (Bm a1) fun r139=>Aa (Bm a0) fun r140=>Aa (A4 r139 r140) fun r141=>Aa (De r141) fun r142=>Aa (Cw r138 r142) fun r143=>r143 else Aa (C5 (Ah 1)) fun r144=>Aa (Bm a1) fun r145=>Aa (Bm a0) fun r146=>Aa (A4 r145 r146) fun r147=>Aa (De r147) fun r148=>Aa (Cw r144 r148) fun r149=>r149) else (bif (decide (a1.val > 0)) then Aa (Bm a0) fun r150=>Aa (Bm a1) fun r151=>Aa (A4 r150 r151) fun r152=>Aa (De r152) fun r153=>r153 else (bif (decide (a0.val < 0)) then Aa (Bm a0) fun r154=>Aa (Bm a1) fun r155=>Aa (A4 r154 r155) fun r156=>Aa (De r156) fun r157=>Aa (C5 (Ah (-2))) fun r158=>Aa (Bj r157 r158) fun r159=>r159 else Aa (Bm a0) fun r160=>Aa (Bm a1) fun r161=>Aa (A4 r160 r161) fun r162=>Aa (De r162) fun r163=>Aa (C5 (Ah 2)) fun r164=>Aa (Bj r163 r164) fun r165=>r165))) else (bif (decide (a1.val > 0)) then Aa (Bm a0) fun r166=>Aa (Bm a1) fun r167=>Aa (A4 r166 r167) fun r168=>Aa (De r168) fun r169=>r169 else (bif (decide (a0.val < 0)) then Aa (Bm a0) fun r170=>Aa (Bm a1) fun r171=>Aa (A4 r170 r171) fun r172=>Aa (De r172) fun r173=>Aa (C5 (Ah (-2))) fun r174=>Aa (Bj r173 r174) fun r175=>r175 else Aa (Bm a0) fun r176=>Aa (Bm a1) fun r177=>Aa (A4 r176 r177) fun r178=>Aa (De r178) fun r179=>Aa (C5 (Ah 2)) fun r180=>Aa (Bj r179 r180) fun r181=>r181)))))))
def H3 (a0 : Iv) (a1 : Iv) : Iv:=
  Aa (Dt a0) fun r1=>(bif r1 then Aa (Cr) fun r2=>r2 else Aa (Dt a1) fun r3=>(bif r3 then Aa (Cr) fun r4=>r4 else Aa (Dx a0 (Ah 0)) fun r5=>(bif r5 then Aa (Dx a1 (Ah 0)) fun r6=>(bif r6 then Aa (Cr) fun r7=>r7 else (bif (decide (a1.lo.val < 0)) then (bif (decide (a0.lo.val < 0)) then (bif (decide (a0.hi.val ≥ 0)) then Aa (Cr) fun r8=>r8 else Aa (Bh a0.lo a1.lo) fun r9=>Aa (Bh a0.lo a1.hi) fun r10=>Aa (Cm r9 r10) fun r11=>Aa (Bh a0.hi a1.lo) fun r12=>Aa (Bh a0.hi a1.hi) fun r13=>Aa (Cm r12 r13) fun r14=>Aa (Cm r11 r14) fun r15=>r15) else Aa (Bh a0.lo a1.lo) fun r16=>Aa (Bh a0.lo a1.hi) fun r17=>Aa (Cm r16 r17) fun r18=>Aa (Bh a0.hi a1.lo) fun r19=>Aa (Bh a0.hi a1.hi) fun r20=>Aa (Cm r19 r20) fun r21=>Aa (Cm r18 r21) fun r22=>r22) else Aa (Bh a0.lo a1.lo) fun r23=>Aa (Bh a0.lo a1.hi) fun r24=>Aa (Cm r23 r24) fun r25=>Aa (Bh a0.hi a1.lo) fun r26=>Aa (Bh a0.hi a1.hi) fun r27=>Aa (Cm r26 r27) fun r28=>Aa (Cm r25 r28) fun r29=>r29)) else (bif (decide (a1.lo.val < 0)) then (bif (decide (a0.lo.val < 0)) then (bif (decide (a0.hi.val ≥ 0)) then Aa (Cr) fun r30=>r30 else Aa (Bh a0.lo a1.lo) fun r31=>Aa (Bh a0.lo a1.hi) fun r32=>Aa (Cm r31 r32) fun r33=>Aa (Bh a0.hi a1.lo) fun r34=>Aa (Bh a0.hi a1.hi) fun r35=>Aa (Cm r34 r35) fun r36=>Aa (Cm r33 r36) fun r37=>r37) else Aa (Bh a0.lo a1.lo) fun r38=>Aa (Bh a0.lo a1.hi) fun r39=>Aa (Cm r38 r39) fun r40=>Aa (Bh a0.hi a1.lo) fun r41=>Aa (Bh a0.hi a1.hi) fun r42=>Aa (Cm r41 r42) fun r43=>Aa (Cm r40 r43) fun r44=>r44) else Aa (Bh a0.lo a1.lo) fun r45=>Aa (Bh a0.lo a1.hi) fun r46=>Aa (Cm r45 r46) fun r47=>Aa (Bh a0.hi a1.lo) fun r48=>Aa (Bh a0.hi a1.hi) fun r49=>Aa (Cm r48 r49) fun r50=>Aa (Cm r47 r50) fun r51=>r51))))
def Tl (a0 : Vc) (a1 : Vc) : Iv:=
  Aa (Tm a0 a1) fun r1=>Aa (W1 r1) fun r2=>Aa (l8 a0 a1) fun r3=>Aa (H3 r2 r3) fun r4=>r4
def Jp (a0 : Iv) : Iv × Aq:=
  Aa (Dt a0) fun r1=>(bif r1 then ((⟨(Ah 0),(Ah 0)⟩ : Iv),(Ah 9)) else (a0,(Ah 0)))
def F6 (a0 : Pt) (a1 : Pt) : Iv × Aq:=
  Aa (B4 a0) fun r1=>(bif (!r1) then ((⟨(Ah 0),(Ah 0)⟩ : Iv),(Ah 1)) else Aa (B4 a1) fun r2=>(bif (!r2) then ((⟨(Ah 0),(Ah 0)⟩ : Iv),(Ah 1)) else Aa (Lm a0) fun r3=>Aa (Lm a1) fun r4=>Aa (Tl r3 r4) fun r5=>Aa (Jp r5) fun r6=>(r6.1,r6.2)))
def U3 (a0 : Pj) : Bool:=
  Aa (Hc a0) fun r1=>(bif r1 then Aa (Bz a0.kind (Ah 1) (Ah 4)) fun r2=>r2 else false)
def Lv (a0 : Pt) : Bool:=
  (bif (a0.lat.val == 900000000) then true else (a0.lat.val == (-900000000)))
def Rb (a0 : Pt) : Iv:=
  Aa (B4 a0) fun r1=>(bif (!r1) then Aa (Cr) fun r2=>r2 else Aa (B8 a0.lat) fun r3=>r3)
def C8 (a0 : Iv) (a1 : Iv) : Iv × Iv × Aq:=
  Aa (Am a0) fun r1=>(bif (!r1) then ((⟨(Ah 0),(Ah 0)⟩ : Iv),(⟨(Ah 0),(Ah 0)⟩ : Iv),(Ah 9)) else Aa (Am a1) fun r2=>(bif (!r2) then ((⟨(Ah 0),(Ah 0)⟩ : Iv),(⟨(Ah 0),(Ah 0)⟩ : Iv),(Ah 9)) else (a0,a1,(Ah 0))))
def Hy (a0 : Pj) (a1 : Pt) : Iv × Iv × Aq:=
  Aa (U3 a0) fun r1=>(bif (!r1) then ((⟨(Ah 0),(Ah 0)⟩ : Iv),(⟨(Ah 0),(Ah 0)⟩ : Iv),(Ah 1)) else Aa (B4 a1) fun r2=>(bif (!r2) then ((⟨(Ah 0),(Ah 0)⟩ : Iv),(⟨(Ah 0),(Ah 0)⟩ : Iv),(Ah 1)) else Aa (Lv a1) fun r3=>(bif r3 then ((⟨(Ah 0),(Ah 0)⟩ : Iv),(⟨(Ah 0),(Ah 0)⟩ : Iv),(Ah 8)) else Aa (B8 a0.lat1) fun r4=>Aa (Hp r4) fun r5=>Aa (Rb a1) fun r6=>Aa (Hp r6) fun r7=>(bif (a0.kind.val == 1) then Aa (Ao (Ah 1)) fun r8=>Aa (A4 r5 r7) fun r9=>Aa (C8 r8 r9) fun r10=>(r10.1,r10.2.1,r10.2.2) else (bif (a0.kind.val == 2) then Aa (Ao (Ah 1)) fun r11=>Aa (A4 r11 r7) fun r12=>Aa (Ao (Ah 1)) fun r13=>Aa (A4 r13 r7) fun r14=>Aa (C8 r12 r14) fun r15=>(r15.1,r15.2.1,r15.2.2) else (bif (a0.kind.val == 3) then Aa (A4 r7 r5) fun r16=>Aa (A4 r5 r7) fun r17=>Aa (C8 r16 r17) fun r18=>(r18.1,r18.2.1,r18.2.2) else Aa (Ao (Ah 1)) fun r19=>Aa (C9 (Ah 4) (Ah 5)) fun r20=>Aa (Rb a1) fun r21=>Aa (Ay r20 r21) fun r22=>Aa (Hp r22) fun r23=>Aa (A4 r19 r23) fun r24=>Aa (Ao (Ah 1)) fun r25=>Aa (A4 r25 r7) fun r26=>Aa (C8 r24 r26) fun r27=>(r27.1,r27.2.1,r27.2.2)))))))
def Vq (a0 : Aq) : Bool:=
  Aa (Bz a0 (Ah 5) (Ah 9)) fun r1=>r1
def A7 (a0 : Pj) : Bool:=
  Aa (Hc a0) fun r1=>r1
def Gg (b0 : Pj) : Bool:=
  Aa (Vq b0.kind) fun r1=>(bif r1 then Aa (A7 b0) fun r2=>r2 else false)
def Rn (a0 : Pt) (a1 : Pt) : Bool × Aq:=
  Aa (B4 a0) fun r1=>(bif (!r1) then (false,(Ah 1)) else Aa (B4 a1) fun r2=>(bif (!r2) then (false,(Ah 1)) else (bif ((a0.lat.val == a1.lat.val) && (a0.lon.val == a1.lon.val)) then (true,(Ah 0)) else (bif (a0.lat.val == a1.lat.val) then Aa (Lv a0) fun r3=>(r3,(Ah 0)) else (false,(Ah 0))))))
def Ex (b0 : Pj) (a0 : Pt) : Vc:=
  Aa (B8 b0.lat0) fun r1=>Aa (B8 a0.lat) fun r2=>Aa (D4 (An (a0.lon.val - b0.lon0.val))) fun r3=>Aa (B8 r3) fun r4=>Aa (Hp r2) fun r5=>Aa (Lh r4) fun r6=>Aa (Ay r5 r6) fun r7=>Aa (Hp r1) fun r8=>Aa (Lh r2) fun r9=>Aa (Ay r8 r9) fun r10=>Aa (Lh r1) fun r11=>Aa (Hp r2) fun r12=>Aa (Ay r11 r12) fun r13=>Aa (Hp r4) fun r14=>Aa (Ay r13 r14) fun r15=>Aa (Cw r10 r15) fun r16=>Aa (Lh r1) fun r17=>Aa (Lh r2) fun r18=>Aa (Ay r17 r18) fun r19=>Aa (Hp r1) fun r20=>Aa (Hp r2) fun r21=>Aa (Ay r20 r21) fun r22=>Aa (Hp r4) fun r23=>Aa (Ay r22 r23) fun r24=>Aa (Bj r19 r24) fun r25=>(⟨r7,r16,r25⟩ : Vc)
def Sf (a0 : Iv) (a1 : Iv) : Aq:=
  Aa (Am a0) fun r1=>(bif (!r1) then (Ah 2) else Aa (Am a1) fun r2=>(bif (!r2) then (Ah 2) else (bif (decide (a0.hi.val < a1.lo.val)) then (Ah 1) else (bif (decide (a0.lo.val ≥ a1.hi.val)) then (Ah 0) else (Ah 2)))))
def M3 (a0 : Vc) : Iv:=
  Aa (W1 (⟨a0.x,a0.y,(⟨(Ah 0),(Ah 0)⟩ : Iv)⟩ : Vc)) fun r1=>r1
def Rk (a0 : Aq) (a1 : Vc) : Iv × Aq:=
  Aa (Ao (Ah 1)) fun r1=>Aa (Ao (Ah 0)) fun r2=>(bif (a0.val == 5) then Aa (Sf r2 a1.z) fun r3=>(bif (r3.val == 0) then ((⟨(Ah 0),(Ah 0)⟩ : Iv),(Ah 8)) else Aa (A4 r1 a1.z) fun r4=>(r4,(Ah 0))) else (bif (a0.val == 6) then Aa (Ao (Ah 2)) fun r5=>Aa (Bj r1 a1.z) fun r6=>Aa (A4 r5 r6) fun r7=>(r7,(Ah 0)) else (bif (a0.val == 7) then Aa (Sf a1.z r2) fun r8=>(bif (r8.val == 1) then ((⟨(Ah 0),(Ah 0)⟩ : Iv),(Ah 8)) else (bif (decide (a1.z.lo.val < 0)) then Aa (Cr) fun r9=>(r9,(Ah 0)) else (r1,(Ah 0)))) else (bif (a0.val == 8) then Aa (M3 a1) fun r10=>(bif (decide (r10.lo.val > 0)) then Aa (H3 r10 a1.z) fun r11=>Aa (A4 r11 r10) fun r12=>(r12,(Ah 0)) else Aa (A4 r1 a1.z) fun r13=>Aa (Cm r1 r13) fun r14=>(r14,(Ah 0))) else Aa (Ao (Ah 2)) fun r15=>Aa (Bj r1 a1.z) fun r16=>Aa (A4 r15 r16) fun r17=>Aa (Jw r17) fun r18=>(r18,(Ah 0))))))
def Da (a0 : Pj) (a1 : Pt) : Pn × Aq:=
  Aa (Gg a0) fun r1=>(bif (!r1) then ((⟨(⟨(Ah 0),(Ah 0)⟩ : Iv),(⟨(Ah 0),(Ah 0)⟩ : Iv)⟩ : Pn),(Ah 1)) else Aa (B4 a1) fun r2=>(bif (!r2) then ((⟨(⟨(Ah 0),(Ah 0)⟩ : Iv),(⟨(Ah 0),(Ah 0)⟩ : Iv)⟩ : Pn),(Ah 1)) else Aa (D4 (An (a0.lon0.val + 1800000000))) fun r3=>Aa (Rn a1 (⟨(An (0 - a0.lat0.val)),r3⟩ : Pt)) fun r4=>(bif r4.1 then ((⟨(⟨(Ah 0),(Ah 0)⟩ : Iv),(⟨(Ah 0),(Ah 0)⟩ : Iv)⟩ : Pn),(Ah 8)) else Aa (Ex a0 a1) fun r5=>Aa (Rk a0.kind r5) fun r6=>(bif (r6.2.val != 0) then ((⟨(⟨(Ah 0),(Ah 0)⟩ : Iv),(⟨(Ah 0),(Ah 0)⟩ : Iv)⟩ : Pn),r6.2) else Aa (Ay r6.1 r5.x) fun r7=>Aa (Ay r6.1 r5.y) fun r8=>Aa (Dt r7) fun r9=>(bif r9 then ((⟨(⟨(Ah 0),(Ah 0)⟩ : Iv),(⟨(Ah 0),(Ah 0)⟩ : Iv)⟩ : Pn),(Ah 9)) else Aa (Dt r8) fun r10=>(bif r10 then ((⟨(⟨(Ah 0),(Ah 0)⟩ : Iv),(⟨(Ah 0),(Ah 0)⟩ : Iv)⟩ : Pn),(Ah 9)) else ((⟨r7,r8⟩ : Pn),(Ah 0))))))))
def W3 (a0 : Iv) : Iv:=
  Aa (Am a0) fun r1=>(bif (!r1) then Aa (Aw) fun r2=>r2 else Aa (C0 (Ck a0.lo 1) (Ck (An (a0.hi.val + 1)) 1)) fun r3=>r3)
def Jn (a0 : Pj) (a1 : Pt) : Iv × Iv × Aq:=
  Aa (Da a0 a1) fun r1=>(bif (r1.2.val != 0) then ((⟨(Ah 0),(Ah 0)⟩ : Iv),(⟨(Ah 0),(Ah 0)⟩ : Iv),r1.2) else Aa (F6 (⟨a0.lat0,a0.lon0⟩ : Pt) a1) fun r2=>(bif (r2.2.val != 0) then ((⟨(Ah 0),(Ah 0)⟩ : Iv),(⟨(Ah 0),(Ah 0)⟩ : Iv),r2.2) else Aa (Ao (Ah 1)) fun r3=>Aa (Hp r2.1) fun r4=>Aa (W3 r2.1) fun r5=>Aa (Hp r5) fun r6=>(bif (a0.kind.val == 5) then Aa (I6 r4) fun r7=>Aa (A4 r3 r7) fun r8=>Aa (A4 r3 r4) fun r9=>Aa (C8 r8 r9) fun r10=>(r10.1,r10.2.1,r10.2.2) else (bif (a0.kind.val == 6) then Aa (I6 r6) fun r11=>Aa (A4 r3 r11) fun r12=>Aa (I6 r6) fun r13=>Aa (A4 r3 r13) fun r14=>Aa (C8 r12 r14) fun r15=>(r15.1,r15.2.1,r15.2.2) else (bif (a0.kind.val == 7) then Aa (C8 r4 r3) fun r16=>(r16.1,r16.2.1,r16.2.2) else (bif (a0.kind.val == 8) then (bif (decide (r2.1.lo.val > 0)) then Aa (Lh r2.1) fun r17=>Aa (A4 r2.1 r17) fun r18=>Aa (C8 r3 r18) fun r19=>(r19.1,r19.2.1,r19.2.2) else Aa (A4 r3 r4) fun r20=>Aa (Cm r3 r20) fun r21=>Aa (C8 r3 r21) fun r22=>(r22.1,r22.2.1,r22.2.2)) else Aa (A4 r3 r6) fun r23=>Aa (C8 r6 r23) fun r24=>(r24.1,r24.2.1,r24.2.2)))))))
def M2 (a0 : Pj) : Bool:=
  Aa (Bz a0.kind (Ah 10) (Ah 12)) fun r1=>(bif r1 then Aa (Hc a0) fun r2=>r2 else false)
def Ka (a0 : Aq) : Iv:=
  Aa (C0 a0 a0) fun r1=>r1
def E9 : Iv:=
  Aa (Ka (Ah 4294967296)) fun r1=>r1
def Fq (a0 : Iv) (a1 : Aq) : Iv:=
  Aa (Am a0) fun r1=>(bif (!r1) then Aa (Aw) fun r2=>r2 else Aa (C0 (An (a0.lo.val - a1.val)) (An (a0.hi.val + a1.val))) fun r3=>r3)
def Ho (self : Aq → Iv) (a0 : Aq) : Iv:=
  Aa (Bz a0 (Ah (-64)) (Ah 64)) fun r1=>(bif (!r1) then Aa (Aw) fun r3=>r3 else (bif (decide (a0.val < 0)) then Aa (self (An (0 - a0.val))) fun r5=>Aa (Kl r5) fun r6=>r6 else Aa (Ei a0 (Ah 1598288580650331957) (Ah 29)) fun r7=>Aa (Ei (An (0 - a0.val)) (Ah 1598288580650331958) (Ah 29)) fun r8=>Aa (C0 r7.1 (An (0 - r8.1.val))) fun r9=>r9))
def Hn : Nat → Aq → Iv
  | 0,_=>(⟨(Ah 0),(Ah 0)⟩ : Iv)
  | fu + 1,a0=>Ho (Hn fu) a0
def Hk (a0 : Aq) : Iv:=Hn 2 a0
def Hj : Nat → Aq → Aq → Iv → Iv
  | 0,_,_,_=>(⟨(Ah 0),(Ah 0)⟩ : Iv)
  | fu + 1,a0,x_e,y_1=>(bif (decide (y_1.lo.val < 3221225472)) then Hj fu a0 (An (x_e.val - 1)) (⟨(Ci .i64 a0.val (Ak (An (0 - (An (x_e.val - 1)).val)).val).val),(Ci .i64 a0.val (Ak (An (0 - (An (x_e.val - 1)).val)).val).val)⟩ : Iv) else Aa (E9) fun r6=>Aa (Cw y_1 r6) fun r7=>Aa (E9) fun r8=>Aa (Bj y_1 r8) fun r9=>Aa (A4 r7 r9) fun r10=>Aa (I6 r10) fun r11=>Aa (C9 (Ah 1) (Ah 11)) fun r12=>Aa (C9 (Ah 1) (Ah 9)) fun r13=>Aa (Ay r11 r12) fun r14=>Aa (Bj r13 r14) fun r15=>Aa (C9 (Ah 1) (Ah 7)) fun r16=>Aa (Ay r11 r15) fun r17=>Aa (Bj r16 r17) fun r18=>Aa (C9 (Ah 1) (Ah 5)) fun r19=>Aa (Ay r11 r18) fun r20=>Aa (Bj r19 r20) fun r21=>Aa (C9 (Ah 1) (Ah 3)) fun r22=>Aa (Ay r11 r21) fun r23=>Aa (Bj r22 r23) fun r24=>Aa (C9 (Ah 1) (Ah 1)) fun r25=>Aa (Ay r11 r24) fun r26=>Aa (Bj r25 r26) fun r27=>Aa (Ao (Ah 2)) fun r28=>Aa (Ay r28 r10) fun r29=>Aa (Ay r29 r27) fun r30=>Aa (Fq r30 (Ah 1)) fun r31=>Aa (Hk x_e) fun r32=>Aa (Bj r32 r31) fun r33=>r33)
def Iw : Nat → Aq → Aq → Iv → Iv
  | 0,_,_,_=>(⟨(Ah 0),(Ah 0)⟩ : Iv)
  | fu + 1,a0,x_e,y_1=>(bif (decide (y_1.lo.val ≥ 6442450944)) then Iw fu a0 (An (x_e.val + 1)) (⟨(Ck a0 (Ak (An (x_e.val + 1)).val).val),(An (0 - (Ck (An (0 - a0.val)) (Ak (An (x_e.val + 1)).val).val).val))⟩ : Iv) else Hj ((64 + x_e.val).toNat + 1) a0 x_e y_1)
def Ra (a0 : Aq) : Iv:=
  Aa (Bz a0 (Ah 1) (Ah 1152921504606846976)) fun r1=>(bif (!r1) then Aa (Aw) fun r3=>r3 else Iw ((64 - (Ah 0).val).toNat + 1) a0 (Ah 0) (⟨a0,a0⟩ : Iv))
def Lw (a0 : Iv) (a1 : Iv) : Iv:=
  Aa (Am a0) fun r1=>(bif (!r1) then Aa (Aw) fun r2=>r2 else Aa (Am a1) fun r3=>(bif (!r3) then Aa (Aw) fun r4=>r4 else Aa (C0 a0.lo a1.hi) fun r5=>r5))
def W2 (a0 : Iv) : Iv:=
  Aa (Am a0) fun r1=>(bif (!r1) then Aa (Aw) fun r2=>r2 else Aa (Ra a0.lo) fun r3=>Aa (Ra a0.hi) fun r4=>Aa (Lw r3 r4) fun r5=>r5)
def Uk (a0 : Aq) : Iv:=
  Aa (Q9 a0 (Ah 0)) fun r1=>r1
def Ul (a0 : Aq) : Iv:=
  Aa (Q9 a0 (Ah 1)) fun r1=>r1
def O9 : Nat → Iv → Aq → Iv → Iv
  | 0,_,_,_=>(⟨(Ah 0),(Ah 0)⟩ : Iv)
  | fu + 1,a0,x_k,y_1=>Aa (Cl a0.hi) fun r5=>(bif (decide (x_k.val ≤ (An (r5.val + 1)).val)) then (bif ((Eo .i64 x_k.val 1).val == 1) then Aa (C5 x_k) fun r8=>Aa (Bx r8 a0) fun r9=>(bif r9 then Aa (Cr) fun r11=>r11 else O9 fu a0 (An (x_k.val + 1)) y_1) else O9 fu a0 (An (x_k.val + 1)) y_1) else Aa (Uk a0.lo) fun r12=>Aa (Ul a0.lo) fun r13=>Aa (A4 r12 r13) fun r14=>Aa (Uk a0.hi) fun r15=>Aa (Ul a0.hi) fun r16=>Aa (A4 r15 r16) fun r17=>Aa (Cm r14 r17) fun r18=>r18)
def l7 (a0 : Iv) : Iv:=
  Aa (Lx a0) fun r1=>(bif (!r1) then Aa (Cr) fun r3=>r3 else Aa (Cl a0.lo) fun r4=>O9 ((2000 - (An (r4.val - 1)).val).toNat + 1) a0 (An (r4.val - 1)) (⟨(Ah 0),(Ah 0)⟩ : Iv))
def Kb (self : Aq → Iv) (a0 : Aq) : Iv:=
  (bif (decide (a0.val < 0)) then Aa (self (An (0 - a0.val))) fun r2=>Aa (Kl r2) fun r3=>r3 else (bif (decide (a0.val ≤ 35184372088832)) then Aa (Ka a0) fun r5=>Aa (Ka a0) fun r6=>Aa (I6 r6) fun r7=>Aa (E9) fun r8=>Aa (Bj r7 r8) fun r9=>Aa (Jw r9) fun r10=>Aa (Bj r5 r10) fun r11=>Aa (W2 r11) fun r12=>r12 else Aa (Hk (Ah 1)) fun r13=>Aa (Ra a0) fun r14=>Aa (Bj r13 r14) fun r15=>Aa (Bj r15 (⟨(Ah 0),(Ah 16)⟩ : Iv)) fun r16=>r16))
def Hz : Nat → Aq → Iv
  | 0,_=>(⟨(Ah 0),(Ah 0)⟩ : Iv)
  | fu + 1,a0=>Kb (Hz fu) a0
def Oq (a0 : Aq) : Iv:=Hz 2 a0
def Yj (a0 : Iv) : Iv:=
  Aa (Am a0) fun r1=>(bif (!r1) then Aa (Aw) fun r3=>r3 else Aa (Oq a0.lo) fun r4=>Aa (Oq a0.hi) fun r5=>Aa (Lw r4 r5) fun r6=>r6)
def N6 (a0 : Iv) : Iv:=
  Aa (l7 a0) fun r1=>Aa (Yj r1) fun r2=>r2
def Gf (a0 : Pj) : Iv:=
  Aa (B8 a0.lat1) fun r1=>Aa (B8 a0.lat2) fun r2=>(bif (a0.kind.val == 10) then Aa (Lh r1) fun r3=>Aa (Lh r2) fun r4=>Aa (Bj r3 r4) fun r5=>Aa (W3 r5) fun r6=>r6 else (bif (a0.lat1.val == a0.lat2.val) then Aa (Lh r1) fun r7=>r7 else (bif (a0.kind.val == 11) then Aa (Hp r1) fun r8=>Aa (W2 r8) fun r9=>Aa (Hp r2) fun r10=>Aa (W2 r10) fun r11=>Aa (Cw r9 r11) fun r12=>Aa (N6 r2) fun r13=>Aa (N6 r1) fun r14=>Aa (Cw r13 r14) fun r15=>Aa (A4 r12 r15) fun r16=>r16 else Aa (Hp r1) fun r17=>Aa (Hp r2) fun r18=>Aa (Cw r17 r18) fun r19=>Aa (Cw r2 r1) fun r20=>Aa (A4 r19 r20) fun r21=>r21)))
def Mi (a0 : Iv) (a1 : Aq) : Iv:=
  (bif (decide (a1.val ≥ 0)) then Aa (C0 (Ci .i64 a0.lo.val (Ak a1.val).val) (Ci .i64 a0.hi.val (Ak a1.val).val)) fun r2=>r2 else Aa (C0 (Ck a0.lo (Ak (An (0 - a1.val)).val).val) (An (0 - (Ck (An (0 - a0.hi.val)) (Ak (An (0 - a1.val)).val).val).val))) fun r3=>r3)
def M5 (a0 : Aq) : Iv:=
  Aa (B7 a0) fun r1=>(bif (!r1) then Aa (Aw) fun r3=>r3 else (bif (decide (a0.val > 85899345920)) then Aa (Aw) fun r5=>r5 else (bif (decide (a0.val < (-98784247808))) then (⟨(Ah 0),(Ah 1)⟩ : Iv) else (bif (decide ((Jl (An ((An (2 * a0.val)).val + 2977044472)) 5954088944).val < 0)) then Aa (Ka a0) fun r8=>Aa (Hk (An ((An (Int.tdiv (An ((An (2 * a0.val)).val + 2977044472)).val 5954088944)).val - 1))) fun r9=>Aa (Cw r8 r9) fun r10=>Aa (E9) fun r11=>Aa (E9) fun r12=>Aa (Ay r10 r11) fun r13=>Aa (Ao (Ah 9)) fun r14=>Aa (A4 r13 r14) fun r15=>Aa (Bj r12 r15) fun r16=>Aa (E9) fun r17=>Aa (Ay r10 r16) fun r18=>Aa (Ao (Ah 8)) fun r19=>Aa (A4 r18 r19) fun r20=>Aa (Bj r17 r20) fun r21=>Aa (E9) fun r22=>Aa (Ay r10 r21) fun r23=>Aa (Ao (Ah 7)) fun r24=>Aa (A4 r23 r24) fun r25=>Aa (Bj r22 r25) fun r26=>Aa (E9) fun r27=>Aa (Ay r10 r26) fun r28=>Aa (Ao (Ah 6)) fun r29=>Aa (A4 r28 r29) fun r30=>Aa (Bj r27 r30) fun r31=>Aa (E9) fun r32=>Aa (Ay r10 r31) fun r33=>Aa (Ao (Ah 5)) fun r34=>Aa (A4 r33 r34) fun r35=>Aa (Bj r32 r35) fun r36=>Aa (E9) fun r37=>Aa (Ay r10 r36) fun r38=>Aa (Ao (Ah 4)) fun r39=>Aa (A4 r38 r39) fun r40=>Aa (Bj r37 r40) fun r41=>Aa (E9) fun r42=>Aa (Ay r10 r41) fun r43=>Aa (Ao (Ah 3)) fun r44=>Aa (A4 r43 r44) fun r45=>Aa (Bj r42 r45) fun r46=>Aa (E9) fun r47=>Aa (Ay r10 r46) fun r48=>Aa (Ao (Ah 2)) fun r49=>Aa (A4 r48 r49) fun r50=>Aa (Bj r47 r50) fun r51=>Aa (E9) fun r52=>Aa (Ay r10 r51) fun r53=>Aa (Ao (Ah 1)) fun r54=>Aa (A4 r53 r54) fun r55=>Aa (Bj r52 r55) fun r56=>Aa (Fq r56 (Ah 1)) fun r57=>Aa (Mi r57 (An ((An (Int.tdiv (An ((An (2 * a0.val)).val + 2977044472)).val 5954088944)).val - 1))) fun r58=>r58 else Aa (Ka a0) fun r59=>Aa (Hk (An (Int.tdiv (An ((An (2 * a0.val)).val + 2977044472)).val 5954088944))) fun r60=>Aa (Cw r59 r60) fun r61=>Aa (E9) fun r62=>Aa (E9) fun r63=>Aa (Ay r61 r62) fun r64=>Aa (Ao (Ah 9)) fun r65=>Aa (A4 r64 r65) fun r66=>Aa (Bj r63 r66) fun r67=>Aa (E9) fun r68=>Aa (Ay r61 r67) fun r69=>Aa (Ao (Ah 8)) fun r70=>Aa (A4 r69 r70) fun r71=>Aa (Bj r68 r71) fun r72=>Aa (E9) fun r73=>Aa (Ay r61 r72) fun r74=>Aa (Ao (Ah 7)) fun r75=>Aa (A4 r74 r75) fun r76=>Aa (Bj r73 r76) fun r77=>Aa (E9) fun r78=>Aa (Ay r61 r77) fun r79=>Aa (Ao (Ah 6)) fun r80=>Aa (A4 r79 r80) fun r81=>Aa (Bj r78 r81) fun r82=>Aa (E9) fun r83=>Aa (Ay r61 r82) fun r84=>Aa (Ao (Ah 5)) fun r85=>Aa (A4 r84 r85) fun r86=>Aa (Bj r83 r86) fun r87=>Aa (E9) fun r88=>Aa (Ay r61 r87) fun r89=>Aa (Ao (Ah 4)) fun r90=>Aa (A4 r89 r90) fun r91=>Aa (Bj r88 r91) fun r92=>Aa (E9) fun r93=>Aa (Ay r61 r92) fun r94=>Aa (Ao (Ah 3)) fun r95=>Aa (A4 r94 r95) fun r96=>Aa (Bj r93 r96) fun r97=>Aa (E9) fun r98=>Aa (Ay r61 r97) fun r99=>Aa (Ao (Ah 2)) fun r100=>Aa (A4 r99 r100) fun r101=>Aa (Bj r98 r101) fun r102=>Aa (E9) fun r103=>Aa (Ay r61 r102) fun r104=>Aa (Ao (Ah 1)) fun r105=>Aa (A4 r104 r105) fun r106=>Aa (Bj r103 r106) fun r107=>Aa (Fq r107 (Ah 1)) fun r108=>Aa (Mi r108 (An (Int.tdiv (An ((An (2 * a0.val)).val + 2977044472)).val 5954088944))) fun r109=>r109))))
def eT (a0 : Iv) : Iv:=
  Aa (Am a0) fun r1=>(bif (!r1) then Aa (Aw) fun r2=>r2 else Aa (M5 a0.lo) fun r3=>Aa (M5 a0.hi) fun r4=>Aa (Lw r3 r4) fun r5=>r5)
def Gz (a0 : Pj) (a1 : Iv) : Iv:=
  Aa (B8 a0.lat1) fun r1=>(bif (a0.kind.val == 10) then Aa (Hp r1) fun r2=>Aa (I6 r2) fun r3=>Aa (Ao (Ah 2)) fun r4=>Aa (Ay r4 a1) fun r5=>Aa (Lh r1) fun r6=>Aa (Ay r5 r6) fun r7=>Aa (Bj r3 r7) fun r8=>r8 else (bif (a0.kind.val == 11) then Aa (Hp r1) fun r9=>Aa (N6 r1) fun r10=>Aa (Ay a1 r10) fun r11=>Aa (eT r11) fun r12=>Aa (Ay r9 r12) fun r13=>Aa (A4 r13 a1) fun r14=>r14 else Aa (Hp r1) fun r15=>Aa (A4 r15 a1) fun r16=>Aa (Bj r16 r1) fun r17=>r17))
def Mh (a0 : Aq) (a1 : Iv) (a2 : Iv) (a3 : Iv) : Iv:=
  (bif (a0.val == 10) then Aa (Ao (Ah 2)) fun r1=>Aa (Ay r1 a1) fun r2=>Aa (Lh a3) fun r3=>Aa (Ay r2 r3) fun r4=>Aa (Cw a2 r4) fun r5=>Aa (Jw r5) fun r6=>Aa (A4 r6 a1) fun r7=>r7 else (bif (a0.val == 11) then Aa (N6 a3) fun r8=>Aa (Ay a1 r8) fun r9=>Aa (Kl r9) fun r10=>Aa (eT r10) fun r11=>Aa (Ay a2 r11) fun r12=>r12 else Aa (Cw a2 a3) fun r13=>r13))
def Tk (a0 : Pj) (a1 : Iv) : Iv:=
  Aa (Gf a0) fun r1=>Aa (Gz a0 r1) fun r2=>Aa (Mh a0.kind r1 r2 a1) fun r3=>Aa (Ay r1 r3) fun r4=>Aa (Hp a1) fun r5=>Aa (A4 r4 r5) fun r6=>r6
def Km (a0 : Pj) (a1 : Pt) : Iv × Iv × Aq:=
  Aa (M2 a0) fun r1=>(bif (!r1) then ((⟨(Ah 0),(Ah 0)⟩ : Iv),(⟨(Ah 0),(Ah 0)⟩ : Iv),(Ah 1)) else Aa (B4 a1) fun r2=>(bif (!r2) then ((⟨(Ah 0),(Ah 0)⟩ : Iv),(⟨(Ah 0),(Ah 0)⟩ : Iv),(Ah 1)) else Aa (Lv a1) fun r3=>(bif r3 then ((⟨(Ah 0),(Ah 0)⟩ : Iv),(⟨(Ah 0),(Ah 0)⟩ : Iv),(Ah 8)) else Aa (Rb a1) fun r4=>Aa (Tk a0 r4) fun r5=>(bif (a0.kind.val == 10) then Aa (Ao (Ah 1)) fun r6=>Aa (A4 r6 r5) fun r7=>Aa (C8 r7 r5) fun r8=>(r8.1,r8.2.1,r8.2.2) else (bif (a0.kind.val == 11) then Aa (C8 r5 r5) fun r9=>(r9.1,r9.2.1,r9.2.2) else Aa (Ao (Ah 1)) fun r10=>Aa (C8 r10 r5) fun r11=>(r11.1,r11.2.1,r11.2.2))))))
def Hi (b0 : Pj) : Bool:=
  (bif (b0.kind.val == 16) then Aa (A7 b0) fun r1=>r1 else false)
def Jo (b0 : Pj) (a0 : Pt) : Bool:=
  Aa (D4 (An (a0.lon.val - b0.lon0.val))) fun r1=>(bif (a0.lat.val == 0) then (bif (r1.val == 900000000) then true else (r1.val == (-900000000))) else false)
def P5 (b0 : Pj) (a0 : Pt) : Iv:=
  Aa (D4 (An (a0.lon.val - b0.lon0.val))) fun r1=>Aa (B8 r1) fun r2=>r2
def Tj (b0 : Pj) (a0 : Pt) : Iv:=
  Aa (B8 a0.lat) fun r1=>Aa (Hp r1) fun r2=>Aa (P5 b0 a0) fun r3=>Aa (Lh r3) fun r4=>Aa (Ay r2 r4) fun r5=>r5
def Bi (a0 : Pj) (a1 : Pt) : Iv × Aq:=
  Aa (Hi a0) fun r1=>(bif (!r1) then ((⟨(Ah 0),(Ah 0)⟩ : Iv),(Ah 1)) else Aa (B4 a1) fun r2=>(bif (!r2) then ((⟨(Ah 0),(Ah 0)⟩ : Iv),(Ah 1)) else Aa (Jo a0 a1) fun r3=>(bif r3 then ((⟨(Ah 0),(Ah 0)⟩ : Iv),(Ah 8)) else Aa (Ao (Ah 1)) fun r4=>Aa (Ao (Ah 1)) fun r5=>Aa (Tj a0 a1) fun r6=>Aa (I6 r6) fun r7=>Aa (Cw r5 r7) fun r8=>Aa (Jw r8) fun r9=>Aa (A4 r4 r9) fun r10=>Aa (Jp r10) fun r11=>(r11.1,r11.2))))
def Cb (a0 : Pj) (a1 : Pt) : Iv × Iv × Aq:=
  Aa (Hc a0) fun r1=>(bif (!r1) then ((⟨(Ah 0),(Ah 0)⟩ : Iv),(⟨(Ah 0),(Ah 0)⟩ : Iv),(Ah 1)) else Aa (B4 a1) fun r2=>(bif (!r2) then ((⟨(Ah 0),(Ah 0)⟩ : Iv),(⟨(Ah 0),(Ah 0)⟩ : Iv),(Ah 1)) else Aa (Dw a0.kind) fun r3=>(bif (r3.val == 1) then Aa (Hy a0 a1) fun r4=>(r4.1,r4.2.1,r4.2.2) else (bif (r3.val == 2) then Aa (Jn a0 a1) fun r5=>(r5.1,r5.2.1,r5.2.2) else (bif (r3.val == 3) then Aa (Km a0 a1) fun r6=>(r6.1,r6.2.1,r6.2.2) else (bif (r3.val == 5) then Aa (Bi a0 a1) fun r7=>(bif (r7.2.val != 0) then ((⟨(Ah 0),(Ah 0)⟩ : Iv),(⟨(Ah 0),(Ah 0)⟩ : Iv),r7.2) else Aa (C8 r7.1 r7.1) fun r8=>(r8.1,r8.2.1,r8.2.2)) else ((⟨(Ah 0),(Ah 0)⟩ : Iv),(⟨(Ah 0),(Ah 0)⟩ : Iv),(Ah 3))))))))
def Zi (a0 : Aq) (a1 : Aq) : Wd:=
  Aa (A3 a0 a1) fun r1=>r1
def Tn (a0 : Aq) : Iv:=
  Aa (Bz a0 (Ah (-4294967296)) (Ah 4294967296)) fun r1=>(bif (!r1) then Aa (Cr) fun r2=>r2 else Aa (I8 (An (4294967296 - a0.val)) (An (4294967296 + a0.val))) fun r3=>Aa (Zi r3.1 r3.1) fun r4=>Aa (Zi (An (4294967296 - a0.val)) (An (4294967296 + a0.val))) fun r5=>(bif (!((r4.hi.val == r5.hi.val) && (r4.lo.val == r5.lo.val))) then (⟨r3.1,(An (r3.1.val + 1))⟩ : Iv) else (⟨r3.1,r3.1⟩ : Iv)))
def Vt (a0 : Aq) : Iv:=
  Aa (Bz a0 (Ah (-4294967296)) (Ah 4294967296)) fun r1=>(bif (!r1) then Aa (Cr) fun r2=>r2 else Aa (Bm a0) fun r3=>Aa (Ao (Ah 1)) fun r4=>Aa (Tn a0) fun r5=>Aa (Bj r4 r5) fun r6=>Aa (A4 r3 r6) fun r7=>Aa (De r7) fun r8=>Aa (Qu r8) fun r9=>Aa (Kc) fun r10=>Aa (Io r9 r10) fun r11=>r11.1)
def Zj (a0 : Iv) : Iv:=
  Aa (Co) fun r1=>Aa (Io a0 r1) fun r2=>(bif (!r2.2) then Aa (Cr) fun r3=>r3 else Aa (Vt r2.1.lo) fun r4=>Aa (Vt r2.1.hi) fun r5=>Aa (Cm r4 r5) fun r6=>r6)
def Fp (a0 : Iv) : Iv × Aq:=
  Aa (Am a0) fun r1=>(bif (!r1) then ((⟨(Ah 0),(Ah 0)⟩ : Iv),(Ah 9)) else (a0,(Ah 0)))
def L6 (a0 : Pj) (a1 : Pt) : Iv × Aq:=
  Aa (Cb a0 a1) fun r1=>(bif (r1.2.2.val != 0) then ((⟨(Ah 0),(Ah 0)⟩ : Iv),r1.2.2) else Aa (Ao (Ah 2)) fun r2=>Aa (Cw r1.1 r1.2.1) fun r3=>Aa (Yk r3) fun r4=>Aa (Bj r1.1 r1.2.1) fun r5=>Aa (A4 r4 r5) fun r6=>Aa (Zj r6) fun r7=>Aa (Ay r2 r7) fun r8=>Aa (Fp r8) fun r9=>(r9.1,r9.2))
def Pa (a0 : Pj) (a1 : Pt) : Iv × Aq:=
  Aa (Hc a0) fun r1=>(bif r1 then Aa (B4 a1) fun r2=>(bif r2 then Aa (Dw a0.kind) fun r3=>(bif (r3.val == 4) then Aa (Ao (Ah 1)) fun r4=>(r4,(Ah 0)) else Aa (Cb a0 a1) fun r5=>(bif (r5.2.2.val != 0) then ((⟨(Ah 0),(Ah 0)⟩ : Iv),r5.2.2) else Aa (Ay r5.1 r5.2.1) fun r6=>Aa (Fp r6) fun r7=>(r7.1,r7.2))) else Aa (Cb a0 a1) fun r8=>(bif (r8.2.2.val != 0) then ((⟨(Ah 0),(Ah 0)⟩ : Iv),r8.2.2) else Aa (Ay r8.1 r8.2.1) fun r9=>Aa (Fp r9) fun r10=>(r10.1,r10.2))) else Aa (Cb a0 a1) fun r11=>(bif (r11.2.2.val != 0) then ((⟨(Ah 0),(Ah 0)⟩ : Iv),r11.2.2) else Aa (Ay r11.1 r11.2.1) fun r12=>Aa (Fp r12) fun r13=>(r13.1,r13.2)))
def W0 (a0 : Pj) (a1 : Pt) : Iv × Iv × Aq:=
  Aa (Cb a0 a1) fun r1=>(r1.1,r1.2.1,r1.2.2)
def Zh (a0 : Aq) : Iv:=
  Aa (M5 a0) fun r1=>Aa (M5 (An (0 - a0.val))) fun r2=>Aa (Cw r1 r2) fun r3=>Aa (W3 r3) fun r4=>r4
def q7 (a0 : Iv) : Iv:=
  Aa (Am a0) fun r1=>(bif (!r1) then Aa (Aw) fun r2=>r2 else Aa (Zh a0.lo) fun r3=>Aa (Zh a0.hi) fun r4=>Aa (Lw r3 r4) fun r5=>r5)
end Go.Proofs.YtfhnlkinjbakgaaGreat.Abs
