/- The functions, on numbers; part 2 (written by w.py). -/
import Derived.Test.YtfhnlkinjbakgaaGreatSsF1
set_option linter.unusedVariables false
set_option linter.unusedSimpArgs false
namespace Go.Proofs.YtfhnlkinjbakgaaGreat.Abs
open Go Go.RowKit
def Ty (a0 : Aq) : Bool:=
  (bif (decide ((-1152921504606846976) < a0.val)) then (decide (a0.val < 1152921504606846976)) else false)
def Li : Iv:=
  Aa (H7 (Ah 1)) fun r1=>Aa (H7 (Ah 1)) fun r2=>(⟨(An (0 - r1.hi.val)),r2.hi⟩ : Iv)
def Vz (a0 : Iv) : Iv:=
  Aa (A0 (Ah 1)) fun r1=>Aa (A0 (Ah 1)) fun r2=>Aa (Ow a0) fun r3=>Aa (Dc r2 r3) fun r4=>Aa (Sh r4) fun r5=>Aa (Dc r1 r5) fun r6=>Aa (C2 a0 r6) fun r7=>r7
def Rw (a0 : Iv) : Iv:=
  Aa (Q3 a0 (⟨(Ah (-1073741824)),(Ah 1073741824)⟩ : Iv)) fun r1=>(bif (!r1) then Aa (B5) fun r2=>r2 else Aa (Ow a0) fun r3=>Aa (Dh (Ah 1) (Ah 21)) fun r4=>Aa (Dh (Ah 1) (Ah 19)) fun r5=>Aa (B0 r3 r4) fun r6=>Aa (Em r5 r6) fun r7=>Aa (Dh (Ah 1) (Ah 17)) fun r8=>Aa (B0 r3 r7) fun r9=>Aa (Em r8 r9) fun r10=>Aa (Dh (Ah 1) (Ah 15)) fun r11=>Aa (B0 r3 r10) fun r12=>Aa (Em r11 r12) fun r13=>Aa (Dh (Ah 1) (Ah 13)) fun r14=>Aa (B0 r3 r13) fun r15=>Aa (Em r14 r15) fun r16=>Aa (Dh (Ah 1) (Ah 11)) fun r17=>Aa (B0 r3 r16) fun r18=>Aa (Em r17 r18) fun r19=>Aa (Dh (Ah 1) (Ah 9)) fun r20=>Aa (B0 r3 r19) fun r21=>Aa (Em r20 r21) fun r22=>Aa (Dh (Ah 1) (Ah 7)) fun r23=>Aa (B0 r3 r22) fun r24=>Aa (Em r23 r24) fun r25=>Aa (Dh (Ah 1) (Ah 5)) fun r26=>Aa (B0 r3 r25) fun r27=>Aa (Em r26 r27) fun r28=>Aa (Dh (Ah 1) (Ah 3)) fun r29=>Aa (B0 r3 r28) fun r30=>Aa (Em r29 r30) fun r31=>Aa (Dh (Ah 1) (Ah 1)) fun r32=>Aa (B0 r3 r31) fun r33=>Aa (Em r32 r33) fun r34=>Aa (B0 a0 r34) fun r35=>Aa (eW) fun r36=>Aa (Dc r35 r36) fun r37=>r37)
def Jd (a0 : Iv) : Iv:=
  Aa (Dc a0 a0) fun r1=>r1
def Qx (a0 : Iv) : Iv:=
  Aa (Vz a0) fun r1=>Aa (Vz r1) fun r2=>Aa (Rw r2) fun r3=>Aa (Jd r3) fun r4=>Aa (Jd r4) fun r5=>r5
def Xc (self : Aq → Iv) (a0 : Aq) : Iv:=
  Aa (Ty a0) fun r1=>(bif (!r1) then Aa (Li) fun r3=>r3 else (bif (decide (a0.val < 0)) then Aa (self (An (0 - a0.val))) fun r5=>Aa (Q2 r5) fun r6=>r6 else (bif (decide (a0.val > 4294967296)) then Aa (H7 (Ah 1)) fun r8=>Aa (A0 (Ah 1)) fun r9=>Aa (Ov a0) fun r10=>Aa (C2 r9 r10) fun r11=>Aa (Qx r11) fun r12=>Aa (Em r8 r12) fun r13=>r13 else Aa (Ov a0) fun r14=>Aa (Qx r14) fun r15=>r15)))
def Q5 : Nat → Aq → Iv
  | 0,_=>(⟨(Ah 0),(Ah 0)⟩ : Iv)
  | fu + 1,a0=>Xc (Q5 fu) a0
def Yr (a0 : Aq) : Iv:=Q5 2 a0
def P8 (a0 : Iv) : Iv:=
  Aa (Dk a0) fun r1=>(bif r1 then Aa (Li) fun r2=>r2 else Aa (Yr a0.lo) fun r3=>Aa (Yr a0.hi) fun r4=>Aa (Fd r3 r4) fun r5=>r5)
def Ch (a0 : Aq) (a1 : Aq) : Iv:=
  Aa (Ty a0) fun r1=>(bif (!r1) then Aa (B5) fun r2=>r2 else Aa (Ty a1) fun r3=>(bif (!r3) then Aa (B5) fun r4=>r4 else (bif (a0.val == 0) then (bif (a1.val == 0) then Aa (B5) fun r5=>r5 else Aa (C3 a0) fun r6=>Aa (C3 a1) fun r7=>(bif (decide (r6.val > r7.val)) then Aa (H7 (Ah 1)) fun r8=>(bif (decide (a0.val < 0)) then Aa (H7 (Ah (-1))) fun r9=>Aa (Ov a1) fun r10=>Aa (Ov a0) fun r11=>Aa (C2 r10 r11) fun r12=>Aa (P8 r12) fun r13=>Aa (Em r9 r13) fun r14=>r14 else Aa (Ov a1) fun r15=>Aa (Ov a0) fun r16=>Aa (C2 r15 r16) fun r17=>Aa (P8 r17) fun r18=>Aa (Em r8 r18) fun r19=>r19) else Aa (Ov a0) fun r20=>Aa (Ov a1) fun r21=>Aa (C2 r20 r21) fun r22=>Aa (P8 r22) fun r23=>(bif (decide (a1.val > 0)) then r23 else (bif (decide (a0.val < 0)) then Aa (H7 (Ah (-2))) fun r24=>Aa (Dc r23 r24) fun r25=>r25 else Aa (H7 (Ah 2)) fun r26=>Aa (Dc r23 r26) fun r27=>r27)))) else Aa (C3 a0) fun r28=>Aa (C3 a1) fun r29=>(bif (decide (r28.val > r29.val)) then Aa (H7 (Ah 1)) fun r30=>(bif (decide (a0.val < 0)) then Aa (H7 (Ah (-1))) fun r31=>Aa (Ov a1) fun r32=>Aa (Ov a0) fun r33=>Aa (C2 r32 r33) fun r34=>Aa (P8 r34) fun r35=>Aa (Em r31 r35) fun r36=>r36 else Aa (Ov a1) fun r37=>Aa (Ov a0) fun r38=>Aa (C2 r37 r38) fun r39=>Aa (P8 r39) fun r40=>Aa (Em r30 r40) fun r41=>r41) else Aa (Ov a0) fun r42=>Aa (Ov a1) fun r43=>Aa (C2 r42 r43) fun r44=>Aa (P8 r44) fun r45=>(bif (decide (a1.val > 0)) then r45 else (bif (decide (a0.val < 0)) then Aa (H7 (Ah (-2))) fun r46=>Aa (Dc r45 r46) fun r47=>r47 else Aa (H7 (Ah 2)) fun r48=>Aa (Dc r45 r48) fun r49=>r49))))))
def Nh (a0 : Iv) (a1 : Iv) : Iv:=
  Aa (El a0 a1) fun r1=>(bif (!r1) then Aa (B5) fun r2=>r2 else Aa (U4 a0 (Ah 0)) fun r3=>(bif r3 then Aa (U4 a1 (Ah 0)) fun r4=>(bif r4 then Aa (B5) fun r5=>r5 else (bif (decide (a1.lo.val < 0)) then (bif (decide (a0.lo.val < 0)) then (bif (decide (a0.hi.val ≥ 0)) then Aa (B5) fun r6=>r6 else Aa (Ch a0.lo a1.lo) fun r7=>Aa (Ch a0.lo a1.hi) fun r8=>Aa (Fd r7 r8) fun r9=>Aa (Ch a0.hi a1.lo) fun r10=>Aa (Ch a0.hi a1.hi) fun r11=>Aa (Fd r10 r11) fun r12=>Aa (Fd r9 r12) fun r13=>r13) else Aa (Ch a0.lo a1.lo) fun r14=>Aa (Ch a0.lo a1.hi) fun r15=>Aa (Fd r14 r15) fun r16=>Aa (Ch a0.hi a1.lo) fun r17=>Aa (Ch a0.hi a1.hi) fun r18=>Aa (Fd r17 r18) fun r19=>Aa (Fd r16 r19) fun r20=>r20) else Aa (Ch a0.lo a1.lo) fun r21=>Aa (Ch a0.lo a1.hi) fun r22=>Aa (Fd r21 r22) fun r23=>Aa (Ch a0.hi a1.lo) fun r24=>Aa (Ch a0.hi a1.hi) fun r25=>Aa (Fd r24 r25) fun r26=>Aa (Fd r23 r26) fun r27=>r27)) else (bif (decide (a1.lo.val < 0)) then (bif (decide (a0.lo.val < 0)) then (bif (decide (a0.hi.val ≥ 0)) then Aa (B5) fun r28=>r28 else Aa (Ch a0.lo a1.lo) fun r29=>Aa (Ch a0.lo a1.hi) fun r30=>Aa (Fd r29 r30) fun r31=>Aa (Ch a0.hi a1.lo) fun r32=>Aa (Ch a0.hi a1.hi) fun r33=>Aa (Fd r32 r33) fun r34=>Aa (Fd r31 r34) fun r35=>r35) else Aa (Ch a0.lo a1.lo) fun r36=>Aa (Ch a0.lo a1.hi) fun r37=>Aa (Fd r36 r37) fun r38=>Aa (Ch a0.hi a1.lo) fun r39=>Aa (Ch a0.hi a1.hi) fun r40=>Aa (Fd r39 r40) fun r41=>Aa (Fd r38 r41) fun r42=>r42) else Aa (Ch a0.lo a1.lo) fun r43=>Aa (Ch a0.lo a1.hi) fun r44=>Aa (Fd r43 r44) fun r45=>Aa (Ch a0.hi a1.lo) fun r46=>Aa (Ch a0.hi a1.hi) fun r47=>Aa (Fd r46 r47) fun r48=>Aa (Fd r45 r48) fun r49=>r49)))
def Ix (a0 : Aq) (a1 : Vc) : Iv:=
  (bif (a0.val == 5) then Aa (A0 (Ah 1)) fun r1=>Aa (C2 r1 a1.z) fun r2=>r2 else (bif (a0.val == 6) then Aa (A0 (Ah 2)) fun r3=>Aa (A0 (Ah 1)) fun r4=>Aa (Dc r4 a1.z) fun r5=>Aa (C2 r3 r5) fun r6=>r6 else (bif (a0.val == 7) then (bif (decide (a1.z.lo.val < 0)) then Aa (B5) fun r7=>r7 else Aa (A0 (Ah 1)) fun r8=>r8) else (bif (a0.val == 9) then Aa (A0 (Ah 2)) fun r9=>Aa (A0 (Ah 1)) fun r10=>Aa (Dc r10 a1.z) fun r11=>Aa (C2 r9 r11) fun r12=>Aa (Sh r12) fun r13=>r13 else Aa (Tz a1) fun r14=>Aa (M8 r14) fun r15=>(bif r15 then Aa (Nh r14 a1.z) fun r16=>Aa (C2 r16 r14) fun r17=>r17 else Aa (A0 (Ah 1)) fun r18=>Aa (A0 (Ah 1)) fun r19=>Aa (C2 r19 a1.z) fun r20=>Aa (Fd r18 r20) fun r21=>r21)))))
def Rr (a0 : Iv) (a1 : Iv) : Pn × Aq:=
  Aa (El a0 a1) fun r1=>(bif (!r1) then ((⟨(⟨(Ah 0),(Ah 0)⟩ : Iv),(⟨(Ah 0),(Ah 0)⟩ : Iv)⟩ : Pn),(Ah 9)) else ((⟨a0,a1⟩ : Pn),(Ah 0)))
def Js (a0 : Pj) (a1 : Pt) : Pn × Aq:=
  Aa (V0 a0 a1) fun r1=>(bif (r1.2.val != 0) then ((⟨(⟨(Ah 0),(Ah 0)⟩ : Iv),(⟨(Ah 0),(Ah 0)⟩ : Iv)⟩ : Pn),r1.2) else Aa (Dq a0) fun r2=>Aa (T4 r2) fun r3=>Aa (Rq a1 r3.1) fun r4=>(bif r4 then ((⟨(⟨(Ah 0),(Ah 0)⟩ : Iv),(⟨(Ah 0),(Ah 0)⟩ : Iv)⟩ : Pn),(Ah 8)) else (bif (a0.kind.val == 5) then Aa (A0 (Ah 0)) fun r5=>Aa (Xa r5 r1.1.z) fun r6=>(bif (r6.val == 0) then ((⟨(⟨(Ah 0),(Ah 0)⟩ : Iv),(⟨(Ah 0),(Ah 0)⟩ : Iv)⟩ : Pn),(Ah 8)) else (bif (a0.kind.val == 7) then Aa (A0 (Ah 0)) fun r7=>Aa (Xa r1.1.z r7) fun r8=>(bif (r8.val == 1) then ((⟨(⟨(Ah 0),(Ah 0)⟩ : Iv),(⟨(Ah 0),(Ah 0)⟩ : Iv)⟩ : Pn),(Ah 8)) else Aa (Ix a0.kind r1.1) fun r9=>Aa (B0 r9 r1.1.x) fun r10=>Aa (B0 r9 r1.1.y) fun r11=>Aa (Rr r10 r11) fun r12=>(r12.1,r12.2)) else Aa (Ix a0.kind r1.1) fun r13=>Aa (B0 r13 r1.1.x) fun r14=>Aa (B0 r13 r1.1.y) fun r15=>Aa (Rr r14 r15) fun r16=>(r16.1,r16.2))) else (bif (a0.kind.val == 7) then Aa (A0 (Ah 0)) fun r17=>Aa (Xa r1.1.z r17) fun r18=>(bif (r18.val == 1) then ((⟨(⟨(Ah 0),(Ah 0)⟩ : Iv),(⟨(Ah 0),(Ah 0)⟩ : Iv)⟩ : Pn),(Ah 8)) else Aa (Ix a0.kind r1.1) fun r19=>Aa (B0 r19 r1.1.x) fun r20=>Aa (B0 r19 r1.1.y) fun r21=>Aa (Rr r20 r21) fun r22=>(r22.1,r22.2)) else Aa (Ix a0.kind r1.1) fun r23=>Aa (B0 r23 r1.1.x) fun r24=>Aa (B0 r23 r1.1.y) fun r25=>Aa (Rr r24 r25) fun r26=>(r26.1,r26.2)))))
def W8 (a0 : Pt) (a1 : Pt) : Bool:=
  Aa (Ew a0) fun r1=>(bif r1 then Aa (Ew a1) fun r2=>r2 else false)
def dM (a0 : Pt) : Iv:=
  Aa (Ew a0) fun r1=>(bif (!r1) then Aa (B5) fun r2=>r2 else Aa (Id a0.lon) fun r3=>r3)
def Qw (a0 : Pt) : Vc:=
  Aa (Nd a0) fun r1=>Aa (dM a0) fun r2=>Aa (G4 r1) fun r3=>Aa (G4 r2) fun r4=>Aa (B0 r3 r4) fun r5=>Aa (G4 r1) fun r6=>Aa (Lj r2) fun r7=>Aa (B0 r6 r7) fun r8=>Aa (Lj r1) fun r9=>(⟨r5,r8,r9⟩ : Vc)
def Yq (a0 : Vc) (a1 : Vc) : Vc:=
  Aa (B0 a0.y a1.z) fun r1=>Aa (B0 a0.z a1.y) fun r2=>Aa (Em r1 r2) fun r3=>Aa (B0 a0.z a1.x) fun r4=>Aa (B0 a0.x a1.z) fun r5=>Aa (Em r4 r5) fun r6=>Aa (B0 a0.x a1.y) fun r7=>Aa (B0 a0.y a1.x) fun r8=>Aa (Em r7 r8) fun r9=>(⟨r3,r6,r9⟩ : Vc)
def lE (a0 : Vc) (a1 : Vc) : Iv:=
  Aa (B0 a0.x a1.x) fun r1=>Aa (B0 a0.y a1.y) fun r2=>Aa (Dc r1 r2) fun r3=>Aa (B0 a0.z a1.z) fun r4=>Aa (Dc r3 r4) fun r5=>r5
def N7 (a0 : Iv) : Iv × Aq:=
  Aa (Dk a0) fun r1=>(bif r1 then ((⟨(Ah 0),(Ah 0)⟩ : Iv),(Ah 9)) else (a0,(Ah 0)))
def Mr (a0 : Pt) (a1 : Pt) : Iv × Aq:=
  Aa (W8 a0 a1) fun r1=>(bif (!r1) then ((⟨(Ah 0),(Ah 0)⟩ : Iv),(Ah 1)) else Aa (Qw a0) fun r2=>Aa (Qw a1) fun r3=>Aa (Yq r2 r3) fun r4=>Aa (W9 r4) fun r5=>Aa (lE r2 r3) fun r6=>Aa (Nh r5 r6) fun r7=>Aa (N7 r7) fun r8=>(r8.1,r8.2))
def Zl (a0 : Iv) : Iv:=
  Aa (Dk a0) fun r1=>(bif r1 then Aa (B5) fun r2=>r2 else (⟨(Ck a0.lo 1),(Ck (An (a0.hi.val + 1)) 1)⟩ : Iv))
def L7 (a0 : Aq) (a1 : Iv) : Iv × Iv:=
  Aa (A0 (Ah 1)) fun r1=>Aa (Zl a1) fun r2=>Aa (G4 r2) fun r3=>(bif (a0.val == 5) then Aa (G4 a1) fun r4=>Aa (Ow r4) fun r5=>Aa (C2 r1 r5) fun r6=>Aa (G4 a1) fun r7=>Aa (C2 r1 r7) fun r8=>(r6,r8) else (bif (a0.val == 6) then Aa (Ow r3) fun r9=>Aa (C2 r1 r9) fun r10=>(r10,r10) else (bif (a0.val == 7) then Aa (G4 a1) fun r11=>(r11,r1) else (bif (a0.val == 9) then Aa (C2 r1 r3) fun r12=>(r3,r12) else Aa (M8 a1) fun r13=>(bif r13 then Aa (Lj a1) fun r14=>Aa (C2 a1 r14) fun r15=>(r1,r15) else Aa (G4 a1) fun r16=>Aa (C2 r1 r16) fun r17=>Aa (Fd r1 r17) fun r18=>(r1,r18))))))
def Mn (a0 : Pj) (a1 : Pt) : Iv × Iv × Aq:=
  Aa (Js a0 a1) fun r1=>(bif (r1.2.val != 0) then ((⟨(Ah 0),(Ah 0)⟩ : Iv),(⟨(Ah 0),(Ah 0)⟩ : Iv),r1.2) else Aa (Dq a0) fun r2=>Aa (Mr r2 a1) fun r3=>(bif (r3.2.val != 0) then ((⟨(Ah 0),(Ah 0)⟩ : Iv),(⟨(Ah 0),(Ah 0)⟩ : Iv),r3.2) else Aa (L7 a0.kind r3.1) fun r4=>Aa (R5 r4.1 r4.2) fun r5=>(r5.1,r5.2.1,r5.2.2)))
def F7 : Nat → Aq → Aq → Aq
  | 0,_,_=>(Ah 0)
  | fu + 1,a0,x_e=>(bif (decide (x_e.val ≤ 0)) then (bif (decide ((Ci .i64 a0.val (An (0 - x_e.val)).val).val < 3221225472)) then F7 fu a0 (An (x_e.val - 1)) else x_e) else x_e)
def Gm : Nat → Aq → Aq → Aq
  | 0,_,_=>(Ah 0)
  | fu + 1,a0,x_e=>(bif (decide ((Ck a0 x_e.val).val ≥ 6442450944)) then Gm fu a0 (An (x_e.val + 1)) else F7 ((64 + x_e.val).toNat + 1) a0 x_e)
def Tu (a0 : Aq) : Aq:=
  Gm ((64 - (Ah 0).val).toNat + 1) a0 (Ah 0)
def Mp (self : Aq → Iv) (a0 : Aq) : Iv:=
  Aa (Dg a0 (Ah (-64)) (Ah 64)) fun r1=>(bif (!r1) then Aa (B5) fun r3=>r3 else (bif (decide (a0.val < 0)) then Aa (self (An (0 - a0.val))) fun r5=>Aa (Q2 r5) fun r6=>r6 else Aa (Mo a0 (Ah 1598288580650331957) (Ah 29)) fun r7=>Aa (Mo (An (0 - a0.val)) (Ah 1598288580650331958) (Ah 29)) fun r8=>(⟨r7.1,(An (0 - r8.1.val))⟩ : Iv)))
def Ie : Nat → Aq → Iv
  | 0,_=>(⟨(Ah 0),(Ah 0)⟩ : Iv)
  | fu + 1,a0=>Mp (Ie fu) a0
def Nc (a0 : Aq) : Iv:=Ie 2 a0
def Pd (a0 : Iv) (a1 : Aq) : Iv:=
  Aa (Gc a0) fun r1=>Aa (Ej (An (a0.lo.val - a1.val)) (An (a0.hi.val + a1.val)) r1) fun r2=>r2
def Ur (a0 : Aq) : Iv:=
  Aa (Fr a0) fun r1=>(bif (!r1) then Aa (B5) fun r3=>r3 else (bif (decide (a0.val ≤ 0)) then Aa (B5) fun r5=>r5 else Aa (Tu a0) fun r6=>Aa (Ov a0) fun r7=>(bif (decide (r6.val > 0)) then Aa (A0 (Ah 1)) fun r9=>Aa (Em (⟨(Ck a0 r6.val),(An (0 - (Ck (An (0 - a0.val)) r6.val).val))⟩ : Iv) r9) fun r10=>Aa (A0 (Ah 1)) fun r11=>Aa (Dc (⟨(Ck a0 r6.val),(An (0 - (Ck (An (0 - a0.val)) r6.val).val))⟩ : Iv) r11) fun r12=>Aa (C2 r10 r12) fun r13=>Aa (Ow r13) fun r14=>Aa (Dh (Ah 1) (Ah 11)) fun r15=>Aa (Dh (Ah 1) (Ah 9)) fun r16=>Aa (B0 r14 r15) fun r17=>Aa (Dc r16 r17) fun r18=>Aa (Dh (Ah 1) (Ah 7)) fun r19=>Aa (B0 r14 r18) fun r20=>Aa (Dc r19 r20) fun r21=>Aa (Dh (Ah 1) (Ah 5)) fun r22=>Aa (B0 r14 r21) fun r23=>Aa (Dc r22 r23) fun r24=>Aa (Dh (Ah 1) (Ah 3)) fun r25=>Aa (B0 r14 r24) fun r26=>Aa (Dc r25 r26) fun r27=>Aa (Dh (Ah 1) (Ah 1)) fun r28=>Aa (B0 r14 r27) fun r29=>Aa (Dc r28 r29) fun r30=>Aa (Nc r6) fun r31=>Aa (A0 (Ah 2)) fun r32=>Aa (B0 r32 r13) fun r33=>Aa (B0 r33 r30) fun r34=>Aa (Pd r34 (Ah 1)) fun r35=>Aa (Dc r31 r35) fun r36=>r36 else Aa (Ov (Ci .i64 a0.val (An (0 - r6.val)).val)) fun r37=>Aa (A0 (Ah 1)) fun r38=>Aa (Em r37 r38) fun r39=>Aa (A0 (Ah 1)) fun r40=>Aa (Dc r37 r40) fun r41=>Aa (C2 r39 r41) fun r42=>Aa (Ow r42) fun r43=>Aa (Dh (Ah 1) (Ah 11)) fun r44=>Aa (Dh (Ah 1) (Ah 9)) fun r45=>Aa (B0 r43 r44) fun r46=>Aa (Dc r45 r46) fun r47=>Aa (Dh (Ah 1) (Ah 7)) fun r48=>Aa (B0 r43 r47) fun r49=>Aa (Dc r48 r49) fun r50=>Aa (Dh (Ah 1) (Ah 5)) fun r51=>Aa (B0 r43 r50) fun r52=>Aa (Dc r51 r52) fun r53=>Aa (Dh (Ah 1) (Ah 3)) fun r54=>Aa (B0 r43 r53) fun r55=>Aa (Dc r54 r55) fun r56=>Aa (Dh (Ah 1) (Ah 1)) fun r57=>Aa (B0 r43 r56) fun r58=>Aa (Dc r57 r58) fun r59=>Aa (Nc r6) fun r60=>Aa (A0 (Ah 2)) fun r61=>Aa (B0 r61 r42) fun r62=>Aa (B0 r62 r59) fun r63=>Aa (Pd r63 (Ah 1)) fun r64=>Aa (Dc r60 r64) fun r65=>r65)))
def Ip (a0 : Iv) : Iv:=
  Aa (Dk a0) fun r1=>(bif r1 then Aa (B5) fun r2=>r2 else Aa (Ur a0.lo) fun r3=>Aa (Ur a0.hi) fun r4=>Aa (El r3 r4) fun r5=>(bif (!r5) then Aa (B5) fun r6=>r6 else Aa (Ej r3.lo r4.hi true) fun r7=>r7))
def bH (a0 : Iv) : Iv:=
  Aa (Ip a0) fun r1=>r1
def Uo (a0 : Aq) : Iv:=
  Aa (Jb a0 (Ah 0)) fun r1=>r1
def Ut (a0 : Aq) : Iv:=
  Aa (Jb a0 (Ah 1)) fun r1=>r1
def Nb : Nat → List Aq → Iv → Aq → Iv → Iv
  | 0,_,_,_,_=>(⟨(Ah 0),(Ah 0)⟩ : Iv)
  | fu + 1,r4,a0,x_12,y_1=>(bif (decide (x_12.val < (((r4.length : Nat) : Int)))) then (bif ((Eo .i64 (Lb r4 x_12).val 1).val == 1) then Aa (B5) fun r7=>r7 else Nb fu r4 a0 (An (x_12.val + 1)) y_1) else Aa (Uo a0.lo) fun r8=>Aa (Ut a0.lo) fun r9=>Aa (C2 r8 r9) fun r10=>Aa (Uo a0.hi) fun r11=>Aa (Ut a0.hi) fun r12=>Aa (C2 r11 r12) fun r13=>Aa (Fd r10 r13) fun r14=>r14)
def lD (a0 : Iv) : Iv:=
  Aa (Pf a0) fun r1=>(bif (!r1) then Aa (B5) fun r3=>r3 else Aa (Pe a0) fun r4=>Nb (((r4.length : Nat) : Int).toNat + 1) r4 a0 (Ah 0) (⟨(Ah 0),(Ah 0)⟩ : Iv))
def Q6 (a0 : Aq) : Iv:=
  (bif (decide (a0.val ≤ 35184372088832)) then Aa (Ov a0) fun r1=>Aa (Ov a0) fun r2=>Aa (Ow r2) fun r3=>Aa (A0 (Ah 1)) fun r4=>Aa (Dc r3 r4) fun r5=>Aa (Sh r5) fun r6=>Aa (Dc r1 r6) fun r7=>Aa (bH r7) fun r8=>r8 else Aa (Nc (Ah 1)) fun r9=>Aa (Ur a0) fun r10=>Aa (Dc r9 r10) fun r11=>Aa (Dc r11 (⟨(Ah 0),(Ah 16)⟩ : Iv)) fun r12=>r12)
def Er (a0 : Aq) : Iv:=
  (bif (decide (a0.val < 0)) then Aa (Q6 (An (0 - a0.val))) fun r1=>Aa (Q2 r1) fun r2=>r2 else Aa (Q6 a0) fun r3=>r3)
def Eh (a0 : Iv) : Iv:=
  Aa (Dk a0) fun r1=>(bif r1 then Aa (B5) fun r2=>r2 else Aa (Er a0.lo) fun r3=>Aa (Er a0.hi) fun r4=>Aa (El r3 r4) fun r5=>(bif (!r5) then Aa (B5) fun r6=>r6 else Aa (Ej r3.lo r4.hi true) fun r7=>r7))
def Ys (a0 : Iv) : Iv:=
  Aa (Eh a0) fun r1=>r1
def Gp (a0 : Iv) : Iv:=
  Aa (lD a0) fun r1=>Aa (Ys r1) fun r2=>r2
def Kf (b0 : Cn) : Iv:=
  (bif (b0.p.kind.val == 10) then Aa (Lj b0.a) fun r1=>Aa (Lj b0.b) fun r2=>Aa (Dc r1 r2) fun r3=>Aa (Zl r3) fun r4=>r4 else (bif (b0.p.lat1.val == b0.p.lat2.val) then Aa (Lj b0.a) fun r5=>r5 else (bif (b0.p.kind.val == 11) then Aa (G4 b0.a) fun r6=>Aa (bH r6) fun r7=>Aa (G4 b0.b) fun r8=>Aa (bH r8) fun r9=>Aa (Em r7 r9) fun r10=>Aa (Gp b0.b) fun r11=>Aa (Gp b0.a) fun r12=>Aa (Em r11 r12) fun r13=>Aa (C2 r10 r13) fun r14=>r14 else Aa (G4 b0.a) fun r15=>Aa (G4 b0.b) fun r16=>Aa (Em r15 r16) fun r17=>Aa (Em b0.b b0.a) fun r18=>Aa (C2 r17 r18) fun r19=>r19)))
def W6 (a0 : Aq) (a1 : Iv) : Iv:=
  Aa (A0 a0) fun r1=>Aa (B0 r1 a1) fun r2=>r2
def Gn : Nat → Aq → Iv → Iv
  | 0,_,_=>(⟨(Ah 0),(Ah 0)⟩ : Iv)
  | fu + 1,x_k,y_0=>(bif (decide (x_k.val > 0)) then Aa (Jd y_0) fun r2=>Gn fu (An (x_k.val - 1)) r2 else Aa (Dk y_0) fun r3=>(bif r3 then Aa (B5) fun r5=>r5 else (⟨(Ck y_0.lo (An (0 - x_k.val)).val),(An (0 - (Ck (An (0 - y_0.hi.val)) (An (0 - x_k.val)).val).val))⟩ : Iv)))
def Tv (a0 : Iv) (a1 : Aq) : Iv:=
  Gn (a1.val.toNat + 1) a1 a0
def Xb (a0 : Aq) : Iv:=
  Aa (Fr a0) fun r1=>(bif (!r1) then Aa (B5) fun r3=>r3 else (bif (decide (a0.val > 85899345920)) then Aa (B5) fun r5=>r5 else (bif (decide (a0.val < (-98784247808))) then (⟨(Ah 0),(Ah 1)⟩ : Iv) else (bif (decide ((An ((An ((An (Int.tdiv (An ((An (2 * a0.val)).val + 2977044472)).val 5954088944)).val * 2)).val * 2977044472)).val > (An ((An (2 * a0.val)).val + 2977044472)).val)) then Aa (Ov a0) fun r8=>Aa (Nc (An ((An (Int.tdiv (An ((An (2 * a0.val)).val + 2977044472)).val 5954088944)).val - 1))) fun r9=>Aa (Em r8 r9) fun r10=>Aa (A0 (Ah 1)) fun r11=>Aa (A0 (Ah 1)) fun r12=>Aa (B0 r10 r11) fun r13=>Aa (A0 (Ah 9)) fun r14=>Aa (C2 r13 r14) fun r15=>Aa (Dc r12 r15) fun r16=>Aa (A0 (Ah 1)) fun r17=>Aa (B0 r10 r16) fun r18=>Aa (A0 (Ah 8)) fun r19=>Aa (C2 r18 r19) fun r20=>Aa (Dc r17 r20) fun r21=>Aa (A0 (Ah 1)) fun r22=>Aa (B0 r10 r21) fun r23=>Aa (A0 (Ah 7)) fun r24=>Aa (C2 r23 r24) fun r25=>Aa (Dc r22 r25) fun r26=>Aa (A0 (Ah 1)) fun r27=>Aa (B0 r10 r26) fun r28=>Aa (A0 (Ah 6)) fun r29=>Aa (C2 r28 r29) fun r30=>Aa (Dc r27 r30) fun r31=>Aa (A0 (Ah 1)) fun r32=>Aa (B0 r10 r31) fun r33=>Aa (A0 (Ah 5)) fun r34=>Aa (C2 r33 r34) fun r35=>Aa (Dc r32 r35) fun r36=>Aa (A0 (Ah 1)) fun r37=>Aa (B0 r10 r36) fun r38=>Aa (A0 (Ah 4)) fun r39=>Aa (C2 r38 r39) fun r40=>Aa (Dc r37 r40) fun r41=>Aa (A0 (Ah 1)) fun r42=>Aa (B0 r10 r41) fun r43=>Aa (A0 (Ah 3)) fun r44=>Aa (C2 r43 r44) fun r45=>Aa (Dc r42 r45) fun r46=>Aa (A0 (Ah 1)) fun r47=>Aa (B0 r10 r46) fun r48=>Aa (A0 (Ah 2)) fun r49=>Aa (C2 r48 r49) fun r50=>Aa (Dc r47 r50) fun r51=>Aa (A0 (Ah 1)) fun r52=>Aa (B0 r10 r51) fun r53=>Aa (A0 (Ah 1)) fun r54=>Aa (C2 r53 r54) fun r55=>Aa (Dc r52 r55) fun r56=>Aa (Pd r56 (Ah 1)) fun r57=>Aa (Tv r57 (An ((An (Int.tdiv (An ((An (2 * a0.val)).val + 2977044472)).val 5954088944)).val - 1))) fun r58=>r58 else Aa (Ov a0) fun r59=>Aa (Nc (An (Int.tdiv (An ((An (2 * a0.val)).val + 2977044472)).val 5954088944))) fun r60=>Aa (Em r59 r60) fun r61=>Aa (A0 (Ah 1)) fun r62=>Aa (A0 (Ah 1)) fun r63=>Aa (B0 r61 r62) fun r64=>Aa (A0 (Ah 9)) fun r65=>Aa (C2 r64 r65) fun r66=>Aa (Dc r63 r66) fun r67=>Aa (A0 (Ah 1)) fun r68=>Aa (B0 r61 r67) fun r69=>Aa (A0 (Ah 8)) fun r70=>Aa (C2 r69 r70) fun r71=>Aa (Dc r68 r71) fun r72=>Aa (A0 (Ah 1)) fun r73=>Aa (B0 r61 r72) fun r74=>Aa (A0 (Ah 7)) fun r75=>Aa (C2 r74 r75) fun r76=>Aa (Dc r73 r76) fun r77=>Aa (A0 (Ah 1)) fun r78=>Aa (B0 r61 r77) fun r79=>Aa (A0 (Ah 6)) fun r80=>Aa (C2 r79 r80) fun r81=>Aa (Dc r78 r81) fun r82=>Aa (A0 (Ah 1)) fun r83=>Aa (B0 r61 r82) fun r84=>Aa (A0 (Ah 5)) fun r85=>Aa (C2 r84 r85) fun r86=>Aa (Dc r83 r86) fun r87=>Aa (A0 (Ah 1)) fun r88=>Aa (B0 r61 r87) fun r89=>Aa (A0 (Ah 4)) fun r90=>Aa (C2 r89 r90) fun r91=>Aa (Dc r88 r91) fun r92=>Aa (A0 (Ah 1)) fun r93=>Aa (B0 r61 r92) fun r94=>Aa (A0 (Ah 3)) fun r95=>Aa (C2 r94 r95) fun r96=>Aa (Dc r93 r96) fun r97=>Aa (A0 (Ah 1)) fun r98=>Aa (B0 r61 r97) fun r99=>Aa (A0 (Ah 2)) fun r100=>Aa (C2 r99 r100) fun r101=>Aa (Dc r98 r101) fun r102=>Aa (A0 (Ah 1)) fun r103=>Aa (B0 r61 r102) fun r104=>Aa (A0 (Ah 1)) fun r105=>Aa (C2 r104 r105) fun r106=>Aa (Dc r103 r106) fun r107=>Aa (Pd r107 (Ah 1)) fun r108=>Aa (Tv r108 (An (Int.tdiv (An ((An (2 * a0.val)).val + 2977044472)).val 5954088944))) fun r109=>r109))))
def Iq (a0 : Iv) : Iv:=
  Aa (Dk a0) fun r1=>(bif r1 then Aa (B5) fun r2=>r2 else Aa (Xb a0.lo) fun r3=>Aa (Xb a0.hi) fun r4=>Aa (El r3 r4) fun r5=>(bif (!r5) then Aa (B5) fun r6=>r6 else Aa (Ej r3.lo r4.hi true) fun r7=>r7))
def eX (a0 : Iv) : Iv:=
  Aa (Iq a0) fun r1=>r1
def Ht (b0 : Cn) : Iv:=
  (bif (b0.p.kind.val == 10) then Aa (G4 b0.a) fun r1=>Aa (Ow r1) fun r2=>Aa (W6 (Ah 2) b0.n) fun r3=>Aa (Lj b0.a) fun r4=>Aa (B0 r3 r4) fun r5=>Aa (Dc r2 r5) fun r6=>r6 else (bif (b0.p.kind.val == 11) then Aa (G4 b0.a) fun r7=>Aa (Gp b0.a) fun r8=>Aa (B0 b0.n r8) fun r9=>Aa (eX r9) fun r10=>Aa (B0 r7 r10) fun r11=>Aa (C2 r11 b0.n) fun r12=>r12 else Aa (G4 b0.a) fun r13=>Aa (C2 r13 b0.n) fun r14=>Aa (Dc r14 b0.a) fun r15=>r15))
def Mk (a0 : Pj) : Cn × Aq:=
  Aa (D6 a0) fun r1=>(bif (!r1) then ((⟨(⟨(Ah 0),(Ah 0),(Ah 0),(Ah 0),(Ah 0)⟩ : Pj),(⟨(Ah 0),(Ah 0)⟩ : Iv),(⟨(Ah 0),(Ah 0)⟩ : Iv),(⟨(Ah 0),(Ah 0)⟩ : Iv),(⟨(Ah 0),(Ah 0)⟩ : Iv),(⟨(Ah 0),(Ah 0)⟩ : Iv)⟩ : Cn),(Ah 1)) else Aa (As a0.kind) fun r3=>(bif (!r3) then ((⟨(⟨(Ah 0),(Ah 0),(Ah 0),(Ah 0),(Ah 0)⟩ : Pj),(⟨(Ah 0),(Ah 0)⟩ : Iv),(⟨(Ah 0),(Ah 0)⟩ : Iv),(⟨(Ah 0),(Ah 0)⟩ : Iv),(⟨(Ah 0),(Ah 0)⟩ : Iv),(⟨(Ah 0),(Ah 0)⟩ : Iv)⟩ : Cn),(Ah 1)) else Aa (Id a0.lat1) fun r5=>Aa (Id a0.lat2) fun r6=>Aa (Id a0.lat0) fun r7=>Aa (Kf (⟨a0,r5,r6,r7,(⟨(Ah 0),(Ah 0)⟩ : Iv),(⟨(Ah 0),(Ah 0)⟩ : Iv)⟩ : Cn)) fun r8=>Aa (Ht (⟨a0,r5,r6,r7,r8,(⟨(Ah 0),(Ah 0)⟩ : Iv)⟩ : Cn)) fun r9=>((⟨a0,r5,r6,r7,r8,r9⟩ : Cn),(Ah 0))))
def I2 (b0 : Cn) (a0 : Iv) : Iv:=
  (bif (b0.p.kind.val == 10) then Aa (W6 (Ah 2) b0.n) fun r1=>Aa (Lj a0) fun r2=>Aa (B0 r1 r2) fun r3=>Aa (Em b0.g r3) fun r4=>Aa (Sh r4) fun r5=>Aa (C2 r5 b0.n) fun r6=>r6 else (bif (b0.p.kind.val == 11) then Aa (Gp a0) fun r7=>Aa (B0 b0.n r7) fun r8=>Aa (Q2 r8) fun r9=>Aa (eX r9) fun r10=>Aa (B0 b0.g r10) fun r11=>r11 else Aa (Em b0.g a0) fun r12=>r12))
def Jr (b0 : Cn) (a0 : Iv) : Iv:=
  Aa (I2 b0 a0) fun r1=>Aa (B0 b0.n r1) fun r2=>Aa (G4 a0) fun r3=>Aa (C2 r2 r3) fun r4=>r4
def N8 (a0 : Pj) (a1 : Pt) : Iv × Iv × Aq:=
  Aa (Mk a0) fun r1=>(bif (r1.2.val != 0) then ((⟨(Ah 0),(Ah 0)⟩ : Iv),(⟨(Ah 0),(Ah 0)⟩ : Iv),(Ah 1)) else Aa (Ew a1) fun r2=>(bif (!r2) then ((⟨(Ah 0),(Ah 0)⟩ : Iv),(⟨(Ah 0),(Ah 0)⟩ : Iv),(Ah 1)) else Aa (Tx a1) fun r4=>(bif r4 then ((⟨(Ah 0),(Ah 0)⟩ : Iv),(⟨(Ah 0),(Ah 0)⟩ : Iv),(Ah 8)) else Aa (Nd a1) fun r6=>Aa (Jr r1.1 r6) fun r7=>(bif (a0.kind.val == 10) then Aa (A0 (Ah 1)) fun r9=>Aa (C2 r9 r7) fun r10=>Aa (R5 r10 r7) fun r11=>(r11.1,r11.2.1,r11.2.2) else (bif (a0.kind.val == 11) then Aa (R5 r7 r7) fun r13=>(r13.1,r13.2.1,r13.2.2) else Aa (A0 (Ah 1)) fun r14=>Aa (R5 r14 r7) fun r15=>(r15.1,r15.2.1,r15.2.2))))))
def Ml (a0 : Pj) : Bool:=
  Aa (D6 a0) fun r1=>(bif r1 then (a0.kind.val == 16) else false)
def Ss (a0 : Pj) (a1 : Pt) : Iv:=
  Aa (D6 a0) fun r1=>(bif (!r1) then Aa (B5) fun r2=>r2 else Aa (Ew a1) fun r3=>(bif (!r3) then Aa (B5) fun r4=>r4 else Aa (Na (An (a1.lon.val - a0.lon0.val))) fun r5=>Aa (Id r5) fun r6=>r6))
def P6 (a0 : Pj) (a1 : Pt) : Iv × Iv × Iv × Aq:=
  Aa (Ml a0) fun r1=>(bif (!r1) then ((⟨(Ah 0),(Ah 0)⟩ : Iv),(⟨(Ah 0),(Ah 0)⟩ : Iv),(⟨(Ah 0),(Ah 0)⟩ : Iv),(Ah 1)) else Aa (Ew a1) fun r2=>(bif (!r2) then ((⟨(Ah 0),(Ah 0)⟩ : Iv),(⟨(Ah 0),(Ah 0)⟩ : Iv),(⟨(Ah 0),(Ah 0)⟩ : Iv),(Ah 1)) else (bif (a1.lat.val == 0) then Aa (Na (An (a1.lon.val - a0.lon0.val))) fun r3=>Aa (C3 r3) fun r4=>(bif (r4.val == 900000000) then ((⟨(Ah 0),(Ah 0)⟩ : Iv),(⟨(Ah 0),(Ah 0)⟩ : Iv),(⟨(Ah 0),(Ah 0)⟩ : Iv),(Ah 8)) else Aa (Nd a1) fun r5=>Aa (Ss a0 a1) fun r6=>Aa (G4 r5) fun r7=>Aa (Lj r6) fun r8=>Aa (B0 r7 r8) fun r9=>(r5,r6,r9,(Ah 0))) else Aa (Nd a1) fun r10=>Aa (Ss a0 a1) fun r11=>Aa (G4 r10) fun r12=>Aa (Lj r11) fun r13=>Aa (B0 r12 r13) fun r14=>(r10,r11,r14,(Ah 0)))))
def Vx (a0 : Iv) : Iv:=
  Aa (A0 (Ah 1)) fun r1=>Aa (Em r1 a0) fun r2=>r2
def Kg (a0 : Pj) (a1 : Pt) : Iv × Aq:=
  Aa (P6 a0 a1) fun r1=>(bif (r1.2.2.2.val != 0) then ((⟨(Ah 0),(Ah 0)⟩ : Iv),r1.2.2.2) else Aa (A0 (Ah 1)) fun r2=>Aa (Ow r1.2.2.1) fun r3=>Aa (Vx r3) fun r4=>Aa (Sh r4) fun r5=>Aa (C2 r2 r5) fun r6=>Aa (N7 r6) fun r7=>(r7.1,r7.2))
def Kn (a0 : Pj) (a1 : Pt) : Iv × Iv × Aq:=
  Aa (D6 a0) fun r1=>(bif (!r1) then ((⟨(Ah 0),(Ah 0)⟩ : Iv),(⟨(Ah 0),(Ah 0)⟩ : Iv),(Ah 1)) else Aa (Ew a1) fun r2=>(bif (!r2) then ((⟨(Ah 0),(Ah 0)⟩ : Iv),(⟨(Ah 0),(Ah 0)⟩ : Iv),(Ah 1)) else Aa (Mq a0.kind) fun r3=>(bif (r3.val == 1) then Aa (K1 a0 a1) fun r4=>(r4.1,r4.2.1,r4.2.2) else (bif (r3.val == 2) then Aa (Mn a0 a1) fun r5=>(r5.1,r5.2.1,r5.2.2) else (bif (r3.val == 3) then Aa (N8 a0 a1) fun r6=>(r6.1,r6.2.1,r6.2.2) else (bif (r3.val == 5) then Aa (Kg a0 a1) fun r7=>(r7.1,r7.1,r7.2) else ((⟨(Ah 0),(Ah 0)⟩ : Iv),(⟨(Ah 0),(Ah 0)⟩ : Iv),(Ah 3))))))))
def Ru (a0 : Pj) (a1 : Pt) : Iv × Aq:=
  Aa (Kn a0 a1) fun r1=>(bif (r1.2.2.val == 3) then Aa (A0 (Ah 1)) fun r2=>(r2,(Ah 0)) else (bif (r1.2.2.val != 0) then ((⟨(Ah 0),(Ah 0)⟩ : Iv),r1.2.2) else Aa (B0 r1.1 r1.2.1) fun r3=>Aa (N7 r3) fun r4=>(r4.1,r4.2)))
end Go.Proofs.YtfhnlkinjbakgaaGreat.Abs
