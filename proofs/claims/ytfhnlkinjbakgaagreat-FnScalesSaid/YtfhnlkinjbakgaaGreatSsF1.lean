/- The functions, on numbers; part 1 (written by w.py). -/
import Derived.Test.YtfhnlkinjbakgaaGreatSsF0
set_option linter.unusedVariables false
set_option linter.unusedSimpArgs false
namespace Go.Proofs.YtfhnlkinjbakgaaGreat.Abs
open Go Go.RowKit
def El (a0 : Iv) (a1 : Iv) : Bool:=
  Aa (Gc a0) fun r1=>(bif r1 then Aa (Gc a1) fun r2=>r2 else false)
def Ej (a0 : Aq) (a1 : Aq) (a2 : Bool) : Iv:=
  (bif a2 then Aa (Gc (⟨a0,a1⟩ : Iv)) fun r1=>(bif r1 then (⟨a0,a1⟩ : Iv) else Aa (B5) fun r2=>r2) else Aa (B5) fun r3=>r3)
def Dc (a0 : Iv) (a1 : Iv) : Iv:=
  Aa (El a0 a1) fun r1=>(bif (!r1) then Aa (B5) fun r2=>r2 else Aa (Ej (An (a0.lo.val + a1.lo.val)) (An (a0.hi.val + a1.hi.val)) true) fun r3=>r3)
def Em (a0 : Iv) (a1 : Iv) : Iv:=
  Aa (Q2 a1) fun r1=>Aa (Dc a0 r1) fun r2=>r2
def Q3 (a0 : Iv) (a1 : Iv) : Bool:=
  Aa (Dk a0) fun r1=>(bif r1 then Aa (Dk a1) fun r2=>r2 else Aa (Dk a1) fun r3=>(bif r3 then Aa (Dk a1) fun r4=>r4 else (bif (decide (a1.lo.val ≤ a0.lo.val)) then (decide (a0.hi.val ≤ a1.hi.val)) else false)))
def U4 (a0 : Iv) (a1 : Aq) : Bool:=
  Aa (Dk a0) fun r1=>(bif r1 then true else Aa (Dg a1 a0.lo a0.hi) fun r2=>r2)
def R6 (a0 : Iv) : Iv:=
  Aa (Dk a0) fun r1=>(bif r1 then Aa (B5) fun r2=>r2 else Aa (C3 a0.lo) fun r3=>Aa (C3 a0.hi) fun r4=>Aa (C3 a0.lo) fun r5=>Aa (C3 a0.hi) fun r6=>Aa (U4 a0 (Ah 0)) fun r7=>(bif r7 then (⟨(Ah 0),(mx r5 r6)⟩ : Iv) else (⟨(mn r3 r4),(mx r5 r6)⟩ : Iv)))
def Fr (a0 : Aq) : Bool:=
  Aa (Dg a0 (Ah (-1152921504606846976)) (Ah 1152921504606846976)) fun r1=>r1
def Og (a0 : Aq) (a1 : Bool) : Aq × Bool:=
  (bif (!a1) then ((Ah 0),false) else Aa (Fr a0) fun r1=>(bif (!r1) then ((Ah 0),false) else (a0,true)))
def L0 (a0 : Aq) (a1 : Aq) : Aq × Bool:=
  Aa (Fr a0) fun r1=>(bif (!r1) then ((Ah 0),false) else Aa (Fr a1) fun r2=>(bif (!r2) then ((Ah 0),false) else Aa (Mo a0 a1 (Ah 32)) fun r3=>Aa (Og r3.1 r3.2) fun r4=>(r4.1,r4.2)))
def Si (a0 : Aq) (a1 : Aq) : Aq × Bool:=
  Aa (Fr a0) fun r1=>(bif (!r1) then ((Ah 0),false) else Aa (Fr a1) fun r2=>(bif (!r2) then ((Ah 0),false) else Aa (L0 (An (0 - a0.val)) a1) fun r3=>((An (0 - r3.1.val)),r3.2)))
def Ow (a0 : Iv) : Iv:=
  Aa (Dk a0) fun r1=>(bif r1 then Aa (B5) fun r2=>r2 else Aa (R6 a0) fun r3=>Aa (L0 r3.lo r3.lo) fun r4=>Aa (Si r3.hi r3.hi) fun r5=>(bif r4.2 then Aa (Ej r4.1 r5.1 r5.2) fun r6=>r6 else Aa (Ej r4.1 r5.1 false) fun r7=>r7))
def A0 (a0 : Aq) : Iv:=
  Aa (Dg a0 (Ah (-268435456)) (Ah 268435456)) fun r1=>(bif (!r1) then Aa (B5) fun r2=>r2 else Aa (Ej (An (a0.val * 4294967296)) (An (a0.val * 4294967296)) true) fun r3=>r3)
def Ng (a0 : Aq) (a1 : Aq) : Aq × Bool:=
  Aa (Fr a0) fun r1=>(bif (!r1) then ((Ah 0),false) else Aa (Fr a1) fun r2=>(bif (!r2) then ((Ah 0),false) else (bif (decide (a1.val < 0)) then Aa (H8 (An (0 - a0.val)) (Ah 4294967296) (An (0 - a1.val))) fun r3=>Aa (Og r3.1 r3.2) fun r4=>(r4.1,r4.2) else Aa (H8 a0 (Ah 4294967296) a1) fun r5=>Aa (Og r5.1 r5.2) fun r6=>(r6.1,r6.2))))
def Us (a0 : Aq) (a1 : Aq) : Aq × Bool:=
  Aa (Fr a0) fun r1=>(bif (!r1) then ((Ah 0),false) else Aa (Fr a1) fun r2=>(bif (!r2) then ((Ah 0),false) else Aa (Ng (An (0 - a0.val)) a1) fun r3=>((An (0 - r3.1.val)),r3.2)))
def E5 (a0 : Iv) (a1 : Iv) : Iv:=
  Aa (Ng a0.lo a1.lo) fun r1=>Aa (Us a0.lo a1.lo) fun r2=>(bif (!r1.2) then Aa (B5) fun r3=>r3 else (bif (!r2.2) then Aa (B5) fun r4=>r4 else Aa (Ng a0.lo a1.hi) fun r5=>Aa (Us a0.lo a1.hi) fun r6=>(bif (!r5.2) then Aa (B5) fun r7=>r7 else (bif (!r6.2) then Aa (B5) fun r8=>r8 else Aa (Ng a0.hi a1.lo) fun r9=>Aa (Us a0.hi a1.lo) fun r10=>(bif (!r9.2) then Aa (B5) fun r11=>r11 else (bif (!r10.2) then Aa (B5) fun r12=>r12 else Aa (Ng a0.hi a1.hi) fun r13=>Aa (Us a0.hi a1.hi) fun r14=>(bif (!r13.2) then Aa (B5) fun r15=>r15 else (bif (!r14.2) then Aa (B5) fun r16=>r16 else Aa (Ej (mn (mn (mn (mn r1.1 r1.1) r5.1) r9.1) r13.1) (mx (mx (mx (mx r2.1 r2.1) r6.1) r10.1) r14.1) true) fun r17=>r17))))))))
def C2 (a0 : Iv) (a1 : Iv) : Iv:=
  Aa (El a0 a1) fun r1=>(bif (!r1) then Aa (B5) fun r2=>r2 else Aa (U4 a1 (Ah 0)) fun r3=>(bif r3 then Aa (B5) fun r4=>r4 else Aa (E5 a0 a1) fun r5=>r5))
def E4 (a0 : Iv) (a1 : Iv) : Iv:=
  Aa (L0 a0.lo a1.lo) fun r1=>Aa (Si a0.lo a1.lo) fun r2=>(bif (!r1.2) then Aa (B5) fun r3=>r3 else (bif (!r2.2) then Aa (B5) fun r4=>r4 else Aa (L0 a0.lo a1.hi) fun r5=>Aa (Si a0.lo a1.hi) fun r6=>(bif (!r5.2) then Aa (B5) fun r7=>r7 else (bif (!r6.2) then Aa (B5) fun r8=>r8 else Aa (L0 a0.hi a1.lo) fun r9=>Aa (Si a0.hi a1.lo) fun r10=>(bif (!r9.2) then Aa (B5) fun r11=>r11 else (bif (!r10.2) then Aa (B5) fun r12=>r12 else Aa (L0 a0.hi a1.hi) fun r13=>Aa (Si a0.hi a1.hi) fun r14=>(bif (!r13.2) then Aa (B5) fun r15=>r15 else (bif (!r14.2) then Aa (B5) fun r16=>r16 else Aa (Ej (mn (mn (mn (mn r1.1 r1.1) r5.1) r9.1) r13.1) (mx (mx (mx (mx r2.1 r2.1) r6.1) r10.1) r14.1) true) fun r17=>r17))))))))
def B0 (a0 : Iv) (a1 : Iv) : Iv:=
  Aa (El a0 a1) fun r1=>(bif (!r1) then Aa (B5) fun r2=>r2 else Aa (E4 a0 a1) fun r3=>r3)
def Rp (a0 : Iv) (a1 : Aq) : Iv:=
  Aa (A0 (Ah 1)) fun r1=>Aa (A0 (Ah 1)) fun r2=>Aa (A0 (An ((An (a1.val + 14)).val * (An ((An (a1.val + 14)).val + 1)).val))) fun r3=>Aa (C2 a0 r3) fun r4=>Aa (B0 r4 r1) fun r5=>Aa (Em r2 r5) fun r6=>Aa (A0 (Ah 1)) fun r7=>Aa (A0 (An ((An (a1.val + 12)).val * (An ((An (a1.val + 12)).val + 1)).val))) fun r8=>Aa (C2 a0 r8) fun r9=>Aa (B0 r9 r6) fun r10=>Aa (Em r7 r10) fun r11=>Aa (A0 (Ah 1)) fun r12=>Aa (A0 (An ((An (a1.val + 10)).val * (An ((An (a1.val + 10)).val + 1)).val))) fun r13=>Aa (C2 a0 r13) fun r14=>Aa (B0 r14 r11) fun r15=>Aa (Em r12 r15) fun r16=>Aa (A0 (Ah 1)) fun r17=>Aa (A0 (An ((An (a1.val + 8)).val * (An ((An (a1.val + 8)).val + 1)).val))) fun r18=>Aa (C2 a0 r18) fun r19=>Aa (B0 r19 r16) fun r20=>Aa (Em r17 r20) fun r21=>Aa (A0 (Ah 1)) fun r22=>Aa (A0 (An ((An (a1.val + 6)).val * (An ((An (a1.val + 6)).val + 1)).val))) fun r23=>Aa (C2 a0 r23) fun r24=>Aa (B0 r24 r21) fun r25=>Aa (Em r22 r25) fun r26=>Aa (A0 (Ah 1)) fun r27=>Aa (A0 (An ((An (a1.val + 4)).val * (An ((An (a1.val + 4)).val + 1)).val))) fun r28=>Aa (C2 a0 r28) fun r29=>Aa (B0 r29 r26) fun r30=>Aa (Em r27 r30) fun r31=>Aa (A0 (Ah 1)) fun r32=>Aa (A0 (An ((An (a1.val + 2)).val * (An ((An (a1.val + 2)).val + 1)).val))) fun r33=>Aa (C2 a0 r33) fun r34=>Aa (B0 r34 r31) fun r35=>Aa (Em r32 r35) fun r36=>Aa (A0 (Ah 1)) fun r37=>Aa (A0 (An ((An (a1.val + 0)).val * (An ((An (a1.val + 0)).val + 1)).val))) fun r38=>Aa (C2 a0 r38) fun r39=>Aa (B0 r39 r36) fun r40=>Aa (Em r37 r40) fun r41=>r41
def eW : Iv:=
  (⟨(Ah (-1)),(Ah 1)⟩ : Iv)
def Pk (a0 : Iv) : Iv:=
  Aa (Tw) fun r1=>Aa (Q3 a0 r1) fun r2=>(bif (!r2) then Aa (B5) fun r3=>r3 else Aa (Ow a0) fun r4=>Aa (Rp r4 (Ah 2)) fun r5=>Aa (B0 a0 r5) fun r6=>Aa (eW) fun r7=>Aa (Dc r6 r7) fun r8=>r8)
def Uq (a0 : Iv) (a1 : Iv) : Iv × Bool:=
  Aa (Dk a0) fun r1=>(bif r1 then Aa (Dk a1) fun r2=>(bif r2 then Aa (B5) fun r3=>(r3,true) else Aa (Dk a0) fun r4=>(bif r4 then (a1,true) else Aa (Dk a1) fun r5=>(bif r5 then (a0,true) else (bif (decide ((mx a0.lo a1.lo).val > (mn a0.hi a1.hi).val)) then ((⟨(Ah 0),(Ah 0)⟩ : Iv),false) else ((⟨(mx a0.lo a1.lo),(mn a0.hi a1.hi)⟩ : Iv),true))))) else Aa (Dk a0) fun r6=>(bif r6 then (a1,true) else Aa (Dk a1) fun r7=>(bif r7 then (a0,true) else (bif (decide ((mx a0.lo a1.lo).val > (mn a0.hi a1.hi).val)) then ((⟨(Ah 0),(Ah 0)⟩ : Iv),false) else ((⟨(mx a0.lo a1.lo),(mn a0.hi a1.hi)⟩ : Iv),true)))))
def Rs (a0 : Iv) : Iv:=
  Aa (Tw) fun r1=>Aa (Uq a0 r1) fun r2=>r2.1
def Pl (a0 : Iv) : Iv:=
  Aa (Tw) fun r1=>Aa (Q3 a0 r1) fun r2=>(bif (!r2) then Aa (B5) fun r3=>r3 else Aa (Ow a0) fun r4=>Aa (Rp r4 (Ah 1)) fun r5=>Aa (eW) fun r6=>Aa (Dc r5 r6) fun r7=>r7)
def Jb (a0 : Aq) (a1 : Aq) : Iv:=
  Aa (Lz a0) fun r1=>(bif (!r1) then Aa (Tw) fun r2=>r2 else Aa (En a0) fun r3=>Aa (Ov a0) fun r4=>Aa (H7 r3) fun r5=>Aa (Em r4 r5) fun r6=>(bif ((Eo .i64 (An (r3.val + a1.val)).val 3).val == 0) then Aa (Pk r6) fun r7=>Aa (Rs r7) fun r8=>r8 else (bif ((Eo .i64 (An (r3.val + a1.val)).val 3).val == 1) then Aa (Pl r6) fun r9=>Aa (Rs r9) fun r10=>r10 else (bif ((Eo .i64 (An (r3.val + a1.val)).val 3).val == 2) then Aa (Pk r6) fun r11=>Aa (Q2 r11) fun r12=>Aa (Rs r12) fun r13=>r13 else Aa (Pl r6) fun r14=>Aa (Q2 r14) fun r15=>Aa (Rs r15) fun r16=>r16))))
def Fd (a0 : Iv) (a1 : Iv) : Iv:=
  Aa (El a0 a1) fun r1=>(bif (!r1) then Aa (B5) fun r2=>r2 else (⟨(mn a0.lo a1.lo),(mx a0.hi a1.hi)⟩ : Iv))
def Lk (a0 : Iv) (a1 : Iv) : Bool:=
  Aa (Uq a0 a1) fun r1=>r1.2
def Eb : Nat → Iv → Aq → List Aq → List Aq
  | 0,_,_,acc=>acc
  | fu + 1,a0,x_k,acc=>Aa (En a0.hi) fun r1=>(bif (decide (x_k.val ≤ (An (r1.val + 1)).val)) then Aa (H7 x_k) fun r2=>Aa (Lk r2 a0) fun r3=>(bif r3 then Eb fu a0 (An (x_k.val + 1)) (acc ++ [x_k]) else Eb fu a0 (An (x_k.val + 1)) acc) else acc)
def Pe (a0 : Iv) : List Aq:=Aa (En a0.lo) fun r1=>Eb ((2000 - (An (r1.val - 1)).val).toNat + 1) a0 (An (r1.val - 1)) []
def Fg : Nat → Aq → List Aq → Iv → Aq → Iv → Iv
  | 0,_,_,_,_,_=>(⟨(Ah 0),(Ah 0)⟩ : Iv)
  | fu + 1,a1,r7,a0,x_24,y_2=>(bif (decide (x_24.val < (((r7.length : Nat) : Int)))) then (bif ((Eo .i64 (An ((Lb r7 x_24).val + a1.val)).val 3).val == 1) then Aa (A0 (Ah 1)) fun r10=>Aa (Fd y_2 r10) fun r11=>Fg fu a1 r7 a0 (An (x_24.val + 1)) r11 else (bif ((Eo .i64 (An ((Lb r7 x_24).val + a1.val)).val 3).val == 3) then Aa (A0 (Ah (-1))) fun r13=>Aa (Fd y_2 r13) fun r14=>Fg fu a1 r7 a0 (An (x_24.val + 1)) r14 else Fg fu a1 r7 a0 (An (x_24.val + 1)) y_2)) else y_2)
def M9 (a0 : Iv) (a1 : Aq) : Iv:=
  Aa (Pf a0) fun r1=>(bif (!r1) then Aa (Tw) fun r3=>r3 else Aa (Jb a0.lo a1) fun r4=>Aa (Jb a0.hi a1) fun r5=>Aa (Fd r4 r5) fun r6=>Aa (Pe a0) fun r7=>Fg (((r7.length : Nat) : Int).toNat + 1) a1 r7 a0 (Ah 0) r6)
def G4 (a0 : Iv) : Iv:=
  Aa (M9 a0 (Ah 1)) fun r1=>r1
def Nd (a0 : Pt) : Iv:=
  Aa (Ew a0) fun r1=>(bif (!r1) then Aa (B5) fun r2=>r2 else Aa (Id a0.lat) fun r3=>r3)
def R5 (a0 : Iv) (a1 : Iv) : Iv × Iv × Aq:=
  Aa (El a0 a1) fun r1=>(bif (!r1) then ((⟨(Ah 0),(Ah 0)⟩ : Iv),(⟨(Ah 0),(Ah 0)⟩ : Iv),(Ah 9)) else (a0,a1,(Ah 0)))
def Q4 (a0 : Aq) (a1 : Aq) : Aq × Bool:=
  Aa (H8 a0 (Ah 4294967296) a1) fun r1=>Aa (Og r1.1 r1.2) fun r2=>(r2.1,r2.2)
def Sg (a0 : Aq) (a1 : Aq) (a2 : Aq) : Aq × Bool:=
  Aa (Hl a0 a1) fun r1=>Aa (Pg r1 a2) fun r2=>(bif (!r2.2.2) then ((Ah 0),false) else Aa (Qz r2.1) fun r3=>(bif (!r3.2) then ((Ah 0),false) else (bif (decide (r2.2.1.val > 0)) then (bif (r3.1.val == 9223372036854775807) then ((Ah 0),false) else (bif (decide (r2.2.1.val > 0)) then ((An (r3.1.val + 1)),true) else (r3.1,true))) else (bif (decide (r2.2.1.val > 0)) then ((An (r3.1.val + 1)),true) else (r3.1,true)))))
def Su (a0 : Aq) (a1 : Aq) : Aq × Bool:=
  Aa (Sg a0 (Ah 4294967296) a1) fun r1=>Aa (Og r1.1 r1.2) fun r2=>(r2.1,r2.2)
def Dh (a0 : Aq) (a1 : Aq) : Iv:=
  (bif (decide (a1.val < 0)) then (bif (decide ((An (0 - a1.val)).val < 0)) then Aa (B5) fun r1=>r1 else (bif ((An (0 - a0.val)).val == (-9223372036854775808)) then Aa (B5) fun r2=>r2 else Aa (Q4 (An (0 - a0.val)) (An (0 - a1.val))) fun r3=>Aa (Su (An (0 - a0.val)) (An (0 - a1.val))) fun r4=>(bif r3.2 then Aa (Ej r3.1 r4.1 r4.2) fun r5=>r5 else Aa (Ej r3.1 r4.1 false) fun r6=>r6))) else Aa (Q4 a0 a1) fun r7=>Aa (Su a0 a1) fun r8=>(bif r7.2 then Aa (Ej r7.1 r8.1 r8.2) fun r9=>r9 else Aa (Ej r7.1 r8.1 false) fun r10=>r10))
def K1 (a0 : Pj) (a1 : Pt) : Iv × Iv × Aq:=
  Aa (D6 a0) fun r1=>(bif (!r1) then ((⟨(Ah 0),(Ah 0)⟩ : Iv),(⟨(Ah 0),(Ah 0)⟩ : Iv),(Ah 1)) else Aa (Ew a1) fun r2=>(bif (!r2) then ((⟨(Ah 0),(Ah 0)⟩ : Iv),(⟨(Ah 0),(Ah 0)⟩ : Iv),(Ah 1)) else Aa (J3 a0.kind) fun r3=>(bif (!r3) then ((⟨(Ah 0),(Ah 0)⟩ : Iv),(⟨(Ah 0),(Ah 0)⟩ : Iv),(Ah 1)) else Aa (Tx a1) fun r4=>(bif r4 then ((⟨(Ah 0),(Ah 0)⟩ : Iv),(⟨(Ah 0),(Ah 0)⟩ : Iv),(Ah 8)) else Aa (Id a0.lat1) fun r5=>Aa (G4 r5) fun r6=>Aa (Nd a1) fun r7=>Aa (G4 r7) fun r8=>Aa (A0 (Ah 1)) fun r9=>Aa (C2 r9 r8) fun r10=>(bif (a0.kind.val == 1) then Aa (A0 (Ah 1)) fun r11=>Aa (C2 r6 r8) fun r12=>Aa (R5 r11 r12) fun r13=>(r13.1,r13.2.1,r13.2.2) else (bif (a0.kind.val == 2) then Aa (R5 r10 r10) fun r14=>(r14.1,r14.2.1,r14.2.2) else (bif (a0.kind.val == 3) then Aa (C2 r8 r6) fun r15=>Aa (C2 r6 r8) fun r16=>Aa (R5 r15 r16) fun r17=>(r17.1,r17.2.1,r17.2.2) else Aa (A0 (Ah 1)) fun r18=>Aa (Dh (Ah 4) (Ah 5)) fun r19=>Aa (Nd a1) fun r20=>Aa (B0 r19 r20) fun r21=>Aa (G4 r21) fun r22=>Aa (C2 r18 r22) fun r23=>Aa (R5 r23 r10) fun r24=>(r24.1,r24.2.1,r24.2.2))))))))
def K0 (a0 : Pj) : Bool:=
  Aa (D6 a0) fun r1=>(bif r1 then Aa (Ja a0.kind) fun r2=>r2 else false)
def Dq (a0 : Pj) : Pt:=
  (⟨a0.lat0,a0.lon0⟩ : Pt)
def Na (a0 : Aq) : Aq:=
  (bif (decide ((Jl a0 3600000000).val > 1800000000)) then (An ((Jl a0 3600000000).val - 3600000000)) else (bif (decide ((Jl a0 3600000000).val ≤ (-1800000000))) then (An ((Jl a0 3600000000).val + 3600000000)) else (Jl a0 3600000000)))
def Mm (a0 : Pt) (a1 : Pt) : Iv:=
  Aa (Na (An (a1.lon.val - a0.lon.val))) fun r1=>Aa (Id r1) fun r2=>r2
def Lj (a0 : Iv) : Iv:=
  Aa (M9 a0 (Ah 0)) fun r1=>r1
def Vy (a0 : Iv) (a1 : Iv) (a2 : Iv) : Vc:=
  Aa (G4 a1) fun r1=>Aa (Lj a2) fun r2=>Aa (B0 r1 r2) fun r3=>Aa (G4 a0) fun r4=>Aa (Lj a1) fun r5=>Aa (B0 r4 r5) fun r6=>Aa (Lj a0) fun r7=>Aa (G4 a1) fun r8=>Aa (B0 r7 r8) fun r9=>Aa (G4 a2) fun r10=>Aa (B0 r9 r10) fun r11=>Aa (Em r6 r11) fun r12=>Aa (Lj a0) fun r13=>Aa (Lj a1) fun r14=>Aa (B0 r13 r14) fun r15=>Aa (G4 a0) fun r16=>Aa (G4 a1) fun r17=>Aa (B0 r16 r17) fun r18=>Aa (G4 a2) fun r19=>Aa (B0 r18 r19) fun r20=>Aa (Dc r15 r20) fun r21=>(⟨r3,r12,r21⟩ : Vc)
def V0 (a0 : Pj) (a1 : Pt) : Vc × Aq:=
  Aa (K0 a0) fun r1=>(bif (!r1) then ((⟨(⟨(Ah 0),(Ah 0)⟩ : Iv),(⟨(Ah 0),(Ah 0)⟩ : Iv),(⟨(Ah 0),(Ah 0)⟩ : Iv)⟩ : Vc),(Ah 1)) else Aa (Ew a1) fun r2=>(bif (!r2) then ((⟨(⟨(Ah 0),(Ah 0)⟩ : Iv),(⟨(Ah 0),(Ah 0)⟩ : Iv),(⟨(Ah 0),(Ah 0)⟩ : Iv)⟩ : Vc),(Ah 1)) else Aa (Dq a0) fun r3=>Aa (Nd r3) fun r4=>Aa (Nd a1) fun r5=>Aa (Dq a0) fun r6=>Aa (Mm r6 a1) fun r7=>Aa (Vy r4 r5 r7) fun r8=>(r8,(Ah 0))))
def T4 (a0 : Pt) : Pt × Aq:=
  Aa (Ew a0) fun r1=>(bif (!r1) then ((⟨(Ah 0),(Ah 0)⟩ : Pt),(Ah 1)) else Aa (Na (An (a0.lon.val + 1800000000))) fun r2=>((⟨(An (0 - a0.lat.val)),r2⟩ : Pt),(Ah 0)))
def Rq (a0 : Pt) (a1 : Pt) : Bool:=
  (bif ((a0.lat.val == a1.lat.val) && (a0.lon.val == a1.lon.val)) then true else Aa (Tx a0) fun r1=>(bif r1 then (a0.lat.val == a1.lat.val) else false))
def Xa (a0 : Iv) (a1 : Iv) : Aq:=
  Aa (El a0 a1) fun r1=>(bif (!r1) then (Ah 2) else (bif (decide (a0.hi.val < a1.lo.val)) then (Ah 1) else (bif (decide (a0.lo.val ≥ a1.hi.val)) then (Ah 0) else (Ah 2))))
def H6 : Nat → Wd → Dp → Aq → Dp × Bool
  | 0,_,_,_=>((Eu 0),false)
  | fu + 1,a0,x_root,x_i=>(bif (decide (x_i.val ≥ 0)) then Aa (Nj (Qg .u64 x_root.val (Ci .u64 1 x_i.val).val) (Qg .u64 x_root.val (Ci .u64 1 x_i.val).val)) fun r3=>(bif (decide (r3.1.val < (Ak a0.hi.val).val)) then H6 fu a0 (Qg .u64 x_root.val (Ci .u64 1 x_i.val).val) (An (x_i.val - 1)) else (bif (r3.1.val == (Ak a0.hi.val).val) then (bif (decide (r3.2.val ≤ a0.lo.val)) then H6 fu a0 (Qg .u64 x_root.val (Ci .u64 1 x_i.val).val) (An (x_i.val - 1)) else H6 fu a0 x_root (An (x_i.val - 1))) else H6 fu a0 x_root (An (x_i.val - 1)))) else (x_root,true))
def Qy (a0 : Wd) : Dp × Bool:=
  (bif (decide (a0.hi.val < 0)) then ((Eu 0),false) else H6 65 a0 (Eu 0) (Ah 63))
def Pi (a0 : Aq) (a1 : Aq) : Aq × Bool:=
  (bif (decide (a0.val < 0)) then ((Ah 0),false) else (bif (decide (a1.val < 0)) then ((Ah 0),false) else Aa (Hl a0 a1) fun r1=>Aa (Qy r1) fun r2=>((An r2.1.val),r2.2)))
def Q1 (a0 : Aq) : Aq × Bool:=
  Aa (Fr a0) fun r1=>(bif (!r1) then ((Ah 0),false) else Aa (Pi a0 (Ah 4294967296)) fun r2=>Aa (Og r2.1 r2.2) fun r3=>(r3.1,r3.2))
def Yp (a0 : Aq) : Aq × Bool:=
  Aa (Q1 a0) fun r1=>(bif r1.2 then Aa (Hl r1.1 r1.1) fun r2=>Aa (Hl a0 (Ah 4294967296)) fun r3=>(bif (!((r2.hi.val == r3.hi.val) && (r2.lo.val == r3.lo.val))) then Aa (Og (An (r1.1.val + 1)) r1.2) fun r4=>(r4.1,r4.2) else Aa (Og r1.1 r1.2) fun r5=>(r5.1,r5.2)) else Aa (Og r1.1 r1.2) fun r6=>(r6.1,r6.2))
def Sh (a0 : Iv) : Iv:=
  Aa (Dk a0) fun r1=>(bif r1 then Aa (B5) fun r2=>r2 else (bif (decide (a0.lo.val < 0)) then Aa (B5) fun r3=>r3 else Aa (Q1 a0.lo) fun r4=>Aa (Yp a0.hi) fun r5=>(bif r4.2 then Aa (Ej r4.1 r5.1 r5.2) fun r6=>r6 else Aa (Ej r4.1 r5.1 false) fun r7=>r7)))
def Ph (a0 : Wd) (a1 : Wd) : Wd × Bool:=
  (bif (decide ((Eo .i64 (Mu .i64 a0.hi.val (An (L2 (Ak a0.hi.val) (Ak a1.hi.val) (Lg a0.lo a1.lo (Eu 0))).val).val).val (Mu .i64 a1.hi.val (An (L2 (Ak a0.hi.val) (Ak a1.hi.val) (Lg a0.lo a1.lo (Eu 0))).val).val).val).val < 0)) then ((⟨(Ah 0),(Eu 0)⟩ : Wd),false) else ((⟨(An (L2 (Ak a0.hi.val) (Ak a1.hi.val) (Lg a0.lo a1.lo (Eu 0))).val),(L2 a0.lo a1.lo (Eu 0))⟩ : Wd),true))
def Ln (a0 : Aq) (a1 : Aq) (a2 : Aq) : Aq × Aq:=
  Aa (Hl a0 a0) fun r1=>Aa (Hl a1 a1) fun r2=>Aa (Ph r1 r2) fun r3=>Aa (Hl a2 a2) fun r4=>Aa (Ph r3.1 r4) fun r5=>Aa (Qy r5.1) fun r6=>Aa (Hl (An r6.1.val) (An r6.1.val)) fun r7=>(bif (!((r7.hi.val == r5.1.hi.val) && (r7.lo.val == r5.1.lo.val))) then ((An r6.1.val),(An ((An r6.1.val).val + 1))) else ((An r6.1.val),(An r6.1.val)))
def W9 (a0 : Vc) : Iv:=
  Aa (El a0.x a0.y) fun r1=>(bif (!r1) then Aa (B5) fun r2=>r2 else Aa (Dk a0.z) fun r3=>(bif r3 then Aa (B5) fun r4=>r4 else Aa (R6 a0.x) fun r5=>Aa (R6 a0.y) fun r6=>Aa (R6 a0.z) fun r7=>Aa (Ln r5.lo r6.lo r7.lo) fun r8=>Aa (Ln r5.hi r6.hi r7.hi) fun r9=>Aa (Ej r8.1 r9.2 true) fun r10=>r10))
def Tz (a0 : Vc) : Iv:=
  Aa (W9 (⟨a0.x,a0.y,(⟨(Ah 0),(Ah 0)⟩ : Iv)⟩ : Vc)) fun r1=>r1
def M8 (a0 : Iv) : Bool:=
  Aa (Gc a0) fun r1=>(bif r1 then (decide (a0.lo.val > 0)) else false)
end Go.Proofs.YtfhnlkinjbakgaaGreat.Abs
