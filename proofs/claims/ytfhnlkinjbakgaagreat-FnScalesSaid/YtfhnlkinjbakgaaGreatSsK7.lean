/- The program's functions are these; part 7 (written by w.py). -/
import Derived.Test.YtfhnlkinjbakgaaGreatSsE
import Derived.Test.YtfhnlkinjbakgaaGreatSsF3
import Derived.Test.YtfhnlkinjbakgaaGreatSsQpre
import Derived.Test.YtfhnlkinjbakgaaGreatSsK1
import Derived.Test.YtfhnlkinjbakgaaGreatSsK2
import Derived.Test.YtfhnlkinjbakgaaGreatSsK3
import Derived.Test.YtfhnlkinjbakgaaGreatSsK5
import Derived.Test.YtfhnlkinjbakgaaGreatSsK6
set_option linter.unusedVariables false
set_option linter.unusedSimpArgs false
namespace Go.Proofs.YtfhnlkinjbakgaaGreat.Abs
open Go Go.RowKit
theorem aK (r1 : Bool) (r2 : Pj × Pt) (r3 : Iv × Aq) (r4 : Bool) (r5 : Iv) (r6 : Bool) (r7 : Iv × Iv × Aq) : Ac Tryz.prog 3 (Ou [] (vB (Aa (Al r2.1.kind) fun r9=>(bif r9 then Aa (Bx r7.1 r7.2.1) fun r10=>(bif (!r10) then false else (bif (r3.2.val == 0) then Aa (Ay r7.1 r7.2.1) fun r11=>Aa (Bx r3.1 r11) fun r12=>(bif (!r12) then false else Aa (A5 r2.1 r2.2) fun r13=>(bif (r13.2.val != 0) then (r13.2.val == 9) else (bif (decide (r13.1.hi.val ≥ 0)) then Aa (Al r2.1.kind) fun r14=>(bif (!r14) then Aa (Al r2.1.kind) fun r15=>(bif (r15 == false) then true else Aa (Ar r2.1.kind) fun r16=>(r16 == false)) else Aa (Dx r13.1 (Ah 0)) fun r17=>(bif r17 then Aa (Al r2.1.kind) fun r18=>(bif (r18 == false) then true else Aa (Ar r2.1.kind) fun r19=>(r19 == false)) else false)) else false))) else Aa (A5 r2.1 r2.2) fun r20=>(bif (r20.2.val != 0) then (r20.2.val == 9) else (bif (decide (r20.1.hi.val ≥ 0)) then Aa (Al r2.1.kind) fun r21=>(bif (!r21) then Aa (Al r2.1.kind) fun r22=>(bif (r22 == false) then true else Aa (Ar r2.1.kind) fun r23=>(r23 == false)) else Aa (Dx r20.1 (Ah 0)) fun r24=>(bif r24 then Aa (Al r2.1.kind) fun r25=>(bif (r25 == false) then true else Aa (Ar r2.1.kind) fun r26=>(r26 == false)) else false)) else false)))) else (bif (r3.2.val == 0) then Aa (Ay r7.1 r7.2.1) fun r27=>Aa (Bx r3.1 r27) fun r28=>(bif (!r28) then false else Aa (A5 r2.1 r2.2) fun r29=>(bif (r29.2.val != 0) then (r29.2.val == 9) else (bif (decide (r29.1.hi.val ≥ 0)) then Aa (Al r2.1.kind) fun r30=>(bif (!r30) then Aa (Al r2.1.kind) fun r31=>(bif (r31 == false) then true else Aa (Ar r2.1.kind) fun r32=>(r32 == false)) else Aa (Dx r29.1 (Ah 0)) fun r33=>(bif r33 then Aa (Al r2.1.kind) fun r34=>(bif (r34 == false) then true else Aa (Ar r2.1.kind) fun r35=>(r35 == false)) else false)) else false))) else Aa (A5 r2.1 r2.2) fun r36=>(bif (r36.2.val != 0) then (r36.2.val == 9) else (bif (decide (r36.1.hi.val ≥ 0)) then Aa (Al r2.1.kind) fun r37=>(bif (!r37) then Aa (Al r2.1.kind) fun r38=>(bif (r38 == false) then true else Aa (Ar r2.1.kind) fun r39=>(r39 == false)) else Aa (Dx r36.1 (Ah 0)) fun r40=>(bif r40 then Aa (Al r2.1.kind) fun r41=>(bif (r41 == false) then true else Aa (Ar r2.1.kind) fun r42=>(r42 == false)) else false)) else false))))))) ((((((((((((((((((Sy Tryz.prog E Tryz.f3 400 [] #[.slice none 0 0]).after (vB r1)).no).after (Dy r2)).after (By r3)).yes).path [true,true]).after (vB r4)).path [true]).yes).path [true]).after (Af r5)).path [true]).after (vB r6)).path [true,true]).no).after (Au r7)).no):=by
 refine Ac.q (e:=vB) (gv:=vB) (Ap _) fun r9 _=>?_
 refine Ac.y (gv:=vB) (fun _=>?_) (fun _=>?_)
 ·refine Ac.z [true,true] ?_
  refine Ac.q (e:=vB) (gv:=vB) (Ec _ _) fun r10 _=>?_
  refine Ac.z [true,true] ?_
  refine Ac.y (gv:=vB) (fun _=>?_) (fun _=>?_)
  ·refine Ac.z [true,true,true,true,true] ?_
   exact Ac.x 0
  ·refine Ac.z [false,false] ?_
   refine Ac.y (gv:=vB) (fun _=>?_) (fun _=>?_)
   ·refine Ac.z [true,true,true] ?_
    refine Ac.q (e:=Af) (gv:=vB) (Oc _ _) fun r11 _=>?_
    refine Ac.z [true] ?_
    refine Ac.q (e:=vB) (gv:=vB) (Ec _ _) fun r12 _=>?_
    refine Ac.z [true,false,true,false] ?_
    refine Ac.y (gv:=vB) (fun _=>?_) (fun _=>?_)
    ·exact Ac.x 0
    ·refine Ac.q (e:=By) (gv:=vB) (Bu _ _) fun r13 _=>?_
     refine Ac.y (gv:=vB) (fun _=>?_) (fun _=>?_)
     ·exact Ac.x 0
     ·refine Ac.y (gv:=vB) (fun _=>?_) (fun _=>?_)
      ·refine Ac.z [true,true] ?_
       refine Ac.q (e:=vB) (gv:=vB) (Ap _) fun r14 _=>?_
       refine Ac.z [true,true] ?_
       refine Ac.y (gv:=vB) (fun _=>?_) (fun _=>?_)
       ·refine Ac.z [true,true,true,true,true,true,true] ?_
        refine Ac.q (e:=vB) (gv:=vB) (Ap _) fun r15 _=>?_
        refine Ac.z [true,true] ?_
        refine Ac.y (gv:=vB) (fun _=>?_) (fun _=>?_)
        ·refine Ac.z [true,true,true,true,true,true] ?_
         exact Ac.x 0
        ·refine Ac.z [false,false] ?_
         refine Ac.q (e:=vB) (gv:=vB) (A6 _) fun r16 _=>?_
         refine Ac.z [false,true,false,true] ?_
         exact Ac.x 0
       ·refine Ac.z [false] ?_
        refine Ac.q (e:=vB) (gv:=vB) (Hb _ _) fun r17 _=>?_
        refine Ac.z [true,false,true] ?_
        refine Ac.y (gv:=vB) (fun _=>?_) (fun _=>?_)
        ·refine Ac.z [true,true] ?_
         refine Ac.q (e:=vB) (gv:=vB) (Ap _) fun r18 _=>?_
         refine Ac.z [true,true] ?_
         refine Ac.y (gv:=vB) (fun _=>?_) (fun _=>?_)
         ·refine Ac.z [true,true,true,true,true,true] ?_
          exact Ac.x 0
         ·refine Ac.z [false,false] ?_
          refine Ac.q (e:=vB) (gv:=vB) (A6 _) fun r19 _=>?_
          refine Ac.z [false,true,false,true] ?_
          exact Ac.x 0
        ·refine Ac.z [false,false,false,false,false,false] ?_
         exact Ac.x 0
      ·refine Ac.z [false,false,false,false,false,false,false,false,false,false,false,false,false] ?_
       exact Ac.x 0
   ·refine Ac.z [false,false,false,false,false,false,false,false,false] ?_
    refine Ac.q (e:=By) (gv:=vB) (Bu _ _) fun r20 _=>?_
    refine Ac.y (gv:=vB) (fun _=>?_) (fun _=>?_)
    ·exact Ac.x 0
    ·refine Ac.y (gv:=vB) (fun _=>?_) (fun _=>?_)
     ·refine Ac.z [true,true] ?_
      refine Ac.q (e:=vB) (gv:=vB) (Ap _) fun r21 _=>?_
      refine Ac.z [true,true] ?_
      refine Ac.y (gv:=vB) (fun _=>?_) (fun _=>?_)
      ·refine Ac.z [true,true,true,true,true,true,true] ?_
       refine Ac.q (e:=vB) (gv:=vB) (Ap _) fun r22 _=>?_
       refine Ac.z [true,true] ?_
       refine Ac.y (gv:=vB) (fun _=>?_) (fun _=>?_)
       ·refine Ac.z [true,true,true,true,true,true] ?_
        exact Ac.x 0
       ·refine Ac.z [false,false] ?_
        refine Ac.q (e:=vB) (gv:=vB) (A6 _) fun r23 _=>?_
        refine Ac.z [false,true,false,true] ?_
        exact Ac.x 0
      ·refine Ac.z [false] ?_
       refine Ac.q (e:=vB) (gv:=vB) (Hb _ _) fun r24 _=>?_
       refine Ac.z [true,false,true] ?_
       refine Ac.y (gv:=vB) (fun _=>?_) (fun _=>?_)
       ·refine Ac.z [true,true] ?_
        refine Ac.q (e:=vB) (gv:=vB) (Ap _) fun r25 _=>?_
        refine Ac.z [true,true] ?_
        refine Ac.y (gv:=vB) (fun _=>?_) (fun _=>?_)
        ·refine Ac.z [true,true,true,true,true,true] ?_
         exact Ac.x 0
        ·refine Ac.z [false,false] ?_
         refine Ac.q (e:=vB) (gv:=vB) (A6 _) fun r26 _=>?_
         refine Ac.z [false,true,false,true] ?_
         exact Ac.x 0
       ·refine Ac.z [false,false,false,false,false,false] ?_
        exact Ac.x 0
     ·refine Ac.z [false,false,false,false,false,false,false,false,false,false,false,false,false] ?_
      exact Ac.x 0
 ·refine Ac.z [false,false,false,false,false,false,false] ?_
  refine Ac.y (gv:=vB) (fun _=>?_) (fun _=>?_)
  ·refine Ac.z [true,true,true] ?_
   refine Ac.q (e:=Af) (gv:=vB) (Oc _ _) fun r27 _=>?_
   refine Ac.z [true] ?_
   refine Ac.q (e:=vB) (gv:=vB) (Ec _ _) fun r28 _=>?_
   refine Ac.z [true,false,true,false] ?_
   refine Ac.y (gv:=vB) (fun _=>?_) (fun _=>?_)
   ·exact Ac.x 0
   ·refine Ac.q (e:=By) (gv:=vB) (Bu _ _) fun r29 _=>?_
    refine Ac.y (gv:=vB) (fun _=>?_) (fun _=>?_)
    ·exact Ac.x 0
    ·refine Ac.y (gv:=vB) (fun _=>?_) (fun _=>?_)
     ·refine Ac.z [true,true] ?_
      refine Ac.q (e:=vB) (gv:=vB) (Ap _) fun r30 _=>?_
      refine Ac.z [true,true] ?_
      refine Ac.y (gv:=vB) (fun _=>?_) (fun _=>?_)
      ·refine Ac.z [true,true,true,true,true,true,true] ?_
       refine Ac.q (e:=vB) (gv:=vB) (Ap _) fun r31 _=>?_
       refine Ac.z [true,true] ?_
       refine Ac.y (gv:=vB) (fun _=>?_) (fun _=>?_)
       ·refine Ac.z [true,true,true,true,true,true] ?_
        exact Ac.x 0
       ·refine Ac.z [false,false] ?_
        refine Ac.q (e:=vB) (gv:=vB) (A6 _) fun r32 _=>?_
        refine Ac.z [false,true,false,true] ?_
        exact Ac.x 0
      ·refine Ac.z [false] ?_
       refine Ac.q (e:=vB) (gv:=vB) (Hb _ _) fun r33 _=>?_
       refine Ac.z [true,false,true] ?_
       refine Ac.y (gv:=vB) (fun _=>?_) (fun _=>?_)
       ·refine Ac.z [true,true] ?_
        refine Ac.q (e:=vB) (gv:=vB) (Ap _) fun r34 _=>?_
        refine Ac.z [true,true] ?_
        refine Ac.y (gv:=vB) (fun _=>?_) (fun _=>?_)
        ·refine Ac.z [true,true,true,true,true,true] ?_
         exact Ac.x 0
        ·refine Ac.z [false,false] ?_
         refine Ac.q (e:=vB) (gv:=vB) (A6 _) fun r35 _=>?_
         refine Ac.z [false,true,false,true] ?_
         exact Ac.x 0
       ·refine Ac.z [false,false,false,false,false,false] ?_
        exact Ac.x 0
     ·refine Ac.z [false,false,false,false,false,false,false,false,false,false,false,false,false] ?_
      exact Ac.x 0
  ·refine Ac.z [false,false,false,false,false,false,false,false,false] ?_
   refine Ac.q (e:=By) (gv:=vB) (Bu _ _) fun r36 _=>?_
   refine Ac.y (gv:=vB) (fun _=>?_) (fun _=>?_)
   ·exact Ac.x 0
   ·refine Ac.y (gv:=vB) (fun _=>?_) (fun _=>?_)
    ·refine Ac.z [true,true] ?_
     refine Ac.q (e:=vB) (gv:=vB) (Ap _) fun r37 _=>?_
     refine Ac.z [true,true] ?_
     refine Ac.y (gv:=vB) (fun _=>?_) (fun _=>?_)
     ·refine Ac.z [true,true,true,true,true,true,true] ?_
      refine Ac.q (e:=vB) (gv:=vB) (Ap _) fun r38 _=>?_
      refine Ac.z [true,true] ?_
      refine Ac.y (gv:=vB) (fun _=>?_) (fun _=>?_)
      ·refine Ac.z [true,true,true,true,true,true] ?_
       exact Ac.x 0
      ·refine Ac.z [false,false] ?_
       refine Ac.q (e:=vB) (gv:=vB) (A6 _) fun r39 _=>?_
       refine Ac.z [false,true,false,true] ?_
       exact Ac.x 0
     ·refine Ac.z [false] ?_
      refine Ac.q (e:=vB) (gv:=vB) (Hb _ _) fun r40 _=>?_
      refine Ac.z [true,false,true] ?_
      refine Ac.y (gv:=vB) (fun _=>?_) (fun _=>?_)
      ·refine Ac.z [true,true] ?_
       refine Ac.q (e:=vB) (gv:=vB) (Ap _) fun r41 _=>?_
       refine Ac.z [true,true] ?_
       refine Ac.y (gv:=vB) (fun _=>?_) (fun _=>?_)
       ·refine Ac.z [true,true,true,true,true,true] ?_
        exact Ac.x 0
       ·refine Ac.z [false,false] ?_
        refine Ac.q (e:=vB) (gv:=vB) (A6 _) fun r42 _=>?_
        refine Ac.z [false,true,false,true] ?_
        exact Ac.x 0
      ·refine Ac.z [false,false,false,false,false,false] ?_
       exact Ac.x 0
    ·refine Ac.z [false,false,false,false,false,false,false,false,false,false,false,false,false] ?_
     exact Ac.x 0
theorem aJ (r1 : Bool) (r2 : Pj × Pt) (r3 : Iv × Aq) (r4 : Bool) (r43 : Iv × Iv × Aq) : Ac Tryz.prog 3 (Ou [] (vB (Aa (Al r2.1.kind) fun r45=>(bif r45 then Aa (Bx r43.1 r43.2.1) fun r46=>(bif (!r46) then false else (bif (r3.2.val == 0) then Aa (Ay r43.1 r43.2.1) fun r47=>Aa (Bx r3.1 r47) fun r48=>(bif (!r48) then false else Aa (A5 r2.1 r2.2) fun r49=>(bif (r49.2.val != 0) then (r49.2.val == 9) else (bif (decide (r49.1.hi.val ≥ 0)) then Aa (Al r2.1.kind) fun r50=>(bif (!r50) then Aa (Al r2.1.kind) fun r51=>(bif (r51 == false) then true else Aa (Ar r2.1.kind) fun r52=>(r52 == false)) else Aa (Dx r49.1 (Ah 0)) fun r53=>(bif r53 then Aa (Al r2.1.kind) fun r54=>(bif (r54 == false) then true else Aa (Ar r2.1.kind) fun r55=>(r55 == false)) else false)) else false))) else Aa (A5 r2.1 r2.2) fun r56=>(bif (r56.2.val != 0) then (r56.2.val == 9) else (bif (decide (r56.1.hi.val ≥ 0)) then Aa (Al r2.1.kind) fun r57=>(bif (!r57) then Aa (Al r2.1.kind) fun r58=>(bif (r58 == false) then true else Aa (Ar r2.1.kind) fun r59=>(r59 == false)) else Aa (Dx r56.1 (Ah 0)) fun r60=>(bif r60 then Aa (Al r2.1.kind) fun r61=>(bif (r61 == false) then true else Aa (Ar r2.1.kind) fun r62=>(r62 == false)) else false)) else false)))) else (bif (r3.2.val == 0) then Aa (Ay r43.1 r43.2.1) fun r63=>Aa (Bx r3.1 r63) fun r64=>(bif (!r64) then false else Aa (A5 r2.1 r2.2) fun r65=>(bif (r65.2.val != 0) then (r65.2.val == 9) else (bif (decide (r65.1.hi.val ≥ 0)) then Aa (Al r2.1.kind) fun r66=>(bif (!r66) then Aa (Al r2.1.kind) fun r67=>(bif (r67 == false) then true else Aa (Ar r2.1.kind) fun r68=>(r68 == false)) else Aa (Dx r65.1 (Ah 0)) fun r69=>(bif r69 then Aa (Al r2.1.kind) fun r70=>(bif (r70 == false) then true else Aa (Ar r2.1.kind) fun r71=>(r71 == false)) else false)) else false))) else Aa (A5 r2.1 r2.2) fun r72=>(bif (r72.2.val != 0) then (r72.2.val == 9) else (bif (decide (r72.1.hi.val ≥ 0)) then Aa (Al r2.1.kind) fun r73=>(bif (!r73) then Aa (Al r2.1.kind) fun r74=>(bif (r74 == false) then true else Aa (Ar r2.1.kind) fun r75=>(r75 == false)) else Aa (Dx r72.1 (Ah 0)) fun r76=>(bif r76 then Aa (Al r2.1.kind) fun r77=>(bif (r77 == false) then true else Aa (Ar r2.1.kind) fun r78=>(r78 == false)) else false)) else false))))))) (((((((((((((Sy Tryz.prog E Tryz.f3 400 [] #[.slice none 0 0]).after (vB r1)).no).after (Dy r2)).after (By r3)).yes).path [true,true]).after (vB r4)).path [true]).no).path [false,false,false,false,false]).after (Au r43)).no):=by
 refine Ac.q (e:=vB) (gv:=vB) (Ap _) fun r45 _=>?_
 refine Ac.y (gv:=vB) (fun _=>?_) (fun _=>?_)
 ·refine Ac.z [true,true] ?_
  refine Ac.q (e:=vB) (gv:=vB) (Ec _ _) fun r46 _=>?_
  refine Ac.z [true,true] ?_
  refine Ac.y (gv:=vB) (fun _=>?_) (fun _=>?_)
  ·refine Ac.z [true,true,true,true,true] ?_
   exact Ac.x 0
  ·refine Ac.z [false,false] ?_
   refine Ac.y (gv:=vB) (fun _=>?_) (fun _=>?_)
   ·refine Ac.z [true,true,true] ?_
    refine Ac.q (e:=Af) (gv:=vB) (Oc _ _) fun r47 _=>?_
    refine Ac.z [true] ?_
    refine Ac.q (e:=vB) (gv:=vB) (Ec _ _) fun r48 _=>?_
    refine Ac.z [true,false,true,false] ?_
    refine Ac.y (gv:=vB) (fun _=>?_) (fun _=>?_)
    ·exact Ac.x 0
    ·refine Ac.q (e:=By) (gv:=vB) (Bu _ _) fun r49 _=>?_
     refine Ac.y (gv:=vB) (fun _=>?_) (fun _=>?_)
     ·exact Ac.x 0
     ·refine Ac.y (gv:=vB) (fun _=>?_) (fun _=>?_)
      ·refine Ac.z [true,true] ?_
       refine Ac.q (e:=vB) (gv:=vB) (Ap _) fun r50 _=>?_
       refine Ac.z [true,true] ?_
       refine Ac.y (gv:=vB) (fun _=>?_) (fun _=>?_)
       ·refine Ac.z [true,true,true,true,true,true,true] ?_
        refine Ac.q (e:=vB) (gv:=vB) (Ap _) fun r51 _=>?_
        refine Ac.z [true,true] ?_
        refine Ac.y (gv:=vB) (fun _=>?_) (fun _=>?_)
        ·refine Ac.z [true,true,true,true,true,true] ?_
         exact Ac.x 0
        ·refine Ac.z [false,false] ?_
         refine Ac.q (e:=vB) (gv:=vB) (A6 _) fun r52 _=>?_
         refine Ac.z [false,true,false,true] ?_
         exact Ac.x 0
       ·refine Ac.z [false] ?_
        refine Ac.q (e:=vB) (gv:=vB) (Hb _ _) fun r53 _=>?_
        refine Ac.z [true,false,true] ?_
        refine Ac.y (gv:=vB) (fun _=>?_) (fun _=>?_)
        ·refine Ac.z [true,true] ?_
         refine Ac.q (e:=vB) (gv:=vB) (Ap _) fun r54 _=>?_
         refine Ac.z [true,true] ?_
         refine Ac.y (gv:=vB) (fun _=>?_) (fun _=>?_)
         ·refine Ac.z [true,true,true,true,true,true] ?_
          exact Ac.x 0
         ·refine Ac.z [false,false] ?_
          refine Ac.q (e:=vB) (gv:=vB) (A6 _) fun r55 _=>?_
          refine Ac.z [false,true,false,true] ?_
          exact Ac.x 0
        ·refine Ac.z [false,false,false,false,false,false] ?_
         exact Ac.x 0
      ·refine Ac.z [false,false,false,false,false,false,false,false,false,false,false,false,false] ?_
       exact Ac.x 0
   ·refine Ac.z [false,false,false,false,false,false,false,false,false] ?_
    refine Ac.q (e:=By) (gv:=vB) (Bu _ _) fun r56 _=>?_
    refine Ac.y (gv:=vB) (fun _=>?_) (fun _=>?_)
    ·exact Ac.x 0
    ·refine Ac.y (gv:=vB) (fun _=>?_) (fun _=>?_)
     ·refine Ac.z [true,true] ?_
      refine Ac.q (e:=vB) (gv:=vB) (Ap _) fun r57 _=>?_
      refine Ac.z [true,true] ?_
      refine Ac.y (gv:=vB) (fun _=>?_) (fun _=>?_)
      ·refine Ac.z [true,true,true,true,true,true,true] ?_
       refine Ac.q (e:=vB) (gv:=vB) (Ap _) fun r58 _=>?_
       refine Ac.z [true,true] ?_
       refine Ac.y (gv:=vB) (fun _=>?_) (fun _=>?_)
       ·refine Ac.z [true,true,true,true,true,true] ?_
        exact Ac.x 0
       ·refine Ac.z [false,false] ?_
        refine Ac.q (e:=vB) (gv:=vB) (A6 _) fun r59 _=>?_
        refine Ac.z [false,true,false,true] ?_
        exact Ac.x 0
      ·refine Ac.z [false] ?_
       refine Ac.q (e:=vB) (gv:=vB) (Hb _ _) fun r60 _=>?_
       refine Ac.z [true,false,true] ?_
       refine Ac.y (gv:=vB) (fun _=>?_) (fun _=>?_)
       ·refine Ac.z [true,true] ?_
        refine Ac.q (e:=vB) (gv:=vB) (Ap _) fun r61 _=>?_
        refine Ac.z [true,true] ?_
        refine Ac.y (gv:=vB) (fun _=>?_) (fun _=>?_)
        ·refine Ac.z [true,true,true,true,true,true] ?_
         exact Ac.x 0
        ·refine Ac.z [false,false] ?_
         refine Ac.q (e:=vB) (gv:=vB) (A6 _) fun r62 _=>?_
         refine Ac.z [false,true,false,true] ?_
         exact Ac.x 0
       ·refine Ac.z [false,false,false,false,false,false] ?_
        exact Ac.x 0
     ·refine Ac.z [false,false,false,false,false,false,false,false,false,false,false,false,false] ?_
      exact Ac.x 0
 ·refine Ac.z [false,false,false,false,false,false,false] ?_
  refine Ac.y (gv:=vB) (fun _=>?_) (fun _=>?_)
  ·refine Ac.z [true,true,true] ?_
   refine Ac.q (e:=Af) (gv:=vB) (Oc _ _) fun r63 _=>?_
   refine Ac.z [true] ?_
   refine Ac.q (e:=vB) (gv:=vB) (Ec _ _) fun r64 _=>?_
   refine Ac.z [true,false,true,false] ?_
   refine Ac.y (gv:=vB) (fun _=>?_) (fun _=>?_)
   ·exact Ac.x 0
   ·refine Ac.q (e:=By) (gv:=vB) (Bu _ _) fun r65 _=>?_
    refine Ac.y (gv:=vB) (fun _=>?_) (fun _=>?_)
    ·exact Ac.x 0
    ·refine Ac.y (gv:=vB) (fun _=>?_) (fun _=>?_)
     ·refine Ac.z [true,true] ?_
      refine Ac.q (e:=vB) (gv:=vB) (Ap _) fun r66 _=>?_
      refine Ac.z [true,true] ?_
      refine Ac.y (gv:=vB) (fun _=>?_) (fun _=>?_)
      ·refine Ac.z [true,true,true,true,true,true,true] ?_
       refine Ac.q (e:=vB) (gv:=vB) (Ap _) fun r67 _=>?_
       refine Ac.z [true,true] ?_
       refine Ac.y (gv:=vB) (fun _=>?_) (fun _=>?_)
       ·refine Ac.z [true,true,true,true,true,true] ?_
        exact Ac.x 0
       ·refine Ac.z [false,false] ?_
        refine Ac.q (e:=vB) (gv:=vB) (A6 _) fun r68 _=>?_
        refine Ac.z [false,true,false,true] ?_
        exact Ac.x 0
      ·refine Ac.z [false] ?_
       refine Ac.q (e:=vB) (gv:=vB) (Hb _ _) fun r69 _=>?_
       refine Ac.z [true,false,true] ?_
       refine Ac.y (gv:=vB) (fun _=>?_) (fun _=>?_)
       ·refine Ac.z [true,true] ?_
        refine Ac.q (e:=vB) (gv:=vB) (Ap _) fun r70 _=>?_
        refine Ac.z [true,true] ?_
        refine Ac.y (gv:=vB) (fun _=>?_) (fun _=>?_)
        ·refine Ac.z [true,true,true,true,true,true] ?_
         exact Ac.x 0
        ·refine Ac.z [false,false] ?_
         refine Ac.q (e:=vB) (gv:=vB) (A6 _) fun r71 _=>?_
         refine Ac.z [false,true,false,true] ?_
         exact Ac.x 0
       ·refine Ac.z [false,false,false,false,false,false] ?_
        exact Ac.x 0
     ·refine Ac.z [false,false,false,false,false,false,false,false,false,false,false,false,false] ?_
      exact Ac.x 0
  ·refine Ac.z [false,false,false,false,false,false,false,false,false] ?_
   refine Ac.q (e:=By) (gv:=vB) (Bu _ _) fun r72 _=>?_
   refine Ac.y (gv:=vB) (fun _=>?_) (fun _=>?_)
   ·exact Ac.x 0
   ·refine Ac.y (gv:=vB) (fun _=>?_) (fun _=>?_)
    ·refine Ac.z [true,true] ?_
     refine Ac.q (e:=vB) (gv:=vB) (Ap _) fun r73 _=>?_
     refine Ac.z [true,true] ?_
     refine Ac.y (gv:=vB) (fun _=>?_) (fun _=>?_)
     ·refine Ac.z [true,true,true,true,true,true,true] ?_
      refine Ac.q (e:=vB) (gv:=vB) (Ap _) fun r74 _=>?_
      refine Ac.z [true,true] ?_
      refine Ac.y (gv:=vB) (fun _=>?_) (fun _=>?_)
      ·refine Ac.z [true,true,true,true,true,true] ?_
       exact Ac.x 0
      ·refine Ac.z [false,false] ?_
       refine Ac.q (e:=vB) (gv:=vB) (A6 _) fun r75 _=>?_
       refine Ac.z [false,true,false,true] ?_
       exact Ac.x 0
     ·refine Ac.z [false] ?_
      refine Ac.q (e:=vB) (gv:=vB) (Hb _ _) fun r76 _=>?_
      refine Ac.z [true,false,true] ?_
      refine Ac.y (gv:=vB) (fun _=>?_) (fun _=>?_)
      ·refine Ac.z [true,true] ?_
       refine Ac.q (e:=vB) (gv:=vB) (Ap _) fun r77 _=>?_
       refine Ac.z [true,true] ?_
       refine Ac.y (gv:=vB) (fun _=>?_) (fun _=>?_)
       ·refine Ac.z [true,true,true,true,true,true] ?_
        exact Ac.x 0
       ·refine Ac.z [false,false] ?_
        refine Ac.q (e:=vB) (gv:=vB) (A6 _) fun r78 _=>?_
        refine Ac.z [false,true,false,true] ?_
        exact Ac.x 0
      ·refine Ac.z [false,false,false,false,false,false] ?_
       exact Ac.x 0
    ·refine Ac.z [false,false,false,false,false,false,false,false,false,false,false,false,false] ?_
     exact Ac.x 0
theorem aI (r1 : Bool) (r2 : Pj × Pt) (r3 : Iv × Aq) (r79 : Iv × Iv × Aq) : Ac Tryz.prog 3 (Ou [] (vB (Aa (Al r2.1.kind) fun r81=>(bif r81 then Aa (Bx r79.1 r79.2.1) fun r82=>(bif (!r82) then false else (bif (r3.2.val == 0) then Aa (Ay r79.1 r79.2.1) fun r83=>Aa (Bx r3.1 r83) fun r84=>(bif (!r84) then false else Aa (A5 r2.1 r2.2) fun r85=>(bif (r85.2.val != 0) then (r85.2.val == 9) else (bif (decide (r85.1.hi.val ≥ 0)) then Aa (Al r2.1.kind) fun r86=>(bif (!r86) then Aa (Al r2.1.kind) fun r87=>(bif (r87 == false) then true else Aa (Ar r2.1.kind) fun r88=>(r88 == false)) else Aa (Dx r85.1 (Ah 0)) fun r89=>(bif r89 then Aa (Al r2.1.kind) fun r90=>(bif (r90 == false) then true else Aa (Ar r2.1.kind) fun r91=>(r91 == false)) else false)) else false))) else Aa (A5 r2.1 r2.2) fun r92=>(bif (r92.2.val != 0) then (r92.2.val == 9) else (bif (decide (r92.1.hi.val ≥ 0)) then Aa (Al r2.1.kind) fun r93=>(bif (!r93) then Aa (Al r2.1.kind) fun r94=>(bif (r94 == false) then true else Aa (Ar r2.1.kind) fun r95=>(r95 == false)) else Aa (Dx r92.1 (Ah 0)) fun r96=>(bif r96 then Aa (Al r2.1.kind) fun r97=>(bif (r97 == false) then true else Aa (Ar r2.1.kind) fun r98=>(r98 == false)) else false)) else false)))) else (bif (r3.2.val == 0) then Aa (Ay r79.1 r79.2.1) fun r99=>Aa (Bx r3.1 r99) fun r100=>(bif (!r100) then false else Aa (A5 r2.1 r2.2) fun r101=>(bif (r101.2.val != 0) then (r101.2.val == 9) else (bif (decide (r101.1.hi.val ≥ 0)) then Aa (Al r2.1.kind) fun r102=>(bif (!r102) then Aa (Al r2.1.kind) fun r103=>(bif (r103 == false) then true else Aa (Ar r2.1.kind) fun r104=>(r104 == false)) else Aa (Dx r101.1 (Ah 0)) fun r105=>(bif r105 then Aa (Al r2.1.kind) fun r106=>(bif (r106 == false) then true else Aa (Ar r2.1.kind) fun r107=>(r107 == false)) else false)) else false))) else Aa (A5 r2.1 r2.2) fun r108=>(bif (r108.2.val != 0) then (r108.2.val == 9) else (bif (decide (r108.1.hi.val ≥ 0)) then Aa (Al r2.1.kind) fun r109=>(bif (!r109) then Aa (Al r2.1.kind) fun r110=>(bif (r110 == false) then true else Aa (Ar r2.1.kind) fun r111=>(r111 == false)) else Aa (Dx r108.1 (Ah 0)) fun r112=>(bif r112 then Aa (Al r2.1.kind) fun r113=>(bif (r113 == false) then true else Aa (Ar r2.1.kind) fun r114=>(r114 == false)) else false)) else false))))))) (((((((((Sy Tryz.prog E Tryz.f3 400 [] #[.slice none 0 0]).after (vB r1)).no).after (Dy r2)).after (By r3)).no).path [false,false,false,false,false,false,false,false,false]).after (Au r79)).no):=by
 refine Ac.q (e:=vB) (gv:=vB) (Ap _) fun r81 _=>?_
 refine Ac.y (gv:=vB) (fun _=>?_) (fun _=>?_)
 ·refine Ac.z [true,true] ?_
  refine Ac.q (e:=vB) (gv:=vB) (Ec _ _) fun r82 _=>?_
  refine Ac.z [true,true] ?_
  refine Ac.y (gv:=vB) (fun _=>?_) (fun _=>?_)
  ·refine Ac.z [true,true,true,true,true] ?_
   exact Ac.x 0
  ·refine Ac.z [false,false] ?_
   refine Ac.y (gv:=vB) (fun _=>?_) (fun _=>?_)
   ·refine Ac.z [true,true,true] ?_
    refine Ac.q (e:=Af) (gv:=vB) (Oc _ _) fun r83 _=>?_
    refine Ac.z [true] ?_
    refine Ac.q (e:=vB) (gv:=vB) (Ec _ _) fun r84 _=>?_
    refine Ac.z [true,false,true,false] ?_
    refine Ac.y (gv:=vB) (fun _=>?_) (fun _=>?_)
    ·exact Ac.x 0
    ·refine Ac.q (e:=By) (gv:=vB) (Bu _ _) fun r85 _=>?_
     refine Ac.y (gv:=vB) (fun _=>?_) (fun _=>?_)
     ·exact Ac.x 0
     ·refine Ac.y (gv:=vB) (fun _=>?_) (fun _=>?_)
      ·refine Ac.z [true,true] ?_
       refine Ac.q (e:=vB) (gv:=vB) (Ap _) fun r86 _=>?_
       refine Ac.z [true,true] ?_
       refine Ac.y (gv:=vB) (fun _=>?_) (fun _=>?_)
       ·refine Ac.z [true,true,true,true,true,true,true] ?_
        refine Ac.q (e:=vB) (gv:=vB) (Ap _) fun r87 _=>?_
        refine Ac.z [true,true] ?_
        refine Ac.y (gv:=vB) (fun _=>?_) (fun _=>?_)
        ·refine Ac.z [true,true,true,true,true,true] ?_
         exact Ac.x 0
        ·refine Ac.z [false,false] ?_
         refine Ac.q (e:=vB) (gv:=vB) (A6 _) fun r88 _=>?_
         refine Ac.z [false,true,false,true] ?_
         exact Ac.x 0
       ·refine Ac.z [false] ?_
        refine Ac.q (e:=vB) (gv:=vB) (Hb _ _) fun r89 _=>?_
        refine Ac.z [true,false,true] ?_
        refine Ac.y (gv:=vB) (fun _=>?_) (fun _=>?_)
        ·refine Ac.z [true,true] ?_
         refine Ac.q (e:=vB) (gv:=vB) (Ap _) fun r90 _=>?_
         refine Ac.z [true,true] ?_
         refine Ac.y (gv:=vB) (fun _=>?_) (fun _=>?_)
         ·refine Ac.z [true,true,true,true,true,true] ?_
          exact Ac.x 0
         ·refine Ac.z [false,false] ?_
          refine Ac.q (e:=vB) (gv:=vB) (A6 _) fun r91 _=>?_
          refine Ac.z [false,true,false,true] ?_
          exact Ac.x 0
        ·refine Ac.z [false,false,false,false,false,false] ?_
         exact Ac.x 0
      ·refine Ac.z [false,false,false,false,false,false,false,false,false,false,false,false,false] ?_
       exact Ac.x 0
   ·refine Ac.z [false,false,false,false,false,false,false,false,false] ?_
    refine Ac.q (e:=By) (gv:=vB) (Bu _ _) fun r92 _=>?_
    refine Ac.y (gv:=vB) (fun _=>?_) (fun _=>?_)
    ·exact Ac.x 0
    ·refine Ac.y (gv:=vB) (fun _=>?_) (fun _=>?_)
     ·refine Ac.z [true,true] ?_
      refine Ac.q (e:=vB) (gv:=vB) (Ap _) fun r93 _=>?_
      refine Ac.z [true,true] ?_
      refine Ac.y (gv:=vB) (fun _=>?_) (fun _=>?_)
      ·refine Ac.z [true,true,true,true,true,true,true] ?_
       refine Ac.q (e:=vB) (gv:=vB) (Ap _) fun r94 _=>?_
       refine Ac.z [true,true] ?_
       refine Ac.y (gv:=vB) (fun _=>?_) (fun _=>?_)
       ·refine Ac.z [true,true,true,true,true,true] ?_
        exact Ac.x 0
       ·refine Ac.z [false,false] ?_
        refine Ac.q (e:=vB) (gv:=vB) (A6 _) fun r95 _=>?_
        refine Ac.z [false,true,false,true] ?_
        exact Ac.x 0
      ·refine Ac.z [false] ?_
       refine Ac.q (e:=vB) (gv:=vB) (Hb _ _) fun r96 _=>?_
       refine Ac.z [true,false,true] ?_
       refine Ac.y (gv:=vB) (fun _=>?_) (fun _=>?_)
       ·refine Ac.z [true,true] ?_
        refine Ac.q (e:=vB) (gv:=vB) (Ap _) fun r97 _=>?_
        refine Ac.z [true,true] ?_
        refine Ac.y (gv:=vB) (fun _=>?_) (fun _=>?_)
        ·refine Ac.z [true,true,true,true,true,true] ?_
         exact Ac.x 0
        ·refine Ac.z [false,false] ?_
         refine Ac.q (e:=vB) (gv:=vB) (A6 _) fun r98 _=>?_
         refine Ac.z [false,true,false,true] ?_
         exact Ac.x 0
       ·refine Ac.z [false,false,false,false,false,false] ?_
        exact Ac.x 0
     ·refine Ac.z [false,false,false,false,false,false,false,false,false,false,false,false,false] ?_
      exact Ac.x 0
 ·refine Ac.z [false,false,false,false,false,false,false] ?_
  refine Ac.y (gv:=vB) (fun _=>?_) (fun _=>?_)
  ·refine Ac.z [true,true,true] ?_
   refine Ac.q (e:=Af) (gv:=vB) (Oc _ _) fun r99 _=>?_
   refine Ac.z [true] ?_
   refine Ac.q (e:=vB) (gv:=vB) (Ec _ _) fun r100 _=>?_
   refine Ac.z [true,false,true,false] ?_
   refine Ac.y (gv:=vB) (fun _=>?_) (fun _=>?_)
   ·exact Ac.x 0
   ·refine Ac.q (e:=By) (gv:=vB) (Bu _ _) fun r101 _=>?_
    refine Ac.y (gv:=vB) (fun _=>?_) (fun _=>?_)
    ·exact Ac.x 0
    ·refine Ac.y (gv:=vB) (fun _=>?_) (fun _=>?_)
     ·refine Ac.z [true,true] ?_
      refine Ac.q (e:=vB) (gv:=vB) (Ap _) fun r102 _=>?_
      refine Ac.z [true,true] ?_
      refine Ac.y (gv:=vB) (fun _=>?_) (fun _=>?_)
      ·refine Ac.z [true,true,true,true,true,true,true] ?_
       refine Ac.q (e:=vB) (gv:=vB) (Ap _) fun r103 _=>?_
       refine Ac.z [true,true] ?_
       refine Ac.y (gv:=vB) (fun _=>?_) (fun _=>?_)
       ·refine Ac.z [true,true,true,true,true,true] ?_
        exact Ac.x 0
       ·refine Ac.z [false,false] ?_
        refine Ac.q (e:=vB) (gv:=vB) (A6 _) fun r104 _=>?_
        refine Ac.z [false,true,false,true] ?_
        exact Ac.x 0
      ·refine Ac.z [false] ?_
       refine Ac.q (e:=vB) (gv:=vB) (Hb _ _) fun r105 _=>?_
       refine Ac.z [true,false,true] ?_
       refine Ac.y (gv:=vB) (fun _=>?_) (fun _=>?_)
       ·refine Ac.z [true,true] ?_
        refine Ac.q (e:=vB) (gv:=vB) (Ap _) fun r106 _=>?_
        refine Ac.z [true,true] ?_
        refine Ac.y (gv:=vB) (fun _=>?_) (fun _=>?_)
        ·refine Ac.z [true,true,true,true,true,true] ?_
         exact Ac.x 0
        ·refine Ac.z [false,false] ?_
         refine Ac.q (e:=vB) (gv:=vB) (A6 _) fun r107 _=>?_
         refine Ac.z [false,true,false,true] ?_
         exact Ac.x 0
       ·refine Ac.z [false,false,false,false,false,false] ?_
        exact Ac.x 0
     ·refine Ac.z [false,false,false,false,false,false,false,false,false,false,false,false,false] ?_
      exact Ac.x 0
  ·refine Ac.z [false,false,false,false,false,false,false,false,false] ?_
   refine Ac.q (e:=By) (gv:=vB) (Bu _ _) fun r108 _=>?_
   refine Ac.y (gv:=vB) (fun _=>?_) (fun _=>?_)
   ·exact Ac.x 0
   ·refine Ac.y (gv:=vB) (fun _=>?_) (fun _=>?_)
    ·refine Ac.z [true,true] ?_
     refine Ac.q (e:=vB) (gv:=vB) (Ap _) fun r109 _=>?_
     refine Ac.z [true,true] ?_
     refine Ac.y (gv:=vB) (fun _=>?_) (fun _=>?_)
     ·refine Ac.z [true,true,true,true,true,true,true] ?_
      refine Ac.q (e:=vB) (gv:=vB) (Ap _) fun r110 _=>?_
      refine Ac.z [true,true] ?_
      refine Ac.y (gv:=vB) (fun _=>?_) (fun _=>?_)
      ·refine Ac.z [true,true,true,true,true,true] ?_
       exact Ac.x 0
      ·refine Ac.z [false,false] ?_
       refine Ac.q (e:=vB) (gv:=vB) (A6 _) fun r111 _=>?_
       refine Ac.z [false,true,false,true] ?_
       exact Ac.x 0
     ·refine Ac.z [false] ?_
      refine Ac.q (e:=vB) (gv:=vB) (Hb _ _) fun r112 _=>?_
      refine Ac.z [true,false,true] ?_
      refine Ac.y (gv:=vB) (fun _=>?_) (fun _=>?_)
      ·refine Ac.z [true,true] ?_
       refine Ac.q (e:=vB) (gv:=vB) (Ap _) fun r113 _=>?_
       refine Ac.z [true,true] ?_
       refine Ac.y (gv:=vB) (fun _=>?_) (fun _=>?_)
       ·refine Ac.z [true,true,true,true,true,true] ?_
        exact Ac.x 0
       ·refine Ac.z [false,false] ?_
        refine Ac.q (e:=vB) (gv:=vB) (A6 _) fun r114 _=>?_
        refine Ac.z [false,true,false,true] ?_
        exact Ac.x 0
      ·refine Ac.z [false,false,false,false,false,false] ?_
       exact Ac.x 0
    ·refine Ac.z [false,false,false,false,false,false,false,false,false,false,false,false,false] ?_
     exact Ac.x 0
theorem lL : Br Tryz.prog 3 [] #[.slice none 0 0] (vB (Qv Cd.nil)) []:=by
 refine Br.ofH 400 Az mixed Tryz.func3 (by kernel_rfl) (by kernel_rfl) ?_
 unfold Qv
 refine Ac.q (e:=vB) (gv:=vB) (oM) fun r1 _=>?_
 refine Ac.y (gv:=vB) (fun _=>?_) (fun _=>?_)
 ·exact Ac.x 0
 ·refine Ac.q (e:=Dy) (gv:=vB) (cH _ _) fun r2 _=>?_
  refine Ac.q (e:=By) (gv:=vB) (cU _ _) fun r3 _=>?_
  refine Ac.y (gv:=vB) (fun _=>?_) (fun _=>?_)
  ·refine Ac.z [true,true] ?_
   refine Ac.q (e:=vB) (gv:=vB) (A6 _) fun r4 _=>?_
   refine Ac.z [true] ?_
   refine Ac.y (gv:=vB) (fun _=>?_) (fun _=>?_)
   ·refine Ac.z [true] ?_
    refine Ac.q (e:=Af) (gv:=vB) (iY _) fun r5 _=>?_
    refine Ac.z [true] ?_
    refine Ac.q (e:=vB) (gv:=vB) (Ec _ _) fun r6 _=>?_
    refine Ac.z [true,true] ?_
    refine Ac.y (gv:=vB) (fun _=>?_) (fun _=>?_)
    ·exact Ac.x 0
    ·refine Ac.q (e:=Au) (gv:=vB) (K3 _ _) fun r7 _=>?_
     refine Ac.y (gv:=vB) (fun _=>?_) (fun _=>?_)
     ·refine Ac.y (gv:=vB) (fun _=>?_) (fun _=>?_)
      ·refine Ac.z [true,true,true,true,true,true,true] ?_
       exact Ac.x 0
      ·refine Ac.z [false,false] ?_
       refine Ac.y (gv:=vB) (fun _=>?_) (fun _=>?_)
       ·refine Ac.z [true,true,true,true] ?_
        exact Ac.x 0
       ·refine Ac.z [false,false] ?_
        refine Ac.y (gv:=vB) (fun _=>?_) (fun _=>?_)
        ·refine Ac.z [true,true] ?_
         refine Ac.q (e:=vI) (gv:=vB) (Md _) fun r8 _=>?_
         refine Ac.z [true,false,true,false] ?_
         exact Ac.x 0
        ·refine Ac.z [false,false,false,false,false,false] ?_
         exact Ac.x 0
     ·exact aK r1 r2 r3 r4 r5 r6 r7
   ·refine Ac.z [false,false,false,false,false] ?_
    refine Ac.q (e:=Au) (gv:=vB) (K3 _ _) fun r43 _=>?_
    refine Ac.y (gv:=vB) (fun _=>?_) (fun _=>?_)
    ·refine Ac.y (gv:=vB) (fun _=>?_) (fun _=>?_)
     ·refine Ac.z [true,true,true,true,true,true,true] ?_
      exact Ac.x 0
     ·refine Ac.z [false,false] ?_
      refine Ac.y (gv:=vB) (fun _=>?_) (fun _=>?_)
      ·refine Ac.z [true,true,true,true] ?_
       exact Ac.x 0
      ·refine Ac.z [false,false] ?_
       refine Ac.y (gv:=vB) (fun _=>?_) (fun _=>?_)
       ·refine Ac.z [true,true] ?_
        refine Ac.q (e:=vI) (gv:=vB) (Md _) fun r44 _=>?_
        refine Ac.z [true,false,true,false] ?_
        exact Ac.x 0
       ·refine Ac.z [false,false,false,false,false,false] ?_
        exact Ac.x 0
    ·exact aJ r1 r2 r3 r4 r43
  ·refine Ac.z [false,false,false,false,false,false,false,false,false] ?_
   refine Ac.q (e:=Au) (gv:=vB) (K3 _ _) fun r79 _=>?_
   refine Ac.y (gv:=vB) (fun _=>?_) (fun _=>?_)
   ·refine Ac.y (gv:=vB) (fun _=>?_) (fun _=>?_)
    ·refine Ac.z [true,true,true,true,true,true,true] ?_
     exact Ac.x 0
    ·refine Ac.z [false,false] ?_
     refine Ac.y (gv:=vB) (fun _=>?_) (fun _=>?_)
     ·refine Ac.z [true,true,true,true] ?_
      exact Ac.x 0
     ·refine Ac.z [false,false] ?_
      refine Ac.y (gv:=vB) (fun _=>?_) (fun _=>?_)
      ·refine Ac.z [true,true] ?_
       refine Ac.q (e:=vI) (gv:=vB) (Md _) fun r80 _=>?_
       refine Ac.z [true,false,true,false] ?_
       exact Ac.x 0
      ·refine Ac.z [false,false,false,false,false,false] ?_
       exact Ac.x 0
   ·exact aI r1 r2 r3 r79
end Go.Proofs.YtfhnlkinjbakgaaGreat.Abs
