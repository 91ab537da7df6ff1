/- The program's functions are these; part 3 (written by w.py). -/
import Derived.Test.YtfhnlkinjbakgaaGreatSsE
import Derived.Test.YtfhnlkinjbakgaaGreatSsF3
import Derived.Test.YtfhnlkinjbakgaaGreatSsQpre
import Derived.Test.YtfhnlkinjbakgaaGreatSsK0
set_option linter.unusedVariables false
set_option linter.unusedSimpArgs false
namespace Go.Proofs.YtfhnlkinjbakgaaGreat.Abs
open Go Go.RowKit
theorem Gr (a0 : Aq) (a1 : Aq) (a2 : Aq) : Br Tryz.prog 92 [] #[vI a0,vI a1,vI a2] (vB (Dg a0 a1 a2)) []:=by
 refine Br.ofH 400 Az mixed Tryz.func92 (by kernel_rfl) (by kernel_rfl) ?_
 unfold Dg
 refine Ac.y (gv:=vB) (fun _=>?_) (fun _=>?_)
 ·refine Ac.z [true,true,true] ?_
  exact Ac.x 0
 ·refine Ac.z [false,false,false] ?_
  exact Ac.x 0
theorem F9 (a0 : Pt) : Br Tryz.prog 42 [] #[E6 a0] (vB (Ew a0)) []:=by
 refine Br.ofH 400 Az mixed Tryz.func42 (by kernel_rfl) (by kernel_rfl) ?_
 unfold Ew
 refine Ac.q (e:=vB) (gv:=vB) (Gr _ _ _) fun r1 _=>?_
 refine Ac.y (gv:=vB) (fun _=>?_) (fun _=>?_)
 ·refine Ac.z [true,true,true] ?_
  refine Ac.y (gv:=vB) (fun _=>?_) (fun _=>?_)
  ·refine Ac.z [true,true,true] ?_
   exact Ac.x 0
  ·refine Ac.z [false,false,false] ?_
   exact Ac.x 0
 ·refine Ac.z [false,false,false,false,false,false,false] ?_
  exact Ac.x 0
theorem Z0 (a0 : Aq) : Br Tryz.prog 101 [] #[vI a0] (vB (P7 a0)) []:=by
 refine Br.ofH 400 Az mixed Tryz.func101 (by kernel_rfl) (by kernel_rfl) ?_
 unfold P7
 refine Ac.q (e:=vB) (gv:=vB) (Gr _ _ _) fun r1 _=>?_
 exact Ac.x 0
theorem S5 (a0 : Aq) : Br Tryz.prog 48 [] #[vI a0] (vB (Ja a0)) []:=by
 refine Br.ofH 400 Az mixed Tryz.func48 (by kernel_rfl) (by kernel_rfl) ?_
 unfold Ja
 refine Ac.q (e:=vB) (gv:=vB) (Gr _ _ _) fun r1 _=>?_
 exact Ac.x 0
theorem Bn (a0 : Aq) : Br Tryz.prog 49 [] #[vI a0] (vB (As a0)) []:=by
 refine Br.ofH 400 Az mixed Tryz.func49 (by kernel_rfl) (by kernel_rfl) ?_
 unfold As
 refine Ac.q (e:=vB) (gv:=vB) (Gr _ _ _) fun r1 _=>?_
 exact Ac.x 0
theorem Es (a0 : Aq) : Br Tryz.prog 102 [] #[vI a0] (vI (C3 a0)) []:=by
 refine Br.ofH 400 Az mixed Tryz.func102 (by kernel_rfl) (by kernel_rfl) ?_
 unfold C3
 exact Ac.x 0
theorem Vg (a0 : Pj) (r1 : Bool) (r2 : Bool) (r3 : Bool) (r4 : Bool) (r5 : Bool) : Ac Tryz.prog 41 (Ou [] (vB (Aa (As a0.kind) fun r6=>(bif r6 then Aa (As a0.kind) fun r7=>(bif (!r7) then (bif (a0.lat2.val != 0) then false else Aa (As a0.kind) fun r8=>(bif (!r8) then true else Aa (C3 (An (a0.lat1.val + a0.lat2.val))) fun r9=>(decide (r9.val ≥ 10000000)))) else Aa (As a0.kind) fun r10=>(bif (!r10) then true else Aa (C3 (An (a0.lat1.val + a0.lat2.val))) fun r11=>(decide (r11.val ≥ 10000000)))) else (bif (a0.kind.val == 1) then Aa (As a0.kind) fun r12=>(bif (!r12) then (bif (a0.lat2.val != 0) then false else Aa (As a0.kind) fun r13=>(bif (!r13) then true else Aa (C3 (An (a0.lat1.val + a0.lat2.val))) fun r14=>(decide (r14.val ≥ 10000000)))) else Aa (As a0.kind) fun r15=>(bif (!r15) then true else Aa (C3 (An (a0.lat1.val + a0.lat2.val))) fun r16=>(decide (r16.val ≥ 10000000)))) else (bif (!(a0.kind.val == 3)) then (bif (a0.lat1.val != 0) then false else Aa (As a0.kind) fun r17=>(bif (!r17) then (bif (a0.lat2.val != 0) then false else Aa (As a0.kind) fun r18=>(bif (!r18) then true else Aa (C3 (An (a0.lat1.val + a0.lat2.val))) fun r19=>(decide (r19.val ≥ 10000000)))) else Aa (As a0.kind) fun r20=>(bif (!r20) then true else Aa (C3 (An (a0.lat1.val + a0.lat2.val))) fun r21=>(decide (r21.val ≥ 10000000))))) else Aa (As a0.kind) fun r22=>(bif (!r22) then (bif (a0.lat2.val != 0) then false else Aa (As a0.kind) fun r23=>(bif (!r23) then true else Aa (C3 (An (a0.lat1.val + a0.lat2.val))) fun r24=>(decide (r24.val ≥ 10000000)))) else Aa (As a0.kind) fun r25=>(bif (!r25) then true else Aa (C3 (An (a0.lat1.val + a0.lat2.val))) fun r26=>(decide (r26.val ≥ 10000000)))))))))) (((((((((((((((((Sy Tryz.prog E Tryz.f41 400 [] #[L8 a0]).after (vB r1)).no).path [false,false,false,false,false]).after (vB r2)).path [false,false]).no).path [false,false]).after (vB r3)).path [false,false]).no).path [false,false]).after (vB r4)).path [false,false]).no).after (vB r5)).yes):=by
 refine Ac.z [true,true,true,true,true,true,true] ?_
 refine Ac.q (e:=vB) (gv:=vB) (Bn _) fun r6 _=>?_
 refine Ac.y (gv:=vB) (fun _=>?_) (fun _=>?_)
 ·refine Ac.z [true,true,true,true,true,true,true,false,false,false,false,false,false,false,false,false,false,false,false,false,false,false,false] ?_
  refine Ac.q (e:=vB) (gv:=vB) (Bn _) fun r7 _=>?_
  refine Ac.z [false,false] ?_
  refine Ac.y (gv:=vB) (fun _=>?_) (fun _=>?_)
  ·refine Ac.z [true,true,false,true,false] ?_
   refine Ac.y (gv:=vB) (fun _=>?_) (fun _=>?_)
   ·exact Ac.x 0
   ·refine Ac.q (e:=vB) (gv:=vB) (Bn _) fun r8 _=>?_
    refine Ac.y (gv:=vB) (fun _=>?_) (fun _=>?_)
    ·refine Ac.z [true,true,true,true,true,true,true] ?_
     exact Ac.x 0
    ·refine Ac.z [false,false,false,false,false] ?_
     refine Ac.q (e:=vI) (gv:=vB) (Es _) fun r9 _=>?_
     refine Ac.z [false,false] ?_
     exact Ac.x 0
  ·refine Ac.z [false,false,false,false,false,false] ?_
   refine Ac.q (e:=vB) (gv:=vB) (Bn _) fun r10 _=>?_
   refine Ac.y (gv:=vB) (fun _=>?_) (fun _=>?_)
   ·refine Ac.z [true,true,true,true,true,true,true] ?_
    exact Ac.x 0
   ·refine Ac.z [false,false,false,false,false] ?_
    refine Ac.q (e:=vI) (gv:=vB) (Es _) fun r11 _=>?_
    refine Ac.z [false,false] ?_
    exact Ac.x 0
 ·refine Ac.z [false,false,false] ?_
  refine Ac.y (gv:=vB) (fun _=>?_) (fun _=>?_)
  ·refine Ac.z [true,true,true,false,false,false,false,false,false,false,false,false,false,false,false,false,false,false,false] ?_
   refine Ac.q (e:=vB) (gv:=vB) (Bn _) fun r12 _=>?_
   refine Ac.z [false,false] ?_
   refine Ac.y (gv:=vB) (fun _=>?_) (fun _=>?_)
   ·refine Ac.z [true,true,false,true,false] ?_
    refine Ac.y (gv:=vB) (fun _=>?_) (fun _=>?_)
    ·exact Ac.x 0
    ·refine Ac.q (e:=vB) (gv:=vB) (Bn _) fun r13 _=>?_
     refine Ac.y (gv:=vB) (fun _=>?_) (fun _=>?_)
     ·refine Ac.z [true,true,true,true,true,true,true] ?_
      exact Ac.x 0
     ·refine Ac.z [false,false,false,false,false] ?_
      refine Ac.q (e:=vI) (gv:=vB) (Es _) fun r14 _=>?_
      refine Ac.z [false,false] ?_
      exact Ac.x 0
   ·refine Ac.z [false,false,false,false,false,false] ?_
    refine Ac.q (e:=vB) (gv:=vB) (Bn _) fun r15 _=>?_
    refine Ac.y (gv:=vB) (fun _=>?_) (fun _=>?_)
    ·refine Ac.z [true,true,true,true,true,true,true] ?_
     exact Ac.x 0
    ·refine Ac.z [false,false,false,false,false] ?_
     refine Ac.q (e:=vI) (gv:=vB) (Es _) fun r16 _=>?_
     refine Ac.z [false,false] ?_
     exact Ac.x 0
  ·refine Ac.z [false,false,false,false,false,false,false,false,false,false] ?_
   refine Ac.y (gv:=vB) (fun _=>?_) (fun _=>?_)
   ·refine Ac.z [true,true,false,true,false] ?_
    refine Ac.y (gv:=vB) (fun _=>?_) (fun _=>?_)
    ·refine Ac.z [true,true,true,true,true,true,true] ?_
     exact Ac.x 0
    ·refine Ac.z [false,false] ?_
     refine Ac.q (e:=vB) (gv:=vB) (Bn _) fun r17 _=>?_
     refine Ac.z [false,false] ?_
     refine Ac.y (gv:=vB) (fun _=>?_) (fun _=>?_)
     ·refine Ac.z [true,true,false,true,false] ?_
      refine Ac.y (gv:=vB) (fun _=>?_) (fun _=>?_)
      ·exact Ac.x 0
      ·refine Ac.q (e:=vB) (gv:=vB) (Bn _) fun r18 _=>?_
       refine Ac.y (gv:=vB) (fun _=>?_) (fun _=>?_)
       ·refine Ac.z [true,true,true,true,true,true,true] ?_
        exact Ac.x 0
       ·refine Ac.z [false,false,false,false,false] ?_
        refine Ac.q (e:=vI) (gv:=vB) (Es _) fun r19 _=>?_
        refine Ac.z [false,false] ?_
        exact Ac.x 0
     ·refine Ac.z [false,false,false,false,false,false] ?_
      refine Ac.q (e:=vB) (gv:=vB) (Bn _) fun r20 _=>?_
      refine Ac.y (gv:=vB) (fun _=>?_) (fun _=>?_)
      ·refine Ac.z [true,true,true,true,true,true,true] ?_
       exact Ac.x 0
      ·refine Ac.z [false,false,false,false,false] ?_
       refine Ac.q (e:=vI) (gv:=vB) (Es _) fun r21 _=>?_
       refine Ac.z [false,false] ?_
       exact Ac.x 0
   ·refine Ac.z [false,false,false,false,false,false,false,false] ?_
    refine Ac.q (e:=vB) (gv:=vB) (Bn _) fun r22 _=>?_
    refine Ac.z [false,false] ?_
    refine Ac.y (gv:=vB) (fun _=>?_) (fun _=>?_)
    ·refine Ac.z [true,true,false,true,false] ?_
     refine Ac.y (gv:=vB) (fun _=>?_) (fun _=>?_)
     ·exact Ac.x 0
     ·refine Ac.q (e:=vB) (gv:=vB) (Bn _) fun r23 _=>?_
      refine Ac.y (gv:=vB) (fun _=>?_) (fun _=>?_)
      ·refine Ac.z [true,true,true,true,true,true,true] ?_
       exact Ac.x 0
      ·refine Ac.z [false,false,false,false,false] ?_
       refine Ac.q (e:=vI) (gv:=vB) (Es _) fun r24 _=>?_
       refine Ac.z [false,false] ?_
       exact Ac.x 0
    ·refine Ac.z [false,false,false,false,false,false] ?_
     refine Ac.q (e:=vB) (gv:=vB) (Bn _) fun r25 _=>?_
     refine Ac.y (gv:=vB) (fun _=>?_) (fun _=>?_)
     ·refine Ac.z [true,true,true,true,true,true,true] ?_
      exact Ac.x 0
     ·refine Ac.z [false,false,false,false,false] ?_
      refine Ac.q (e:=vI) (gv:=vB) (Es _) fun r26 _=>?_
      refine Ac.z [false,false] ?_
      exact Ac.x 0
theorem Vf (a0 : Pj) (r1 : Bool) (r2 : Bool) (r3 : Bool) (r4 : Bool) (r5 : Bool) (r27 : Bool) : Ac Tryz.prog 41 (Ou [] (vB (Aa (As a0.kind) fun r28=>(bif r28 then Aa (As a0.kind) fun r29=>(bif (!r29) then (bif (a0.lat2.val != 0) then false else Aa (As a0.kind) fun r30=>(bif (!r30) then true else Aa (C3 (An (a0.lat1.val + a0.lat2.val))) fun r31=>(decide (r31.val ≥ 10000000)))) else Aa (As a0.kind) fun r32=>(bif (!r32) then true else Aa (C3 (An (a0.lat1.val + a0.lat2.val))) fun r33=>(decide (r33.val ≥ 10000000)))) else (bif (a0.kind.val == 1) then Aa (As a0.kind) fun r34=>(bif (!r34) then (bif (a0.lat2.val != 0) then false else Aa (As a0.kind) fun r35=>(bif (!r35) then true else Aa (C3 (An (a0.lat1.val + a0.lat2.val))) fun r36=>(decide (r36.val ≥ 10000000)))) else Aa (As a0.kind) fun r37=>(bif (!r37) then true else Aa (C3 (An (a0.lat1.val + a0.lat2.val))) fun r38=>(decide (r38.val ≥ 10000000)))) else (bif (!(a0.kind.val == 3)) then (bif (a0.lat1.val != 0) then false else Aa (As a0.kind) fun r39=>(bif (!r39) then (bif (a0.lat2.val != 0) then false else Aa (As a0.kind) fun r40=>(bif (!r40) then true else Aa (C3 (An (a0.lat1.val + a0.lat2.val))) fun r41=>(decide (r41.val ≥ 10000000)))) else Aa (As a0.kind) fun r42=>(bif (!r42) then true else Aa (C3 (An (a0.lat1.val + a0.lat2.val))) fun r43=>(decide (r43.val ≥ 10000000))))) else Aa (As a0.kind) fun r44=>(bif (!r44) then (bif (a0.lat2.val != 0) then false else Aa (As a0.kind) fun r45=>(bif (!r45) then true else Aa (C3 (An (a0.lat1.val + a0.lat2.val))) fun r46=>(decide (r46.val ≥ 10000000)))) else Aa (As a0.kind) fun r47=>(bif (!r47) then true else Aa (C3 (An (a0.lat1.val + a0.lat2.val))) fun r48=>(decide (r48.val ≥ 10000000)))))))))) (((((((((((((((((((((Sy Tryz.prog E Tryz.f41 400 [] #[L8 a0]).after (vB r1)).no).path [false,false,false,false,false]).after (vB r2)).path [false,false]).no).path [false,false]).after (vB r3)).path [false,false]).no).path [false,false]).after (vB r4)).path [false,false]).no).after (vB r5)).no).path [false,false]).after (vB r27)).path [false]).yes):=by
 refine Ac.z [true,true,true] ?_
 refine Ac.q (e:=vB) (gv:=vB) (Bn _) fun r28 _=>?_
 refine Ac.y (gv:=vB) (fun _=>?_) (fun _=>?_)
 ·refine Ac.z [true,true,true,true,true,true,true,false,false,false,false,false,false,false,false,false,false,false,false,false,false,false,false] ?_
  refine Ac.q (e:=vB) (gv:=vB) (Bn _) fun r29 _=>?_
  refine Ac.z [false,false] ?_
  refine Ac.y (gv:=vB) (fun _=>?_) (fun _=>?_)
  ·refine Ac.z [true,true,false,true,false] ?_
   refine Ac.y (gv:=vB) (fun _=>?_) (fun _=>?_)
   ·exact Ac.x 0
   ·refine Ac.q (e:=vB) (gv:=vB) (Bn _) fun r30 _=>?_
    refine Ac.y (gv:=vB) (fun _=>?_) (fun _=>?_)
    ·refine Ac.z [true,true,true,true,true,true,true] ?_
     exact Ac.x 0
    ·refine Ac.z [false,false,false,false,false] ?_
     refine Ac.q (e:=vI) (gv:=vB) (Es _) fun r31 _=>?_
     refine Ac.z [false,false] ?_
     exact Ac.x 0
  ·refine Ac.z [false,false,false,false,false,false] ?_
   refine Ac.q (e:=vB) (gv:=vB) (Bn _) fun r32 _=>?_
   refine Ac.y (gv:=vB) (fun _=>?_) (fun _=>?_)
   ·refine Ac.z [true,true,true,true,true,true,true] ?_
    exact Ac.x 0
   ·refine Ac.z [false,false,false,false,false] ?_
    refine Ac.q (e:=vI) (gv:=vB) (Es _) fun r33 _=>?_
    refine Ac.z [false,false] ?_
    exact Ac.x 0
 ·refine Ac.z [false,false,false] ?_
  refine Ac.y (gv:=vB) (fun _=>?_) (fun _=>?_)
  ·refine Ac.z [true,true,true,false,false,false,false,false,false,false,false,false,false,false,false,false,false,false,false] ?_
   refine Ac.q (e:=vB) (gv:=vB) (Bn _) fun r34 _=>?_
   refine Ac.z [false,false] ?_
   refine Ac.y (gv:=vB) (fun _=>?_) (fun _=>?_)
   ·refine Ac.z [true,true,false,true,false] ?_
    refine Ac.y (gv:=vB) (fun _=>?_) (fun _=>?_)
    ·exact Ac.x 0
    ·refine Ac.q (e:=vB) (gv:=vB) (Bn _) fun r35 _=>?_
     refine Ac.y (gv:=vB) (fun _=>?_) (fun _=>?_)
     ·refine Ac.z [true,true,true,true,true,true,true] ?_
      exact Ac.x 0
     ·refine Ac.z [false,false,false,false,false] ?_
      refine Ac.q (e:=vI) (gv:=vB) (Es _) fun r36 _=>?_
      refine Ac.z [false,false] ?_
      exact Ac.x 0
   ·refine Ac.z [false,false,false,false,false,false] ?_
    refine Ac.q (e:=vB) (gv:=vB) (Bn _) fun r37 _=>?_
    refine Ac.y (gv:=vB) (fun _=>?_) (fun _=>?_)
    ·refine Ac.z [true,true,true,true,true,true,true] ?_
     exact Ac.x 0
    ·refine Ac.z [false,false,false,false,false] ?_
     refine Ac.q (e:=vI) (gv:=vB) (Es _) fun r38 _=>?_
     refine Ac.z [false,false] ?_
     exact Ac.x 0
  ·refine Ac.z [false,false,false,false,false,false,false,false,false,false] ?_
   refine Ac.y (gv:=vB) (fun _=>?_) (fun _=>?_)
   ·refine Ac.z [true,true,false,true,false] ?_
    refine Ac.y (gv:=vB) (fun _=>?_) (fun _=>?_)
    ·refine Ac.z [true,true,true,true,true,true,true] ?_
     exact Ac.x 0
    ·refine Ac.z [false,false] ?_
     refine Ac.q (e:=vB) (gv:=vB) (Bn _) fun r39 _=>?_
     refine Ac.z [false,false] ?_
     refine Ac.y (gv:=vB) (fun _=>?_) (fun _=>?_)
     ·refine Ac.z [true,true,false,true,false] ?_
      refine Ac.y (gv:=vB) (fun _=>?_) (fun _=>?_)
      ·exact Ac.x 0
      ·refine Ac.q (e:=vB) (gv:=vB) (Bn _) fun r40 _=>?_
       refine Ac.y (gv:=vB) (fun _=>?_) (fun _=>?_)
       ·refine Ac.z [true,true,true,true,true,true,true] ?_
        exact Ac.x 0
       ·refine Ac.z [false,false,false,false,false] ?_
        refine Ac.q (e:=vI) (gv:=vB) (Es _) fun r41 _=>?_
        refine Ac.z [false,false] ?_
        exact Ac.x 0
     ·refine Ac.z [false,false,false,false,false,false] ?_
      refine Ac.q (e:=vB) (gv:=vB) (Bn _) fun r42 _=>?_
      refine Ac.y (gv:=vB) (fun _=>?_) (fun _=>?_)
      ·refine Ac.z [true,true,true,true,true,true,true] ?_
       exact Ac.x 0
      ·refine Ac.z [false,false,false,false,false] ?_
       refine Ac.q (e:=vI) (gv:=vB) (Es _) fun r43 _=>?_
       refine Ac.z [false,false] ?_
       exact Ac.x 0
   ·refine Ac.z [false,false,false,false,false,false,false,false] ?_
    refine Ac.q (e:=vB) (gv:=vB) (Bn _) fun r44 _=>?_
    refine Ac.z [false,false] ?_
    refine Ac.y (gv:=vB) (fun _=>?_) (fun _=>?_)
    ·refine Ac.z [true,true,false,true,false] ?_
     refine Ac.y (gv:=vB) (fun _=>?_) (fun _=>?_)
     ·exact Ac.x 0
     ·refine Ac.q (e:=vB) (gv:=vB) (Bn _) fun r45 _=>?_
      refine Ac.y (gv:=vB) (fun _=>?_) (fun _=>?_)
      ·refine Ac.z [true,true,true,true,true,true,true] ?_
       exact Ac.x 0
      ·refine Ac.z [false,false,false,false,false] ?_
       refine Ac.q (e:=vI) (gv:=vB) (Es _) fun r46 _=>?_
       refine Ac.z [false,false] ?_
       exact Ac.x 0
    ·refine Ac.z [false,false,false,false,false,false] ?_
     refine Ac.q (e:=vB) (gv:=vB) (Bn _) fun r47 _=>?_
     refine Ac.y (gv:=vB) (fun _=>?_) (fun _=>?_)
     ·refine Ac.z [true,true,true,true,true,true,true] ?_
      exact Ac.x 0
     ·refine Ac.z [false,false,false,false,false] ?_
      refine Ac.q (e:=vI) (gv:=vB) (Es _) fun r48 _=>?_
      refine Ac.z [false,false] ?_
      exact Ac.x 0
theorem Ve (a0 : Pj) (r1 : Bool) (r2 : Bool) (r3 : Bool) (r4 : Bool) (r5 : Bool) (r27 : Bool) (r49 : Bool) : Ac Tryz.prog 41 (Ou [] (vB ((bif (!(a0.kind.val == 16)) then (bif (a0.lat0.val != 0) then false else (bif (!(a0.kind.val == 3)) then (bif (a0.lat1.val != 0) then false else Aa (As a0.kind) fun r70=>(bif (!r70) then (bif (a0.lat2.val != 0) then false else Aa (As a0.kind) fun r71=>(bif (!r71) then true else Aa (C3 (An (a0.lat1.val + a0.lat2.val))) fun r72=>(decide (r72.val ≥ 10000000)))) else Aa (As a0.kind) fun r73=>(bif (!r73) then true else Aa (C3 (An (a0.lat1.val + a0.lat2.val))) fun r74=>(decide (r74.val ≥ 10000000))))) else Aa (As a0.kind) fun r75=>(bif (!r75) then (bif (a0.lat2.val != 0) then false else Aa (As a0.kind) fun r76=>(bif (!r76) then true else Aa (C3 (An (a0.lat1.val + a0.lat2.val))) fun r77=>(decide (r77.val ≥ 10000000)))) else Aa (As a0.kind) fun r78=>(bif (!r78) then true else Aa (C3 (An (a0.lat1.val + a0.lat2.val))) fun r79=>(decide (r79.val ≥ 10000000)))))) else (bif (!(a0.kind.val == 3)) then (bif (a0.lat1.val != 0) then false else Aa (As a0.kind) fun r80=>(bif (!r80) then (bif (a0.lat2.val != 0) then false else Aa (As a0.kind) fun r81=>(bif (!r81) then true else Aa (C3 (An (a0.lat1.val + a0.lat2.val))) fun r82=>(decide (r82.val ≥ 10000000)))) else Aa (As a0.kind) fun r83=>(bif (!r83) then true else Aa (C3 (An (a0.lat1.val + a0.lat2.val))) fun r84=>(decide (r84.val ≥ 10000000))))) else Aa (As a0.kind) fun r85=>(bif (!r85) then (bif (a0.lat2.val != 0) then false else Aa (As a0.kind) fun r86=>(bif (!r86) then true else Aa (C3 (An (a0.lat1.val + a0.lat2.val))) fun r87=>(decide (r87.val ≥ 10000000)))) else Aa (As a0.kind) fun r88=>(bif (!r88) then true else Aa (C3 (An (a0.lat1.val + a0.lat2.val))) fun r89=>(decide (r89.val ≥ 10000000))))))))) ((((((((((((((((((((((((((Sy Tryz.prog E Tryz.f41 400 [] #[L8 a0]).after (vB r1)).no).path [false,false,false,false,false]).after (vB r2)).path [false,false]).no).path [false,false]).after (vB r3)).path [false,false]).no).path [false,false]).after (vB r4)).path [false,false]).no).after (vB r5)).no).path [false,false]).after (vB r27)).path [false]).no).path [false,false,false]).after (vB r49)).no).path [false,false,false]).no):=by
 refine Ac.z [false,false,false] ?_
 refine Ac.y (gv:=vB) (fun _=>?_) (fun _=>?_)
 ·refine Ac.z [true,true,true] ?_
  refine Ac.y (gv:=vB) (fun _=>?_) (fun _=>?_)
  ·refine Ac.z [true,true,true,true,true,true,true,true,true,true,true,true] ?_
   exact Ac.x 0
  ·refine Ac.z [false,false] ?_
   refine Ac.y (gv:=vB) (fun _=>?_) (fun _=>?_)
   ·refine Ac.z [true,true,false,true,false] ?_
    refine Ac.y (gv:=vB) (fun _=>?_) (fun _=>?_)
    ·refine Ac.z [true,true,true,true,true,true,true] ?_
     exact Ac.x 0
    ·refine Ac.z [false,false] ?_
     refine Ac.q (e:=vB) (gv:=vB) (Bn _) fun r70 _=>?_
     refine Ac.z [false,false] ?_
     refine Ac.y (gv:=vB) (fun _=>?_) (fun _=>?_)
     ·refine Ac.z [true,true,false,true,false] ?_
      refine Ac.y (gv:=vB) (fun _=>?_) (fun _=>?_)
      ·exact Ac.x 0
      ·refine Ac.q (e:=vB) (gv:=vB) (Bn _) fun r71 _=>?_
       refine Ac.y (gv:=vB) (fun _=>?_) (fun _=>?_)
       ·refine Ac.z [true,true,true,true,true,true,true] ?_
        exact Ac.x 0
       ·refine Ac.z [false,false,false,false,false] ?_
        refine Ac.q (e:=vI) (gv:=vB) (Es _) fun r72 _=>?_
        refine Ac.z [false,false] ?_
        exact Ac.x 0
     ·refine Ac.z [false,false,false,false,false,false] ?_
      refine Ac.q (e:=vB) (gv:=vB) (Bn _) fun r73 _=>?_
      refine Ac.y (gv:=vB) (fun _=>?_) (fun _=>?_)
      ·refine Ac.z [true,true,true,true,true,true,true] ?_
       exact Ac.x 0
      ·refine Ac.z [false,false,false,false,false] ?_
       refine Ac.q (e:=vI) (gv:=vB) (Es _) fun r74 _=>?_
       refine Ac.z [false,false] ?_
       exact Ac.x 0
   ·refine Ac.z [false,false,false,false,false,false,false,false] ?_
    refine Ac.q (e:=vB) (gv:=vB) (Bn _) fun r75 _=>?_
    refine Ac.z [false,false] ?_
    refine Ac.y (gv:=vB) (fun _=>?_) (fun _=>?_)
    ·refine Ac.z [true,true,false,true,false] ?_
     refine Ac.y (gv:=vB) (fun _=>?_) (fun _=>?_)
     ·exact Ac.x 0
     ·refine Ac.q (e:=vB) (gv:=vB) (Bn _) fun r76 _=>?_
      refine Ac.y (gv:=vB) (fun _=>?_) (fun _=>?_)
      ·refine Ac.z [true,true,true,true,true,true,true] ?_
       exact Ac.x 0
      ·refine Ac.z [false,false,false,false,false] ?_
       refine Ac.q (e:=vI) (gv:=vB) (Es _) fun r77 _=>?_
       refine Ac.z [false,false] ?_
       exact Ac.x 0
    ·refine Ac.z [false,false,false,false,false,false] ?_
     refine Ac.q (e:=vB) (gv:=vB) (Bn _) fun r78 _=>?_
     refine Ac.y (gv:=vB) (fun _=>?_) (fun _=>?_)
     ·refine Ac.z [true,true,true,true,true,true,true] ?_
      exact Ac.x 0
     ·refine Ac.z [false,false,false,false,false] ?_
      refine Ac.q (e:=vI) (gv:=vB) (Es _) fun r79 _=>?_
      refine Ac.z [false,false] ?_
      exact Ac.x 0
 ·refine Ac.z [false,false,false,false,false,false] ?_
  refine Ac.y (gv:=vB) (fun _=>?_) (fun _=>?_)
  ·refine Ac.z [true,true,false,true,false] ?_
   refine Ac.y (gv:=vB) (fun _=>?_) (fun _=>?_)
   ·refine Ac.z [true,true,true,true,true,true,true] ?_
    exact Ac.x 0
   ·refine Ac.z [false,false] ?_
    refine Ac.q (e:=vB) (gv:=vB) (Bn _) fun r80 _=>?_
    refine Ac.z [false,false] ?_
    refine Ac.y (gv:=vB) (fun _=>?_) (fun _=>?_)
    ·refine Ac.z [true,true,false,true,false] ?_
     refine Ac.y (gv:=vB) (fun _=>?_) (fun _=>?_)
     ·exact Ac.x 0
     ·refine Ac.q (e:=vB) (gv:=vB) (Bn _) fun r81 _=>?_
      refine Ac.y (gv:=vB) (fun _=>?_) (fun _=>?_)
      ·refine Ac.z [true,true,true,true,true,true,true] ?_
       exact Ac.x 0
      ·refine Ac.z [false,false,false,false,false] ?_
       refine Ac.q (e:=vI) (gv:=vB) (Es _) fun r82 _=>?_
       refine Ac.z [false,false] ?_
       exact Ac.x 0
    ·refine Ac.z [false,false,false,false,false,false] ?_
     refine Ac.q (e:=vB) (gv:=vB) (Bn _) fun r83 _=>?_
     refine Ac.y (gv:=vB) (fun _=>?_) (fun _=>?_)
     ·refine Ac.z [true,true,true,true,true,true,true] ?_
      exact Ac.x 0
     ·refine Ac.z [false,false,false,false,false] ?_
      refine Ac.q (e:=vI) (gv:=vB) (Es _) fun r84 _=>?_
      refine Ac.z [false,false] ?_
      exact Ac.x 0
  ·refine Ac.z [false,false,false,false,false,false,false,false] ?_
   refine Ac.q (e:=vB) (gv:=vB) (Bn _) fun r85 _=>?_
   refine Ac.z [false,false] ?_
   refine Ac.y (gv:=vB) (fun _=>?_) (fun _=>?_)
   ·refine Ac.z [true,true,false,true,false] ?_
    refine Ac.y (gv:=vB) (fun _=>?_) (fun _=>?_)
    ·exact Ac.x 0
    ·refine Ac.q (e:=vB) (gv:=vB) (Bn _) fun r86 _=>?_
     refine Ac.y (gv:=vB) (fun _=>?_) (fun _=>?_)
     ·refine Ac.z [true,true,true,true,true,true,true] ?_
      exact Ac.x 0
     ·refine Ac.z [false,false,false,false,false] ?_
      refine Ac.q (e:=vI) (gv:=vB) (Es _) fun r87 _=>?_
      refine Ac.z [false,false] ?_
      exact Ac.x 0
   ·refine Ac.z [false,false,false,false,false,false] ?_
    refine Ac.q (e:=vB) (gv:=vB) (Bn _) fun r88 _=>?_
    refine Ac.y (gv:=vB) (fun _=>?_) (fun _=>?_)
    ·refine Ac.z [true,true,true,true,true,true,true] ?_
     exact Ac.x 0
    ·refine Ac.z [false,false,false,false,false] ?_
     refine Ac.q (e:=vI) (gv:=vB) (Es _) fun r89 _=>?_
     refine Ac.z [false,false] ?_
     exact Ac.x 0
theorem Vd (a0 : Pj) (r1 : Bool) (r2 : Bool) (r3 : Bool) (r4 : Bool) (r5 : Bool) (r27 : Bool) : Ac Tryz.prog 41 (Ou [] (vB (Aa (As a0.kind) fun r49=>(bif r49 then (bif (!(a0.kind.val == 16)) then (bif (a0.lat0.val != 0) then false else Aa (As a0.kind) fun r50=>(bif (!r50) then (bif (a0.lat2.val != 0) then false else Aa (As a0.kind) fun r51=>(bif (!r51) then true else Aa (C3 (An (a0.lat1.val + a0.lat2.val))) fun r52=>(decide (r52.val ≥ 10000000)))) else Aa (As a0.kind) fun r53=>(bif (!r53) then true else Aa (C3 (An (a0.lat1.val + a0.lat2.val))) fun r54=>(decide (r54.val ≥ 10000000))))) else Aa (As a0.kind) fun r55=>(bif (!r55) then (bif (a0.lat2.val != 0) then false else Aa (As a0.kind) fun r56=>(bif (!r56) then true else Aa (C3 (An (a0.lat1.val + a0.lat2.val))) fun r57=>(decide (r57.val ≥ 10000000)))) else Aa (As a0.kind) fun r58=>(bif (!r58) then true else Aa (C3 (An (a0.lat1.val + a0.lat2.val))) fun r59=>(decide (r59.val ≥ 10000000))))) else (bif (a0.kind.val == 1) then (bif (!(a0.kind.val == 16)) then (bif (a0.lat0.val != 0) then false else Aa (As a0.kind) fun r60=>(bif (!r60) then (bif (a0.lat2.val != 0) then false else Aa (As a0.kind) fun r61=>(bif (!r61) then true else Aa (C3 (An (a0.lat1.val + a0.lat2.val))) fun r62=>(decide (r62.val ≥ 10000000)))) else Aa (As a0.kind) fun r63=>(bif (!r63) then true else Aa (C3 (An (a0.lat1.val + a0.lat2.val))) fun r64=>(decide (r64.val ≥ 10000000))))) else Aa (As a0.kind) fun r65=>(bif (!r65) then (bif (a0.lat2.val != 0) then false else Aa (As a0.kind) fun r66=>(bif (!r66) then true else Aa (C3 (An (a0.lat1.val + a0.lat2.val))) fun r67=>(decide (r67.val ≥ 10000000)))) else Aa (As a0.kind) fun r68=>(bif (!r68) then true else Aa (C3 (An (a0.lat1.val + a0.lat2.val))) fun r69=>(decide (r69.val ≥ 10000000))))) else (bif (!(a0.kind.val == 16)) then (bif (a0.lat0.val != 0) then false else (bif (!(a0.kind.val == 3)) then (bif (a0.lat1.val != 0) then false else Aa (As a0.kind) fun r70=>(bif (!r70) then (bif (a0.lat2.val != 0) then false else Aa (As a0.kind) fun r71=>(bif (!r71) then true else Aa (C3 (An (a0.lat1.val + a0.lat2.val))) fun r72=>(decide (r72.val ≥ 10000000)))) else Aa (As a0.kind) fun r73=>(bif (!r73) then true else Aa (C3 (An (a0.lat1.val + a0.lat2.val))) fun r74=>(decide (r74.val ≥ 10000000))))) else Aa (As a0.kind) fun r75=>(bif (!r75) then (bif (a0.lat2.val != 0) then false else Aa (As a0.kind) fun r76=>(bif (!r76) then true else Aa (C3 (An (a0.lat1.val + a0.lat2.val))) fun r77=>(decide (r77.val ≥ 10000000)))) else Aa (As a0.kind) fun r78=>(bif (!r78) then true else Aa (C3 (An (a0.lat1.val + a0.lat2.val))) fun r79=>(decide (r79.val ≥ 10000000)))))) else (bif (!(a0.kind.val == 3)) then (bif (a0.lat1.val != 0) then false else Aa (As a0.kind) fun r80=>(bif (!r80) then (bif (a0.lat2.val != 0) then false else Aa (As a0.kind) fun r81=>(bif (!r81) then true else Aa (C3 (An (a0.lat1.val + a0.lat2.val))) fun r82=>(decide (r82.val ≥ 10000000)))) else Aa (As a0.kind) fun r83=>(bif (!r83) then true else Aa (C3 (An (a0.lat1.val + a0.lat2.val))) fun r84=>(decide (r84.val ≥ 10000000))))) else Aa (As a0.kind) fun r85=>(bif (!r85) then (bif (a0.lat2.val != 0) then false else Aa (As a0.kind) fun r86=>(bif (!r86) then true else Aa (C3 (An (a0.lat1.val + a0.lat2.val))) fun r87=>(decide (r87.val ≥ 10000000)))) else Aa (As a0.kind) fun r88=>(bif (!r88) then true else Aa (C3 (An (a0.lat1.val + a0.lat2.val))) fun r89=>(decide (r89.val ≥ 10000000))))))))))) (((((((((((((((((((((Sy Tryz.prog E Tryz.f41 400 [] #[L8 a0]).after (vB r1)).no).path [false,false,false,false,false]).after (vB r2)).path [false,false]).no).path [false,false]).after (vB r3)).path [false,false]).no).path [false,false]).after (vB r4)).path [false,false]).no).after (vB r5)).no).path [false,false]).after (vB r27)).path [false]).no):=by
 refine Ac.z [false,false,false] ?_
 refine Ac.q (e:=vB) (gv:=vB) (Bn _) fun r49 _=>?_
 refine Ac.y (gv:=vB) (fun _=>?_) (fun _=>?_)
 ·refine Ac.z [true,true,true,true,true,true,true] ?_
  refine Ac.y (gv:=vB) (fun _=>?_) (fun _=>?_)
  ·refine Ac.z [true,true,true] ?_
   refine Ac.y (gv:=vB) (fun _=>?_) (fun _=>?_)
   ·refine Ac.z [true,true,true,true,true,true,true,true,true,true,true,true] ?_
    exact Ac.x 0
   ·refine Ac.z [false,false,false,false,false,false,false,false,false,false,false] ?_
    refine Ac.q (e:=vB) (gv:=vB) (Bn _) fun r50 _=>?_
    refine Ac.z [false,false] ?_
    refine Ac.y (gv:=vB) (fun _=>?_) (fun _=>?_)
    ·refine Ac.z [true,true,false,true,false] ?_
     refine Ac.y (gv:=vB) (fun _=>?_) (fun _=>?_)
     ·exact Ac.x 0
     ·refine Ac.q (e:=vB) (gv:=vB) (Bn _) fun r51 _=>?_
      refine Ac.y (gv:=vB) (fun _=>?_) (fun _=>?_)
      ·refine Ac.z [true,true,true,true,true,true,true] ?_
       exact Ac.x 0
      ·refine Ac.z [false,false,false,false,false] ?_
       refine Ac.q (e:=vI) (gv:=vB) (Es _) fun r52 _=>?_
       refine Ac.z [false,false] ?_
       exact Ac.x 0
    ·refine Ac.z [false,false,false,false,false,false] ?_
     refine Ac.q (e:=vB) (gv:=vB) (Bn _) fun r53 _=>?_
     refine Ac.y (gv:=vB) (fun _=>?_) (fun _=>?_)
     ·refine Ac.z [true,true,true,true,true,true,true] ?_
      exact Ac.x 0
     ·refine Ac.z [false,false,false,false,false] ?_
      refine Ac.q (e:=vI) (gv:=vB) (Es _) fun r54 _=>?_
      refine Ac.z [false,false] ?_
      exact Ac.x 0
  ·refine Ac.z [false,false,false,false,false,false,false,false,false,false,false,false,false,false,false] ?_
   refine Ac.q (e:=vB) (gv:=vB) (Bn _) fun r55 _=>?_
   refine Ac.z [false,false] ?_
   refine Ac.y (gv:=vB) (fun _=>?_) (fun _=>?_)
   ·refine Ac.z [true,true,false,true,false] ?_
    refine Ac.y (gv:=vB) (fun _=>?_) (fun _=>?_)
    ·exact Ac.x 0
    ·refine Ac.q (e:=vB) (gv:=vB) (Bn _) fun r56 _=>?_
     refine Ac.y (gv:=vB) (fun _=>?_) (fun _=>?_)
     ·refine Ac.z [true,true,true,true,true,true,true] ?_
      exact Ac.x 0
     ·refine Ac.z [false,false,false,false,false] ?_
      refine Ac.q (e:=vI) (gv:=vB) (Es _) fun r57 _=>?_
      refine Ac.z [false,false] ?_
      exact Ac.x 0
   ·refine Ac.z [false,false,false,false,false,false] ?_
    refine Ac.q (e:=vB) (gv:=vB) (Bn _) fun r58 _=>?_
    refine Ac.y (gv:=vB) (fun _=>?_) (fun _=>?_)
    ·refine Ac.z [true,true,true,true,true,true,true] ?_
     exact Ac.x 0
    ·refine Ac.z [false,false,false,false,false] ?_
     refine Ac.q (e:=vI) (gv:=vB) (Es _) fun r59 _=>?_
     refine Ac.z [false,false] ?_
     exact Ac.x 0
 ·refine Ac.z [false,false,false] ?_
  refine Ac.y (gv:=vB) (fun _=>?_) (fun _=>?_)
  ·refine Ac.z [true,true,true] ?_
   refine Ac.y (gv:=vB) (fun _=>?_) (fun _=>?_)
   ·refine Ac.z [true,true,true] ?_
    refine Ac.y (gv:=vB) (fun _=>?_) (fun _=>?_)
    ·refine Ac.z [true,true,true,true,true,true,true,true,true,true,true,true] ?_
     exact Ac.x 0
    ·refine Ac.z [false,false,false,false,false,false,false,false,false,false,false] ?_
     refine Ac.q (e:=vB) (gv:=vB) (Bn _) fun r60 _=>?_
     refine Ac.z [false,false] ?_
     refine Ac.y (gv:=vB) (fun _=>?_) (fun _=>?_)
     ·refine Ac.z [true,true,false,true,false] ?_
      refine Ac.y (gv:=vB) (fun _=>?_) (fun _=>?_)
      ·exact Ac.x 0
      ·refine Ac.q (e:=vB) (gv:=vB) (Bn _) fun r61 _=>?_
       refine Ac.y (gv:=vB) (fun _=>?_) (fun _=>?_)
       ·refine Ac.z [true,true,true,true,true,true,true] ?_
        exact Ac.x 0
       ·refine Ac.z [false,false,false,false,false] ?_
        refine Ac.q (e:=vI) (gv:=vB) (Es _) fun r62 _=>?_
        refine Ac.z [false,false] ?_
        exact Ac.x 0
     ·refine Ac.z [false,false,false,false,false,false] ?_
      refine Ac.q (e:=vB) (gv:=vB) (Bn _) fun r63 _=>?_
      refine Ac.y (gv:=vB) (fun _=>?_) (fun _=>?_)
      ·refine Ac.z [true,true,true,true,true,true,true] ?_
       exact Ac.x 0
      ·refine Ac.z [false,false,false,false,false] ?_
       refine Ac.q (e:=vI) (gv:=vB) (Es _) fun r64 _=>?_
       refine Ac.z [false,false] ?_
       exact Ac.x 0
   ·refine Ac.z [false,false,false,false,false,false,false,false,false,false,false,false,false,false,false] ?_
    refine Ac.q (e:=vB) (gv:=vB) (Bn _) fun r65 _=>?_
    refine Ac.z [false,false] ?_
    refine Ac.y (gv:=vB) (fun _=>?_) (fun _=>?_)
    ·refine Ac.z [true,true,false,true,false] ?_
     refine Ac.y (gv:=vB) (fun _=>?_) (fun _=>?_)
     ·exact Ac.x 0
     ·refine Ac.q (e:=vB) (gv:=vB) (Bn _) fun r66 _=>?_
      refine Ac.y (gv:=vB) (fun _=>?_) (fun _=>?_)
      ·refine Ac.z [true,true,true,true,true,true,true] ?_
       exact Ac.x 0
      ·refine Ac.z [false,false,false,false,false] ?_
       refine Ac.q (e:=vI) (gv:=vB) (Es _) fun r67 _=>?_
       refine Ac.z [false,false] ?_
       exact Ac.x 0
    ·refine Ac.z [false,false,false,false,false,false] ?_
     refine Ac.q (e:=vB) (gv:=vB) (Bn _) fun r68 _=>?_
     refine Ac.y (gv:=vB) (fun _=>?_) (fun _=>?_)
     ·refine Ac.z [true,true,true,true,true,true,true] ?_
      exact Ac.x 0
     ·refine Ac.z [false,false,false,false,false] ?_
      refine Ac.q (e:=vI) (gv:=vB) (Es _) fun r69 _=>?_
      refine Ac.z [false,false] ?_
      exact Ac.x 0
  ·exact Ve a0 r1 r2 r3 r4 r5 r27 r49
theorem Hu (a0 : Pj) : Br Tryz.prog 41 [] #[L8 a0] (vB (D6 a0)) []:=by
 refine Br.ofH 400 Az mixed Tryz.func41 (by kernel_rfl) (by kernel_rfl) ?_
 unfold D6
 refine Ac.q (e:=vB) (gv:=vB) (Gr _ _ _) fun r1 _=>?_
 refine Ac.y (gv:=vB) (fun _=>?_) (fun _=>?_)
 ·refine Ac.z [true,true,true,true,true,true,true,true,true,true,true,true,true,true,true,true,true,true] ?_
  exact Ac.x 0
 ·refine Ac.z [false,false,false,false,false] ?_
  refine Ac.q (e:=vB) (gv:=vB) (F9 _) fun r2 _=>?_
  refine Ac.z [false,false] ?_
  refine Ac.y (gv:=vB) (fun _=>?_) (fun _=>?_)
  ·refine Ac.z [true,true,true,true,true,true,true,true,true,true] ?_
   exact Ac.x 0
  ·refine Ac.z [false,false] ?_
   refine Ac.q (e:=vB) (gv:=vB) (Z0 _) fun r3 _=>?_
   refine Ac.z [false,false] ?_
   refine Ac.y (gv:=vB) (fun _=>?_) (fun _=>?_)
   ·refine Ac.z [true,true,true,true,true] ?_
    exact Ac.x 0
   ·refine Ac.z [false,false] ?_
    refine Ac.q (e:=vB) (gv:=vB) (Z0 _) fun r4 _=>?_
    refine Ac.z [false,false] ?_
    refine Ac.y (gv:=vB) (fun _=>?_) (fun _=>?_)
    ·exact Ac.x 0
    ·refine Ac.q (e:=vB) (gv:=vB) (S5 _) fun r5 _=>?_
     refine Ac.y (gv:=vB) (fun _=>?_) (fun _=>?_)
     ·exact Vg a0 r1 r2 r3 r4 r5
     ·refine Ac.z [false,false] ?_
      refine Ac.q (e:=vB) (gv:=vB) (Bn _) fun r27 _=>?_
      refine Ac.z [false] ?_
      refine Ac.y (gv:=vB) (fun _=>?_) (fun _=>?_)
      ·exact Vf a0 r1 r2 r3 r4 r5 r27
      ·exact Vd a0 r1 r2 r3 r4 r5 r27
theorem Vb (a0 : Aq) : Br Tryz.prog 47 [] #[vI a0] (vB (J3 a0)) []:=by
 refine Br.ofH 400 Az mixed Tryz.func47 (by kernel_rfl) (by kernel_rfl) ?_
 unfold J3
 refine Ac.q (e:=vB) (gv:=vB) (Gr _ _ _) fun r1 _=>?_
 exact Ac.x 0
theorem rV (a0 : Aq) : Br Tryz.prog 50 [] #[vI a0] (vB (W7 a0)) []:=by
 refine Br.ofH 400 Az mixed Tryz.func50 (by kernel_rfl) (by kernel_rfl) ?_
 unfold W7
 refine Ac.q (e:=vB) (gv:=vB) (Gr _ _ _) fun r1 _=>?_
 exact Ac.x 0
theorem Md (a0 : Aq) : Br Tryz.prog 12 [] #[vI a0] (vI (Mq a0)) []:=by
 refine Br.ofH 400 Az mixed Tryz.func12 (by kernel_rfl) (by kernel_rfl) ?_
 unfold Mq
 refine Ac.q (e:=vB) (gv:=vI) (Vb _) fun r1 _=>?_
 refine Ac.y (gv:=vI) (fun _=>?_) (fun _=>?_)
 ·exact Ac.x 0
 ·refine Ac.q (e:=vB) (gv:=vI) (S5 _) fun r2 _=>?_
  refine Ac.y (gv:=vI) (fun _=>?_) (fun _=>?_)
  ·exact Ac.x 0
  ·refine Ac.q (e:=vB) (gv:=vI) (Bn _) fun r3 _=>?_
   refine Ac.y (gv:=vI) (fun _=>?_) (fun _=>?_)
   ·exact Ac.x 0
   ·refine Ac.q (e:=vB) (gv:=vI) (rV _) fun r4 _=>?_
    refine Ac.y (gv:=vI) (fun _=>?_) (fun _=>?_)
    ·exact Ac.x 0
    ·refine Ac.y (gv:=vI) (fun _=>?_) (fun _=>?_)
     ·exact Ac.x 0
     ·exact Ac.x 0
theorem eE (a0 : Pt) : Br Tryz.prog 103 [] #[E6 a0] (vB (Tx a0)) []:=by
 refine Br.ofH 400 Az mixed Tryz.func103 (by kernel_rfl) (by kernel_rfl) ?_
 unfold Tx
 refine Ac.q (e:=vI) (gv:=vB) (Es _) fun r1 _=>?_
 exact Ac.x 0
theorem Bs : Br Tryz.prog 93 [] #[] (Af (B5)) []:=by
 refine Br.ofH 400 Az mixed Tryz.func93 (by kernel_rfl) (by kernel_rfl) ?_
 unfold B5
 exact Ac.x 0
theorem Hv (a0 : Iv) : Br Tryz.prog 168 [] #[Af a0] (vB (Gc a0)) []:=by
 refine Br.ofH 400 Az mixed Tryz.func168 (by kernel_rfl) (by kernel_rfl) ?_
 unfold Gc
 refine Ac.y (gv:=vB) (fun _=>?_) (fun _=>?_)
 ·refine Ac.z [true,true,true,true,true] ?_
  refine Ac.y (gv:=vB) (fun _=>?_) (fun _=>?_)
  ·refine Ac.z [true,true,true] ?_
   exact Ac.x 0
  ·refine Ac.z [false,false,false] ?_
   exact Ac.x 0
 ·refine Ac.z [false,false,false,false,false,false,false,false,false] ?_
  exact Ac.x 0
theorem D8 (a0 : Iv) : Br Tryz.prog 95 [] #[Af a0] (vB (Dk a0)) []:=by
 refine Br.ofH 400 Az mixed Tryz.func95 (by kernel_rfl) (by kernel_rfl) ?_
 unfold Dk
 refine Ac.q (e:=vB) (gv:=vB) (Hv _) fun r1 _=>?_
 exact Ac.x 0
theorem Sb (a0 : Iv) : Br Tryz.prog 129 [] #[Af a0] (Af (Q2 a0)) []:=by
 refine Br.ofH 400 Az mixed Tryz.func129 (by kernel_rfl) (by kernel_rfl) ?_
 unfold Q2
 refine Ac.q (e:=vB) (gv:=Af) (D8 _) fun r1 _=>?_
 refine Ac.y (gv:=Af) (fun _=>?_) (fun _=>?_)
 ·refine Ac.q (e:=Af) (gv:=Af) (Bs) fun r2 _=>?_
  exact Ac.x 0
 ·exact Ac.x 0
theorem It (a0 : Aq) (a1 : Aq) : Br Tryz.prog 231 [] #[vI a0,vI a1] (Qa (Hl a0 a1)) []:=by
 refine Br.ofH 400 Az mixed Tryz.func231 (by kernel_rfl) (by kernel_rfl) ?_
 unfold Hl
 refine Ac.q (e:=K6) (gv:=Qa) (Zz _ _) fun r1 _=>?_
 refine Ac.y (gv:=Qa) (fun _=>?_) (fun _=>?_)
 ·refine Ac.y (gv:=Qa) (fun _=>?_) (fun _=>?_)
  ·exact Ac.x 0
  ·exact Ac.x 0
 ·refine Ac.y (gv:=Qa) (fun _=>?_) (fun _=>?_)
  ·exact Ac.x 0
  ·exact Ac.x 0
theorem jC (a0 : Dp) (a1 : Dp) (a2 : Dp) (p0 : a2.val ≠ 0) : Br Tryz.prog 280 [] #[vU a0,vU a1,vU a2] (bJ (Sq a0 a1 a2)) []:=by
 refine Br.ofH 400 Az mixed Tryz.func280 (by kernel_rfl) (by kernel_rfl) ?_
 unfold Sq
 refine Ac.k (c:=(decide (a2.val ≠ 0))) (by kernel_rfl) (by first | exact decide_eq_true p0 | exact Y7 _ _ p0) ?_
 refine Ac.k (c:=(decide (a2.val ≠ 0))) (by kernel_rfl) (by first | exact decide_eq_true p0 | exact Y7 _ _ p0) ?_
 refine Ac.q (e:=K6) (gv:=bJ) (lM _ _ _ (by first | exact decide_eq_true p0 | exact Y7 _ _ p0)) fun r1 hr1=>?_
 exact Ac.x 0
theorem Ql (a0 : Wd) : Br Tryz.prog 281 [] #[Qa a0] (Qa (Iy a0)) []:=by
 refine Br.ofH 400 Az mixed Tryz.func281 (by kernel_rfl) (by kernel_rfl) ?_
 unfold Iy
 refine Ac.k (c:=(decide (0 ≤ (0 : Int)) && (decide (0 ≤ (a0.lo.val : Int)) && (decide ((a0.lo.val : Int) ≤ 18446744073709551615) && (decide (0 ≤ (0 : Int)) && decide ((0 : Int) ≤ 1)))))) (by kernel_rfl) (by simp only [Bool.and_eq_true,decide_eq_true_eq]; exact ⟨Dp.lo (Eu 0),Dp.lo a0.lo,Dp.hi a0.lo,Dp.lo (Eu 0),(by decide)⟩) ?_
 refine Ac.k (c:=(decide (0 ≤ (0 : Int)) && (decide (0 ≤ ((Ak a0.hi.val).val : Int)) && (decide (((Ak a0.hi.val).val : Int) ≤ 18446744073709551615) && (decide (0 ≤ ((dY (Eu 0) a0.lo (Eu 0)).val : Int)) && decide (((dY (Eu 0) a0.lo (Eu 0)).val : Int) ≤ 1)))))) (by kernel_rfl) (by simp only [Bool.and_eq_true,decide_eq_true_eq]; exact ⟨Dp.lo (Eu 0),Dp.lo (Ak a0.hi.val),Dp.hi (Ak a0.hi.val),Dp.lo (dY (Eu 0) a0.lo (Eu 0)),(zO _ _ _)⟩) ?_
 exact Ac.x 0
theorem jE (a0 : Wd) (a1 : Aq) : Br Tryz.prog 235 [] #[Qa a0,vI a1] (Kr (Pg a0 a1)) []:=by
 refine Br.ofH 400 Az mixed Tryz.func235 (by kernel_rfl) (by kernel_rfl) ?_
 unfold Pg
 refine Ac.y (gv:=Kr) (fun h1=>?_) (fun h1=>?_)
 ·exact Ac.x 0
 ·refine Ac.y (gv:=Kr) (fun h2=>?_) (fun h2=>?_)
  ·refine Ac.q (e:=bJ) (gv:=Kr) (jC _ _ _ (by have q:=a1.hi; simp only [At,decide_eq_true_eq,decide_eq_false_iff_not] at *; omega)) fun r3 hr3=>?_
   exact Ac.x 0
  ·refine Ac.q (e:=Qa) (gv:=Kr) (Ql _) fun r4 hr4=>?_
   refine Ac.q (e:=bJ) (gv:=Kr) (jC _ _ _ (by have q:=a1.hi; simp only [At,decide_eq_true_eq,decide_eq_false_iff_not] at *; omega)) fun r5 hr5=>?_
   refine Ac.y (gv:=Kr) (fun h6=>?_) (fun h6=>?_)
   ·refine Ac.q (e:=Qa) (gv:=Kr) (Ql _) fun r7 hr7=>?_
    exact Ac.x 0
   ·refine Ac.k (c:=(decide (0 ≤ (r5.2.1.val : Int)) && (decide (0 ≤ (1 : Int)) && (decide (0 ≤ (0 : Int)) && decide ((0 : Int) ≤ 1))))) (by kernel_rfl) (by simp only [Bool.and_eq_true,decide_eq_true_eq]; exact ⟨Dp.lo r5.2.1,Dp.lo (Eu 1),Dp.lo (Eu 0),(by decide)⟩) ?_
    refine Ac.q (e:=Qa) (gv:=Kr) (Ql _) fun r8 hr8=>?_
    exact Ac.x 0
theorem Aaj (a0 : Aq) : Br Tryz.prog 272 [] #[vI a0] (Qa (Yo a0)) []:=by
 refine Br.ofH 400 Az mixed Tryz.func272 (by kernel_rfl) (by kernel_rfl) ?_
 unfold Yo
 refine Ac.z [true] ?_
 exact Ac.x 0
theorem aN (a0 : Wd) : Br Tryz.prog 229 [] #[Qa a0] (Ax (Qz a0)) []:=by
 refine Br.ofH 400 Az mixed Tryz.func229 (by kernel_rfl) (by kernel_rfl) ?_
 unfold Qz
 refine Ac.q (e:=Qa) (gv:=Ax) (Aaj _) fun r1 _=>?_
 refine Ac.y (gv:=Ax) (fun _=>?_) (fun _=>?_)
 ·exact Ac.x 0
 ·exact Ac.x 0
theorem Mc (a0 : Aq) (a1 : Aq) (a2 : Aq) : Br Tryz.prog 173 [] #[vI a0,vI a1,vI a2] (Ax (H8 a0 a1 a2)) []:=by
 refine Br.ofH 400 Az mixed Tryz.func173 (by kernel_rfl) (by kernel_rfl) ?_
 unfold H8
 refine Ac.q (e:=Qa) (gv:=Ax) (It _ _) fun r1 _=>?_
 refine Ac.q (e:=Kr) (gv:=Ax) (jE _ _) fun r2 _=>?_
 refine Ac.y (gv:=Ax) (fun _=>?_) (fun _=>?_)
 ·exact Ac.x 0
 ·refine Ac.q (e:=Ax) (gv:=Ax) (aN _) fun r3 _=>?_
  exact Ac.x 0
theorem jG : ∀ (fu : Nat) (a0 : Aq) (hm : min (0 - a0.val).toNat 1 < fu),Br Tryz.prog 105 [] #[vI a0] (Af (Ko fu a0)) []:=by
 intro fu
 induction fu with
 | zero=>intro a0 hm; exact absurd hm (Nat.not_lt_zero _)
 | succ fu ih=>
  intro a0 hm
  refine Br.ofH 400 Az mixed Tryz.func105 (by kernel_rfl) (by kernel_rfl) ?_
  unfold Ko
  refine Ac.q (e:=vB) (gv:=Af) (Gr _ _ _) fun r1 hr1=>?_
  refine Ac.y (gv:=Af) (fun h2=>?_) (fun h2=>?_)
  ·refine Ac.q (e:=Af) (gv:=Af) (Bs) fun r3 hr3=>?_
   exact Ac.x 0
  ·refine Ac.y (gv:=Af) (fun h4=>?_) (fun h4=>?_)
   ·refine Ac.q (e:=Af) (gv:=Af) (ih (An (0 - a0.val)) (by rw [hr1] at h2; simp [Dg,Aj] at h2; simp only [Ad,decide_eq_true_eq,decide_eq_false_iff_not] at *; omega)) fun r5 hr5=>?_
    refine Ac.q (e:=Af) (gv:=Af) (Sb _) fun r6 hr6=>?_
    exact Ac.x 0
   ·refine Ac.y (gv:=Af) (fun h7=>?_) (fun h7=>?_)
    ·exact Ac.x 0
    ·refine Ac.q (e:=Ax) (gv:=Af) (Mc _ _ _) fun r8 hr8=>?_
     refine Ac.q (e:=Ax) (gv:=Af) (Mc _ _ _) fun r9 hr9=>?_
     exact Ac.x 0
theorem J6 (a0 : Aq) : Br Tryz.prog 105 [] #[vI a0] (Af (Id a0)) []:=jG 2 a0 (by omega)
theorem Wa (a0 : Aq) : Br Tryz.prog 274 [] #[vI a0] (vB (Lz a0)) []:=by
 refine Br.ofH 400 Az mixed Tryz.func274 (by kernel_rfl) (by kernel_rfl) ?_
 unfold Lz
 refine Ac.q (e:=vB) (gv:=vB) (Gr _ _ _) fun r1 _=>?_
 exact Ac.x 0
theorem cK (a0 : Iv) : Br Tryz.prog 232 [] #[Af a0] (vB (Pf a0)) []:=by
 refine Br.ofH 400 Az mixed Tryz.func232 (by kernel_rfl) (by kernel_rfl) ?_
 unfold Pf
 refine Ac.q (e:=vB) (gv:=vB) (Hv _) fun r1 _=>?_
 refine Ac.y (gv:=vB) (fun _=>?_) (fun _=>?_)
 ·refine Ac.z [true,true] ?_
  refine Ac.q (e:=vB) (gv:=vB) (Wa _) fun r2 _=>?_
  refine Ac.z [true] ?_
  refine Ac.y (gv:=vB) (fun _=>?_) (fun _=>?_)
  ·refine Ac.z [true,true] ?_
   refine Ac.q (e:=vB) (gv:=vB) (Wa _) fun r3 _=>?_
   refine Ac.z [true] ?_
   exact Ac.x 0
  ·refine Ac.z [false,false,false] ?_
   exact Ac.x 0
 ·refine Ac.z [false,false,false,false,false,false,false] ?_
  exact Ac.x 0
theorem Y1 : Br Tryz.prog 123 [] #[] (Af (Tw)) []:=by
 refine Br.ofH 400 Az mixed Tryz.func123 (by kernel_rfl) (by kernel_rfl) ?_
 unfold Tw
 exact Ac.x 0
theorem We (a0 : Aq) : Br Tryz.prog 275 [] #[vI a0] (vI (En a0)) []:=by
 refine Br.ofH 400 Az mixed Tryz.func275 (by kernel_rfl) (by kernel_rfl) ?_
 unfold En
 refine Ac.q (e:=vB) (gv:=vI) (Wa _) fun r1 _=>?_
 refine Ac.y (gv:=vI) (fun _=>?_) (fun _=>?_)
 ·exact Ac.x 0
 ·refine Ac.z [true] ?_
  refine Ac.y (gv:=vI) (fun _=>?_) (fun _=>?_)
  ·exact Ac.x 0
  ·exact Ac.x 0
theorem Mb (a0 : Aq) : Br Tryz.prog 202 [] #[vI a0] (Af (Ov a0)) []:=by
 refine Br.ofH 400 Az mixed Tryz.func202 (by kernel_rfl) (by kernel_rfl) ?_
 unfold Ov
 exact Ac.x 0
theorem oU (a0 : Wd) (a1 : Aq) : Br Tryz.prog 230 [] #[Qa a0,vI a1] (Qa (Rt a0 a1)) []:=by
 refine Br.ofH 400 Az mixed Tryz.func230 (by kernel_rfl) (by kernel_rfl) ?_
 unfold Rt
 refine Ac.q (e:=vB) (gv:=Qa) (Gr _ _ _) fun r1 hr1=>?_
 refine Ac.y (gv:=Qa) (fun h2=>?_) (fun h2=>?_)
 ·exact Ac.x 0
 ·refine Ac.y (gv:=Qa) (fun h3=>?_) (fun h3=>?_)
  ·refine Ac.z [true] ?_
   refine Ac.k (c:=(decide (0 ≤ (An (a1.val - 64)).val))) (by kernel_rfl) (by have q:=a1.hi; rw [hr1] at h2; simp [Dg,Aj] at h2; simp only [Ad,decide_eq_true_eq,decide_eq_false_iff_not] at *; omega) ?_
   exact Ac.x 0
  ·refine Ac.k (c:=(decide (0 ≤ a1.val))) (by kernel_rfl) (by have q:=a1.hi; rw [hr1] at h2; simp [Dg,Aj] at h2; simp only [Ad,decide_eq_true_eq,decide_eq_false_iff_not] at *; omega) ?_
   refine Ac.k (c:=(decide (0 ≤ a1.val))) (by kernel_rfl) (by have q:=a1.hi; rw [hr1] at h2; simp [Dg,Aj] at h2; simp only [Ad,decide_eq_true_eq,decide_eq_false_iff_not] at *; omega) ?_
   refine Ac.k (c:=(decide (0 ≤ (An (64 - a1.val)).val))) (by kernel_rfl) (by have q:=a1.hi; rw [hr1] at h2; simp [Dg,Aj] at h2; simp only [Ad,decide_eq_true_eq,decide_eq_false_iff_not] at *; omega) ?_
   exact Ac.x 0
theorem Uf (a0 : Aq) (a1 : Aq) (a2 : Aq) : Br Tryz.prog 171 [] #[vI a0,vI a1,vI a2] (Ax (Mo a0 a1 a2)) []:=by
 refine Br.ofH 400 Az mixed Tryz.func171 (by kernel_rfl) (by kernel_rfl) ?_
 unfold Mo
 refine Ac.q (e:=vB) (gv:=Ax) (Gr _ _ _) fun r1 _=>?_
 refine Ac.y (gv:=Ax) (fun _=>?_) (fun _=>?_)
 ·exact Ac.x 0
 ·refine Ac.q (e:=Qa) (gv:=Ax) (It _ _) fun r2 _=>?_
  refine Ac.q (e:=Qa) (gv:=Ax) (oU _ _) fun r3 _=>?_
  refine Ac.q (e:=Ax) (gv:=Ax) (aN _) fun r4 _=>?_
  exact Ac.x 0
theorem vW : ∀ (fu : Nat) (a0 : Aq) (hm : min (0 - a0.val).toNat 1 < fu),Br Tryz.prog 210 [] #[vI a0] (Af (Sr fu a0)) []:=by
 intro fu
 induction fu with
 | zero=>intro a0 hm; exact absurd hm (Nat.not_lt_zero _)
 | succ fu ih=>
  intro a0 hm
  refine Br.ofH 400 Az mixed Tryz.func210 (by kernel_rfl) (by kernel_rfl) ?_
  unfold Sr
  refine Ac.q (e:=vB) (gv:=Af) (Gr _ _ _) fun r1 hr1=>?_
  refine Ac.y (gv:=Af) (fun h2=>?_) (fun h2=>?_)
  ·refine Ac.q (e:=Af) (gv:=Af) (Bs) fun r3 hr3=>?_
   exact Ac.x 0
  ·refine Ac.y (gv:=Af) (fun h4=>?_) (fun h4=>?_)
   ·refine Ac.q (e:=Af) (gv:=Af) (ih (An (0 - a0.val)) (by rw [hr1] at h2; simp [Dg,Aj] at h2; simp only [Ad,decide_eq_true_eq,decide_eq_false_iff_not] at *; omega)) fun r5 hr5=>?_
    refine Ac.q (e:=Af) (gv:=Af) (Sb _) fun r6 hr6=>?_
    exact Ac.x 0
   ·refine Ac.y (gv:=Af) (fun h7=>?_) (fun h7=>?_)
    ·exact Ac.x 0
    ·refine Ac.q (e:=Ax) (gv:=Af) (Uf _ _ _) fun r8 hr8=>?_
     exact Ac.x 0
theorem Kv (a0 : Aq) : Br Tryz.prog 210 [] #[vI a0] (Af (H7 a0)) []:=vW 2 a0 (by omega)
theorem F8 (a0 : Iv) (a1 : Iv) : Br Tryz.prog 96 [] #[Af a0,Af a1] (vB (El a0 a1)) []:=by
 refine Br.ofH 400 Az mixed Tryz.func96 (by kernel_rfl) (by kernel_rfl) ?_
 unfold El
 refine Ac.q (e:=vB) (gv:=vB) (Hv _) fun r1 _=>?_
 refine Ac.y (gv:=vB) (fun _=>?_) (fun _=>?_)
 ·refine Ac.z [true] ?_
  refine Ac.q (e:=vB) (gv:=vB) (Hv _) fun r2 _=>?_
  refine Ac.z [true] ?_
  exact Ac.x 0
 ·refine Ac.z [false,false] ?_
  exact Ac.x 0
theorem F0 (a0 : Aq) (a1 : Aq) (a2 : Bool) : Br Tryz.prog 94 [] #[vI a0,vI a1,vB a2] (Af (Ej a0 a1 a2)) []:=by
 refine Br.ofH 400 Az mixed Tryz.func94 (by kernel_rfl) (by kernel_rfl) ?_
 unfold Ej
 refine Ac.y (gv:=Af) (fun _=>?_) (fun _=>?_)
 ·refine Ac.z [true] ?_
  refine Ac.q (e:=vB) (gv:=Af) (Hv _) fun r1 _=>?_
  refine Ac.z [true] ?_
  refine Ac.y (gv:=Af) (fun _=>?_) (fun _=>?_)
  ·exact Ac.x 0
  ·refine Ac.q (e:=Af) (gv:=Af) (Bs) fun r2 _=>?_
   exact Ac.x 0
 ·refine Ac.z [false,false,false] ?_
  refine Ac.q (e:=Af) (gv:=Af) (Bs) fun r3 _=>?_
  exact Ac.x 0
theorem Cx (a0 : Iv) (a1 : Iv) : Br Tryz.prog 61 [] #[Af a0,Af a1] (Af (Dc a0 a1)) []:=by
 refine Br.ofH 400 Az mixed Tryz.func61 (by kernel_rfl) (by kernel_rfl) ?_
 unfold Dc
 refine Ac.q (e:=vB) (gv:=Af) (F8 _ _) fun r1 _=>?_
 refine Ac.y (gv:=Af) (fun _=>?_) (fun _=>?_)
 ·refine Ac.q (e:=Af) (gv:=Af) (Bs) fun r2 _=>?_
  exact Ac.x 0
 ·refine Ac.q (e:=Af) (gv:=Af) (F0 _ _ _) fun r3 _=>?_
  exact Ac.x 0
theorem D1 (a0 : Iv) (a1 : Iv) : Br Tryz.prog 60 [] #[Af a0,Af a1] (Af (Em a0 a1)) []:=by
 refine Br.ofH 400 Az mixed Tryz.func60 (by kernel_rfl) (by kernel_rfl) ?_
 unfold Em
 refine Ac.q (e:=Af) (gv:=Af) (Sb _) fun r1 _=>?_
 refine Ac.q (e:=Af) (gv:=Af) (Cx _ _) fun r2 _=>?_
 exact Ac.x 0
theorem aP (a0 : Iv) (a1 : Iv) : Br Tryz.prog 300 [] #[Af a0,Af a1] (vB (Q3 a0 a1)) []:=by
 refine Br.ofH 400 Az mixed Tryz.func300 (by kernel_rfl) (by kernel_rfl) ?_
 unfold Q3
 refine Ac.q (e:=vB) (gv:=vB) (D8 _) fun r1 _=>?_
 refine Ac.y (gv:=vB) (fun _=>?_) (fun _=>?_)
 ·refine Ac.z [true,true,true] ?_
  refine Ac.q (e:=vB) (gv:=vB) (D8 _) fun r2 _=>?_
  exact Ac.x 0
 ·refine Ac.z [false] ?_
  refine Ac.q (e:=vB) (gv:=vB) (D8 _) fun r3 _=>?_
  refine Ac.z [false] ?_
  refine Ac.y (gv:=vB) (fun _=>?_) (fun _=>?_)
  ·refine Ac.q (e:=vB) (gv:=vB) (D8 _) fun r4 _=>?_
   exact Ac.x 0
  ·refine Ac.y (gv:=vB) (fun _=>?_) (fun _=>?_)
   ·refine Ac.z [true,true,true,true,true] ?_
    exact Ac.x 0
   ·refine Ac.z [false,false,false,false,false] ?_
    exact Ac.x 0
theorem gL (a0 : Iv) (a1 : Aq) : Br Tryz.prog 126 [] #[Af a0,vI a1] (vB (U4 a0 a1)) []:=by
 refine Br.ofH 400 Az mixed Tryz.func126 (by kernel_rfl) (by kernel_rfl) ?_
 unfold U4
 refine Ac.q (e:=vB) (gv:=vB) (D8 _) fun r1 _=>?_
 refine Ac.y (gv:=vB) (fun _=>?_) (fun _=>?_)
 ·refine Ac.z [true,true,true,true,true,true] ?_
  exact Ac.x 0
 ·refine Ac.z [false,false,false,false,false] ?_
  refine Ac.q (e:=vB) (gv:=vB) (Gr _ _ _) fun r2 _=>?_
  refine Ac.z [false] ?_
  exact Ac.x 0
theorem cV (a0 : Iv) : Br Tryz.prog 59 [] #[Af a0] (Af (R6 a0)) []:=by
 refine Br.ofH 400 Az mixed Tryz.func59 (by kernel_rfl) (by kernel_rfl) ?_
 unfold R6
 refine Ac.q (e:=vB) (gv:=Af) (D8 _) fun r1 _=>?_
 refine Ac.y (gv:=Af) (fun _=>?_) (fun _=>?_)
 ·refine Ac.q (e:=Af) (gv:=Af) (Bs) fun r2 _=>?_
  exact Ac.x 0
 ·refine Ac.q (e:=vI) (gv:=Af) (Es _) fun r3 _=>?_
  refine Ac.q (e:=vI) (gv:=Af) (Es _) fun r4 _=>?_
  refine Ac.q (e:=vI) (gv:=Af) (Es _) fun r5 _=>?_
  refine Ac.q (e:=vI) (gv:=Af) (Es _) fun r6 _=>?_
  refine Ac.q (e:=vB) (gv:=Af) (gL _ _) fun r7 _=>?_
  refine Ac.y (gv:=Af) (fun _=>?_) (fun _=>?_)
  ·exact Ac.x 0
  ·exact Ac.x 0
theorem Hm (a0 : Aq) : Br Tryz.prog 169 [] #[vI a0] (vB (Fr a0)) []:=by
 refine Br.ofH 400 Az mixed Tryz.func169 (by kernel_rfl) (by kernel_rfl) ?_
 unfold Fr
 refine Ac.q (e:=vB) (gv:=vB) (Gr _ _ _) fun r1 _=>?_
 exact Ac.x 0
theorem Pw (a0 : Aq) (a1 : Bool) : Br Tryz.prog 170 [] #[vI a0,vB a1] (Ax (Og a0 a1)) []:=by
 refine Br.ofH 400 Az mixed Tryz.func170 (by kernel_rfl) (by kernel_rfl) ?_
 unfold Og
 refine Ac.y (gv:=Ax) (fun _=>?_) (fun _=>?_)
 ·refine Ac.z [true,true,true,true] ?_
  exact Ac.x 0
 ·refine Ac.z [false] ?_
  refine Ac.q (e:=vB) (gv:=Ax) (Hm _) fun r1 _=>?_
  refine Ac.z [false,false] ?_
  refine Ac.y (gv:=Ax) (fun _=>?_) (fun _=>?_)
  ·exact Ac.x 0
  ·exact Ac.x 0
theorem Qm (a0 : Aq) (a1 : Aq) : Br Tryz.prog 98 [] #[vI a0,vI a1] (Ax (L0 a0 a1)) []:=by
 refine Br.ofH 400 Az mixed Tryz.func98 (by kernel_rfl) (by kernel_rfl) ?_
 unfold L0
 refine Ac.q (e:=vB) (gv:=Ax) (Hm _) fun r1 _=>?_
 refine Ac.y (gv:=Ax) (fun _=>?_) (fun _=>?_)
 ·refine Ac.z [true,true,true,true] ?_
  exact Ac.x 0
 ·refine Ac.z [false] ?_
  refine Ac.q (e:=vB) (gv:=Ax) (Hm _) fun r2 _=>?_
  refine Ac.z [false,false] ?_
  refine Ac.y (gv:=Ax) (fun _=>?_) (fun _=>?_)
  ·exact Ac.x 0
  ·refine Ac.q (e:=Ax) (gv:=Ax) (Uf _ _ _) fun r3 _=>?_
   refine Ac.q (e:=Ax) (gv:=Ax) (Pw _ _) fun r4 _=>?_
   exact Ac.x 0
theorem X3 (a0 : Aq) (a1 : Aq) : Br Tryz.prog 99 [] #[vI a0,vI a1] (Ax (Si a0 a1)) []:=by
 refine Br.ofH 400 Az mixed Tryz.func99 (by kernel_rfl) (by kernel_rfl) ?_
 unfold Si
 refine Ac.q (e:=vB) (gv:=Ax) (Hm _) fun r1 _=>?_
 refine Ac.y (gv:=Ax) (fun _=>?_) (fun _=>?_)
 ·refine Ac.z [true,true,true,true] ?_
  exact Ac.x 0
 ·refine Ac.z [false] ?_
  refine Ac.q (e:=vB) (gv:=Ax) (Hm _) fun r2 _=>?_
  refine Ac.z [false,false] ?_
  refine Ac.y (gv:=Ax) (fun _=>?_) (fun _=>?_)
  ·exact Ac.x 0
  ·refine Ac.q (e:=Ax) (gv:=Ax) (Qm _ _) fun r3 _=>?_
   exact Ac.x 0
theorem Py (a0 : Iv) : Br Tryz.prog 118 [] #[Af a0] (Af (Ow a0)) []:=by
 refine Br.ofH 400 Az mixed Tryz.func118 (by kernel_rfl) (by kernel_rfl) ?_
 unfold Ow
 refine Ac.q (e:=vB) (gv:=Af) (D8 _) fun r1 _=>?_
 refine Ac.y (gv:=Af) (fun _=>?_) (fun _=>?_)
 ·refine Ac.q (e:=Af) (gv:=Af) (Bs) fun r2 _=>?_
  exact Ac.x 0
 ·refine Ac.q (e:=Af) (gv:=Af) (cV _) fun r3 _=>?_
  refine Ac.q (e:=Ax) (gv:=Af) (Qm _ _) fun r4 _=>?_
  refine Ac.q (e:=Ax) (gv:=Af) (X3 _ _) fun r5 _=>?_
  refine Ac.y (gv:=Af) (fun _=>?_) (fun _=>?_)
  ·refine Ac.z [true] ?_
   refine Ac.q (e:=Af) (gv:=Af) (F0 _ _ _) fun r6 _=>?_
   exact Ac.x 0
  ·refine Ac.z [false] ?_
   refine Ac.q (e:=Af) (gv:=Af) (F0 _ _ _) fun r7 _=>?_
   exact Ac.x 0
theorem Av (a0 : Aq) : Br Tryz.prog 33 [] #[vI a0] (Af (A0 a0)) []:=by
 refine Br.ofH 400 Az mixed Tryz.func33 (by kernel_rfl) (by kernel_rfl) ?_
 unfold A0
 refine Ac.q (e:=vB) (gv:=Af) (Gr _ _ _) fun r1 _=>?_
 refine Ac.y (gv:=Af) (fun _=>?_) (fun _=>?_)
 ·refine Ac.q (e:=Af) (gv:=Af) (Bs) fun r2 _=>?_
  exact Ac.x 0
 ·refine Ac.q (e:=Af) (gv:=Af) (F0 _ _ _) fun r3 _=>?_
  exact Ac.x 0
theorem S7 (a0 : Aq) (a1 : Aq) : Br Tryz.prog 127 [] #[vI a0,vI a1] (Ax (Ng a0 a1)) []:=by
 refine Br.ofH 400 Az mixed Tryz.func127 (by kernel_rfl) (by kernel_rfl) ?_
 unfold Ng
 refine Ac.q (e:=vB) (gv:=Ax) (Hm _) fun r1 _=>?_
 refine Ac.y (gv:=Ax) (fun _=>?_) (fun _=>?_)
 ·refine Ac.z [true,true,true,true] ?_
  exact Ac.x 0
 ·refine Ac.z [false] ?_
  refine Ac.q (e:=vB) (gv:=Ax) (Hm _) fun r2 _=>?_
  refine Ac.z [false,false] ?_
  refine Ac.y (gv:=Ax) (fun _=>?_) (fun _=>?_)
  ·exact Ac.x 0
  ·refine Ac.y (gv:=Ax) (fun _=>?_) (fun _=>?_)
   ·refine Ac.q (e:=Ax) (gv:=Ax) (Mc _ _ _) fun r3 _=>?_
    refine Ac.q (e:=Ax) (gv:=Ax) (Pw _ _) fun r4 _=>?_
    exact Ac.x 0
   ·refine Ac.q (e:=Ax) (gv:=Ax) (Mc _ _ _) fun r5 _=>?_
    refine Ac.q (e:=Ax) (gv:=Ax) (Pw _ _) fun r6 _=>?_
    exact Ac.x 0
theorem cP (a0 : Aq) (a1 : Aq) : Br Tryz.prog 128 [] #[vI a0,vI a1] (Ax (Us a0 a1)) []:=by
 refine Br.ofH 400 Az mixed Tryz.func128 (by kernel_rfl) (by kernel_rfl) ?_
 unfold Us
 refine Ac.q (e:=vB) (gv:=Ax) (Hm _) fun r1 _=>?_
 refine Ac.y (gv:=Ax) (fun _=>?_) (fun _=>?_)
 ·refine Ac.z [true,true,true,true] ?_
  exact Ac.x 0
 ·refine Ac.z [false] ?_
  refine Ac.q (e:=vB) (gv:=Ax) (Hm _) fun r2 _=>?_
  refine Ac.z [false,false] ?_
  refine Ac.y (gv:=Ax) (fun _=>?_) (fun _=>?_)
  ·exact Ac.x 0
  ·refine Ac.q (e:=Ax) (gv:=Ax) (S7 _ _) fun r3 _=>?_
   exact Ac.x 0
theorem No (a0 : Iv) (a1 : Iv) : Br Tryz.prog 97 [] #[Af a0,Af a1,.func (.func 127) #[] #[],.func (.func 128) #[] #[]] (Af (E5 a0 a1)) []:=by
 refine Br.ofH 400 Az mixed Tryz.func97 (by kernel_rfl) (by kernel_rfl) ?_
 unfold E5
 refine Ac.u 400 Az mixed Tryz.func97 ?_
 refine Ac.z [true] ?_
 refine Ac.u 400 Az mixed Tryz.func97 ?_
 refine Ac.z [true] ?_
 refine Ac.q (e:=Ax) (gv:=Af) (S7 _ _) fun r1 _=>?_
 refine Ac.q (e:=Ax) (gv:=Af) (cP _ _) fun r2 _=>?_
 refine Ac.y (gv:=Af) (fun _=>?_) (fun _=>?_)
 ·refine Ac.z [true,true,true] ?_
  refine Ac.q (e:=Af) (gv:=Af) (Bs) fun r3 _=>?_
  exact Ac.x 0
 ·refine Ac.z [false,false] ?_
  refine Ac.y (gv:=Af) (fun _=>?_) (fun _=>?_)
  ·refine Ac.q (e:=Af) (gv:=Af) (Bs) fun r4 _=>?_
   exact Ac.x 0
  ·refine Ac.z [true] ?_
   refine Ac.u 400 Az mixed Tryz.func97 ?_
   refine Ac.z [true] ?_
   refine Ac.q (e:=Ax) (gv:=Af) (S7 _ _) fun r5 _=>?_
   refine Ac.q (e:=Ax) (gv:=Af) (cP _ _) fun r6 _=>?_
   refine Ac.y (gv:=Af) (fun _=>?_) (fun _=>?_)
   ·refine Ac.z [true,true,true] ?_
    refine Ac.q (e:=Af) (gv:=Af) (Bs) fun r7 _=>?_
    exact Ac.x 0
   ·refine Ac.z [false,false] ?_
    refine Ac.y (gv:=Af) (fun _=>?_) (fun _=>?_)
    ·refine Ac.q (e:=Af) (gv:=Af) (Bs) fun r8 _=>?_
     exact Ac.x 0
    ·refine Ac.z [false] ?_
     refine Ac.u 400 Az mixed Tryz.func97 ?_
     refine Ac.z [false] ?_
     refine Ac.u 400 Az mixed Tryz.func97 ?_
     refine Ac.z [true] ?_
     refine Ac.u 400 Az mixed Tryz.func97 ?_
     refine Ac.z [true] ?_
     refine Ac.q (e:=Ax) (gv:=Af) (S7 _ _) fun r9 _=>?_
     refine Ac.q (e:=Ax) (gv:=Af) (cP _ _) fun r10 _=>?_
     refine Ac.y (gv:=Af) (fun _=>?_) (fun _=>?_)
     ·refine Ac.z [true,true,true] ?_
      refine Ac.q (e:=Af) (gv:=Af) (Bs) fun r11 _=>?_
      exact Ac.x 0
     ·refine Ac.z [false,false] ?_
      refine Ac.y (gv:=Af) (fun _=>?_) (fun _=>?_)
      ·refine Ac.q (e:=Af) (gv:=Af) (Bs) fun r12 _=>?_
       exact Ac.x 0
      ·refine Ac.z [false] ?_
       refine Ac.u 400 Az mixed Tryz.func97 ?_
       refine Ac.z [true] ?_
       refine Ac.q (e:=Ax) (gv:=Af) (S7 _ _) fun r13 _=>?_
       refine Ac.q (e:=Ax) (gv:=Af) (cP _ _) fun r14 _=>?_
       refine Ac.y (gv:=Af) (fun _=>?_) (fun _=>?_)
       ·refine Ac.z [true,true,true] ?_
        refine Ac.q (e:=Af) (gv:=Af) (Bs) fun r15 _=>?_
        exact Ac.x 0
       ·refine Ac.z [false,false] ?_
        refine Ac.y (gv:=Af) (fun _=>?_) (fun _=>?_)
        ·refine Ac.q (e:=Af) (gv:=Af) (Bs) fun r16 _=>?_
         exact Ac.x 0
        ·refine Ac.z [false] ?_
         refine Ac.u 400 Az mixed Tryz.func97 ?_
         refine Ac.z [false] ?_
         refine Ac.u 400 Az mixed Tryz.func97 ?_
         refine Ac.z [false] ?_
         refine Ac.q (e:=Af) (gv:=Af) (F0 _ _ _) fun r17 _=>?_
         exact Ac.x 0
theorem Cf (a0 : Iv) (a1 : Iv) : Br Tryz.prog 58 [] #[Af a0,Af a1] (Af (C2 a0 a1)) []:=by
 refine Br.ofH 400 Az mixed Tryz.func58 (by kernel_rfl) (by kernel_rfl) ?_
 unfold C2
 refine Ac.q (e:=vB) (gv:=Af) (F8 _ _) fun r1 _=>?_
 refine Ac.y (gv:=Af) (fun _=>?_) (fun _=>?_)
 ·refine Ac.z [true,true,true] ?_
  refine Ac.q (e:=Af) (gv:=Af) (Bs) fun r2 _=>?_
  exact Ac.x 0
 ·refine Ac.z [false] ?_
  refine Ac.q (e:=vB) (gv:=Af) (gL _ _) fun r3 _=>?_
  refine Ac.z [false] ?_
  refine Ac.y (gv:=Af) (fun _=>?_) (fun _=>?_)
  ·refine Ac.q (e:=Af) (gv:=Af) (Bs) fun r4 _=>?_
   exact Ac.x 0
  ·refine Ac.q (e:=Af) (gv:=Af) (No _ _) fun r5 _=>?_
   exact Ac.x 0
theorem Nn (a0 : Iv) (a1 : Iv) : Br Tryz.prog 97 [] #[Af a0,Af a1,.func (.func 98) #[] #[],.func (.func 99) #[] #[]] (Af (E4 a0 a1)) []:=by
 refine Br.ofH 400 Az mixed Tryz.func97 (by kernel_rfl) (by kernel_rfl) ?_
 unfold E4
 refine Ac.u 400 Az mixed Tryz.func97 ?_
 refine Ac.z [true] ?_
 refine Ac.u 400 Az mixed Tryz.func97 ?_
 refine Ac.z [true] ?_
 refine Ac.q (e:=Ax) (gv:=Af) (Qm _ _) fun r1 _=>?_
 refine Ac.q (e:=Ax) (gv:=Af) (X3 _ _) fun r2 _=>?_
 refine Ac.y (gv:=Af) (fun _=>?_) (fun _=>?_)
 ·refine Ac.z [true,true,true] ?_
  refine Ac.q (e:=Af) (gv:=Af) (Bs) fun r3 _=>?_
  exact Ac.x 0
 ·refine Ac.z [false,false] ?_
  refine Ac.y (gv:=Af) (fun _=>?_) (fun _=>?_)
  ·refine Ac.q (e:=Af) (gv:=Af) (Bs) fun r4 _=>?_
   exact Ac.x 0
  ·refine Ac.z [true] ?_
   refine Ac.u 400 Az mixed Tryz.func97 ?_
   refine Ac.z [true] ?_
   refine Ac.q (e:=Ax) (gv:=Af) (Qm _ _) fun r5 _=>?_
   refine Ac.q (e:=Ax) (gv:=Af) (X3 _ _) fun r6 _=>?_
   refine Ac.y (gv:=Af) (fun _=>?_) (fun _=>?_)
   ·refine Ac.z [true,true,true] ?_
    refine Ac.q (e:=Af) (gv:=Af) (Bs) fun r7 _=>?_
    exact Ac.x 0
   ·refine Ac.z [false,false] ?_
    refine Ac.y (gv:=Af) (fun _=>?_) (fun _=>?_)
    ·refine Ac.q (e:=Af) (gv:=Af) (Bs) fun r8 _=>?_
     exact Ac.x 0
    ·refine Ac.z [false] ?_
     refine Ac.u 400 Az mixed Tryz.func97 ?_
     refine Ac.z [false] ?_
     refine Ac.u 400 Az mixed Tryz.func97 ?_
     refine Ac.z [true] ?_
     refine Ac.u 400 Az mixed Tryz.func97 ?_
     refine Ac.z [true] ?_
     refine Ac.q (e:=Ax) (gv:=Af) (Qm _ _) fun r9 _=>?_
     refine Ac.q (e:=Ax) (gv:=Af) (X3 _ _) fun r10 _=>?_
     refine Ac.y (gv:=Af) (fun _=>?_) (fun _=>?_)
     ·refine Ac.z [true,true,true] ?_
      refine Ac.q (e:=Af) (gv:=Af) (Bs) fun r11 _=>?_
      exact Ac.x 0
     ·refine Ac.z [false,false] ?_
      refine Ac.y (gv:=Af) (fun _=>?_) (fun _=>?_)
      ·refine Ac.q (e:=Af) (gv:=Af) (Bs) fun r12 _=>?_
       exact Ac.x 0
      ·refine Ac.z [false] ?_
       refine Ac.u 400 Az mixed Tryz.func97 ?_
       refine Ac.z [true] ?_
       refine Ac.q (e:=Ax) (gv:=Af) (Qm _ _) fun r13 _=>?_
       refine Ac.q (e:=Ax) (gv:=Af) (X3 _ _) fun r14 _=>?_
       refine Ac.y (gv:=Af) (fun _=>?_) (fun _=>?_)
       ·refine Ac.z [true,true,true] ?_
        refine Ac.q (e:=Af) (gv:=Af) (Bs) fun r15 _=>?_
        exact Ac.x 0
       ·refine Ac.z [false,false] ?_
        refine Ac.y (gv:=Af) (fun _=>?_) (fun _=>?_)
        ·refine Ac.q (e:=Af) (gv:=Af) (Bs) fun r16 _=>?_
         exact Ac.x 0
        ·refine Ac.z [false] ?_
         refine Ac.u 400 Az mixed Tryz.func97 ?_
         refine Ac.z [false] ?_
         refine Ac.u 400 Az mixed Tryz.func97 ?_
         refine Ac.z [false] ?_
         refine Ac.q (e:=Af) (gv:=Af) (F0 _ _ _) fun r17 _=>?_
         exact Ac.x 0
theorem Bk (a0 : Iv) (a1 : Iv) : Br Tryz.prog 35 [] #[Af a0,Af a1] (Af (B0 a0 a1)) []:=by
 refine Br.ofH 400 Az mixed Tryz.func35 (by kernel_rfl) (by kernel_rfl) ?_
 unfold B0
 refine Ac.q (e:=vB) (gv:=Af) (F8 _ _) fun r1 _=>?_
 refine Ac.y (gv:=Af) (fun _=>?_) (fun _=>?_)
 ·refine Ac.q (e:=Af) (gv:=Af) (Bs) fun r2 _=>?_
  exact Ac.x 0
 ·refine Ac.q (e:=Af) (gv:=Af) (Nn _ _) fun r3 _=>?_
  exact Ac.x 0
end Go.Proofs.YtfhnlkinjbakgaaGreat.Abs
