/- The program's functions are these; part 3 (written by w.py). -/
import Derived.Test.YtbipmdgocmdgdaaGreatCsE
import Derived.Test.YtbipmdgocmdgdaaGreatCsF3
import Derived.Test.YtbipmdgocmdgdaaGreatCsQpre
import Derived.Test.YtbipmdgocmdgdaaGreatCsK0
set_option linter.unusedVariables false
set_option linter.unusedSimpArgs false
namespace Go.Proofs.YtbipmdgocmdgdaaGreat.Abs
open Go Go.RowKit
theorem oi_within (a0 : I64) (a1 : I64) (a2 : I64) : Fun Tryz.prog 128 [] #[vI a0,vI a1,vI a2] (vB (I_within a0 a1 a2)) []:=by
 refine Fun.ofH 400 E_ok mixed Tryz.func128 (by kernel_rfl) (by kernel_rfl) ?_
 unfold I_within
 refine Run.y (gv:=vB) (fun _=>?_) (fun _=>?_)
 ·refine Run.z [true,true,true] ?_
  exact Run.x 0
 ·refine Run.z [false,false,false] ?_
  exact Run.x 0
theorem oi_ValidPoint (a0 : Pt) : Fun Tryz.prog 44 [] #[vPt a0] (vB (I_ValidPoint a0)) []:=by
 refine Fun.ofH 400 E_ok mixed Tryz.func44 (by kernel_rfl) (by kernel_rfl) ?_
 unfold I_ValidPoint
 refine Run.q (e:=vB) (gv:=vB) (oi_within _ _ _) fun r1 _=>?_
 refine Run.y (gv:=vB) (fun _=>?_) (fun _=>?_)
 ·refine Run.z [true,true,true] ?_
  refine Run.y (gv:=vB) (fun _=>?_) (fun _=>?_)
  ·refine Run.z [true,true,true] ?_
   exact Run.x 0
  ·refine Run.z [false,false,false] ?_
   exact Run.x 0
 ·refine Run.z [false,false,false,false,false,false,false] ?_
  exact Run.x 0
theorem oi_isStandard (a0 : I64) : Fun Tryz.prog 194 [] #[vI a0] (vB (I_isStandard a0)) []:=by
 refine Fun.ofH 400 E_ok mixed Tryz.func194 (by kernel_rfl) (by kernel_rfl) ?_
 unfold I_isStandard
 refine Run.q (e:=vB) (gv:=vB) (oi_within _ _ _) fun r1 _=>?_
 exact Run.x 0
theorem oi_isAzimuthal (a0 : I64) : Fun Tryz.prog 169 [] #[vI a0] (vB (I_isAzimuthal a0)) []:=by
 refine Fun.ofH 400 E_ok mixed Tryz.func169 (by kernel_rfl) (by kernel_rfl) ?_
 unfold I_isAzimuthal
 refine Run.q (e:=vB) (gv:=vB) (oi_within _ _ _) fun r1 _=>?_
 exact Run.x 0
theorem oi_isConic (a0 : I64) : Fun Tryz.prog 123 [] #[vI a0] (vB (I_isConic a0)) []:=by
 refine Fun.ofH 400 E_ok mixed Tryz.func123 (by kernel_rfl) (by kernel_rfl) ?_
 unfold I_isConic
 refine Run.q (e:=vB) (gv:=vB) (oi_within _ _ _) fun r1 _=>?_
 exact Run.x 0
theorem oi_abs (a0 : I64) : Fun Tryz.prog 129 [] #[vI a0] (vI (I_abs a0)) []:=by
 refine Fun.ofH 400 E_ok mixed Tryz.func129 (by kernel_rfl) (by kernel_rfl) ?_
 unfold I_abs
 exact Run.x 0
theorem oi_ValidProjection_cut1 (a0 : Pj) (r1 : Bool) (r2 : Bool) (r3 : Bool) (r4 : Bool) (r5 : Bool) : Run Tryz.prog 122 (RvH [] (vB (bindP (I_isConic a0.kind) fun r6=>(bif r6 then bindP (I_isConic a0.kind) fun r7=>(bif (!r7) then (bif (a0.lat2.val != 0) then false else bindP (I_isConic a0.kind) fun r8=>(bif (!r8) then true else bindP (I_abs (w64 (a0.lat1.val + a0.lat2.val))) fun r9=>(decide (r9.val ≥ 10000000)))) else bindP (I_isConic a0.kind) fun r10=>(bif (!r10) then true else bindP (I_abs (w64 (a0.lat1.val + a0.lat2.val))) fun r11=>(decide (r11.val ≥ 10000000)))) else (bif (a0.kind.val == 1) then bindP (I_isConic a0.kind) fun r12=>(bif (!r12) then (bif (a0.lat2.val != 0) then false else bindP (I_isConic a0.kind) fun r13=>(bif (!r13) then true else bindP (I_abs (w64 (a0.lat1.val + a0.lat2.val))) fun r14=>(decide (r14.val ≥ 10000000)))) else bindP (I_isConic a0.kind) fun r15=>(bif (!r15) then true else bindP (I_abs (w64 (a0.lat1.val + a0.lat2.val))) fun r16=>(decide (r16.val ≥ 10000000)))) else (bif (!(a0.kind.val == 3)) then (bif (a0.lat1.val != 0) then false else bindP (I_isConic a0.kind) fun r17=>(bif (!r17) then (bif (a0.lat2.val != 0) then false else bindP (I_isConic a0.kind) fun r18=>(bif (!r18) then true else bindP (I_abs (w64 (a0.lat1.val + a0.lat2.val))) fun r19=>(decide (r19.val ≥ 10000000)))) else bindP (I_isConic a0.kind) fun r20=>(bif (!r20) then true else bindP (I_abs (w64 (a0.lat1.val + a0.lat2.val))) fun r21=>(decide (r21.val ≥ 10000000))))) else bindP (I_isConic a0.kind) fun r22=>(bif (!r22) then (bif (a0.lat2.val != 0) then false else bindP (I_isConic a0.kind) fun r23=>(bif (!r23) then true else bindP (I_abs (w64 (a0.lat1.val + a0.lat2.val))) fun r24=>(decide (r24.val ≥ 10000000)))) else bindP (I_isConic a0.kind) fun r25=>(bif (!r25) then true else bindP (I_abs (w64 (a0.lat1.val + a0.lat2.val))) fun r26=>(decide (r26.val ≥ 10000000)))))))))) (((((((((((((((((start Tryz.prog E Tryz.f122 400 [] #[vPj a0]).after (vB r1)).no).path [false,false,false,false,false]).after (vB r2)).path [false,false]).no).path [false,false]).after (vB r3)).path [false,false]).no).path [false,false]).after (vB r4)).path [false,false]).no).after (vB r5)).yes):=by
 refine Run.z [true,true,true,true,true,true,true] ?_
 refine Run.q (e:=vB) (gv:=vB) (oi_isConic _) fun r6 _=>?_
 refine Run.y (gv:=vB) (fun _=>?_) (fun _=>?_)
 ·refine Run.z [true,true,true,true,true,true,true,false,false,false,false,false,false,false,false,false,false,false,false,false,false,false,false] ?_
  refine Run.q (e:=vB) (gv:=vB) (oi_isConic _) fun r7 _=>?_
  refine Run.z [false,false] ?_
  refine Run.y (gv:=vB) (fun _=>?_) (fun _=>?_)
  ·refine Run.z [true,true,false,true,false] ?_
   refine Run.y (gv:=vB) (fun _=>?_) (fun _=>?_)
   ·exact Run.x 0
   ·refine Run.q (e:=vB) (gv:=vB) (oi_isConic _) fun r8 _=>?_
    refine Run.y (gv:=vB) (fun _=>?_) (fun _=>?_)
    ·refine Run.z [true,true,true,true,true,true,true] ?_
     exact Run.x 0
    ·refine Run.z [false,false,false,false,false] ?_
     refine Run.q (e:=vI) (gv:=vB) (oi_abs _) fun r9 _=>?_
     refine Run.z [false,false] ?_
     exact Run.x 0
  ·refine Run.z [false,false,false,false,false,false] ?_
   refine Run.q (e:=vB) (gv:=vB) (oi_isConic _) fun r10 _=>?_
   refine Run.y (gv:=vB) (fun _=>?_) (fun _=>?_)
   ·refine Run.z [true,true,true,true,true,true,true] ?_
    exact Run.x 0
   ·refine Run.z [false,false,false,false,false] ?_
    refine Run.q (e:=vI) (gv:=vB) (oi_abs _) fun r11 _=>?_
    refine Run.z [false,false] ?_
    exact Run.x 0
 ·refine Run.z [false,false,false] ?_
  refine Run.y (gv:=vB) (fun _=>?_) (fun _=>?_)
  ·refine Run.z [true,true,true,false,false,false,false,false,false,false,false,false,false,false,false,false,false,false,false] ?_
   refine Run.q (e:=vB) (gv:=vB) (oi_isConic _) fun r12 _=>?_
   refine Run.z [false,false] ?_
   refine Run.y (gv:=vB) (fun _=>?_) (fun _=>?_)
   ·refine Run.z [true,true,false,true,false] ?_
    refine Run.y (gv:=vB) (fun _=>?_) (fun _=>?_)
    ·exact Run.x 0
    ·refine Run.q (e:=vB) (gv:=vB) (oi_isConic _) fun r13 _=>?_
     refine Run.y (gv:=vB) (fun _=>?_) (fun _=>?_)
     ·refine Run.z [true,true,true,true,true,true,true] ?_
      exact Run.x 0
     ·refine Run.z [false,false,false,false,false] ?_
      refine Run.q (e:=vI) (gv:=vB) (oi_abs _) fun r14 _=>?_
      refine Run.z [false,false] ?_
      exact Run.x 0
   ·refine Run.z [false,false,false,false,false,false] ?_
    refine Run.q (e:=vB) (gv:=vB) (oi_isConic _) fun r15 _=>?_
    refine Run.y (gv:=vB) (fun _=>?_) (fun _=>?_)
    ·refine Run.z [true,true,true,true,true,true,true] ?_
     exact Run.x 0
    ·refine Run.z [false,false,false,false,false] ?_
     refine Run.q (e:=vI) (gv:=vB) (oi_abs _) fun r16 _=>?_
     refine Run.z [false,false] ?_
     exact Run.x 0
  ·refine Run.z [false,false,false,false,false,false,false,false,false,false] ?_
   refine Run.y (gv:=vB) (fun _=>?_) (fun _=>?_)
   ·refine Run.z [true,true,false,true,false] ?_
    refine Run.y (gv:=vB) (fun _=>?_) (fun _=>?_)
    ·refine Run.z [true,true,true,true,true,true,true] ?_
     exact Run.x 0
    ·refine Run.z [false,false] ?_
     refine Run.q (e:=vB) (gv:=vB) (oi_isConic _) fun r17 _=>?_
     refine Run.z [false,false] ?_
     refine Run.y (gv:=vB) (fun _=>?_) (fun _=>?_)
     ·refine Run.z [true,true,false,true,false] ?_
      refine Run.y (gv:=vB) (fun _=>?_) (fun _=>?_)
      ·exact Run.x 0
      ·refine Run.q (e:=vB) (gv:=vB) (oi_isConic _) fun r18 _=>?_
       refine Run.y (gv:=vB) (fun _=>?_) (fun _=>?_)
       ·refine Run.z [true,true,true,true,true,true,true] ?_
        exact Run.x 0
       ·refine Run.z [false,false,false,false,false] ?_
        refine Run.q (e:=vI) (gv:=vB) (oi_abs _) fun r19 _=>?_
        refine Run.z [false,false] ?_
        exact Run.x 0
     ·refine Run.z [false,false,false,false,false,false] ?_
      refine Run.q (e:=vB) (gv:=vB) (oi_isConic _) fun r20 _=>?_
      refine Run.y (gv:=vB) (fun _=>?_) (fun _=>?_)
      ·refine Run.z [true,true,true,true,true,true,true] ?_
       exact Run.x 0
      ·refine Run.z [false,false,false,false,false] ?_
       refine Run.q (e:=vI) (gv:=vB) (oi_abs _) fun r21 _=>?_
       refine Run.z [false,false] ?_
       exact Run.x 0
   ·refine Run.z [false,false,false,false,false,false,false,false] ?_
    refine Run.q (e:=vB) (gv:=vB) (oi_isConic _) fun r22 _=>?_
    refine Run.z [false,false] ?_
    refine Run.y (gv:=vB) (fun _=>?_) (fun _=>?_)
    ·refine Run.z [true,true,false,true,false] ?_
     refine Run.y (gv:=vB) (fun _=>?_) (fun _=>?_)
     ·exact Run.x 0
     ·refine Run.q (e:=vB) (gv:=vB) (oi_isConic _) fun r23 _=>?_
      refine Run.y (gv:=vB) (fun _=>?_) (fun _=>?_)
      ·refine Run.z [true,true,true,true,true,true,true] ?_
       exact Run.x 0
      ·refine Run.z [false,false,false,false,false] ?_
       refine Run.q (e:=vI) (gv:=vB) (oi_abs _) fun r24 _=>?_
       refine Run.z [false,false] ?_
       exact Run.x 0
    ·refine Run.z [false,false,false,false,false,false] ?_
     refine Run.q (e:=vB) (gv:=vB) (oi_isConic _) fun r25 _=>?_
     refine Run.y (gv:=vB) (fun _=>?_) (fun _=>?_)
     ·refine Run.z [true,true,true,true,true,true,true] ?_
      exact Run.x 0
     ·refine Run.z [false,false,false,false,false] ?_
      refine Run.q (e:=vI) (gv:=vB) (oi_abs _) fun r26 _=>?_
      refine Run.z [false,false] ?_
      exact Run.x 0
theorem oi_ValidProjection_cut2 (a0 : Pj) (r1 : Bool) (r2 : Bool) (r3 : Bool) (r4 : Bool) (r5 : Bool) (r27 : Bool) : Run Tryz.prog 122 (RvH [] (vB (bindP (I_isConic a0.kind) fun r28=>(bif r28 then bindP (I_isConic a0.kind) fun r29=>(bif (!r29) then (bif (a0.lat2.val != 0) then false else bindP (I_isConic a0.kind) fun r30=>(bif (!r30) then true else bindP (I_abs (w64 (a0.lat1.val + a0.lat2.val))) fun r31=>(decide (r31.val ≥ 10000000)))) else bindP (I_isConic a0.kind) fun r32=>(bif (!r32) then true else bindP (I_abs (w64 (a0.lat1.val + a0.lat2.val))) fun r33=>(decide (r33.val ≥ 10000000)))) else (bif (a0.kind.val == 1) then bindP (I_isConic a0.kind) fun r34=>(bif (!r34) then (bif (a0.lat2.val != 0) then false else bindP (I_isConic a0.kind) fun r35=>(bif (!r35) then true else bindP (I_abs (w64 (a0.lat1.val + a0.lat2.val))) fun r36=>(decide (r36.val ≥ 10000000)))) else bindP (I_isConic a0.kind) fun r37=>(bif (!r37) then true else bindP (I_abs (w64 (a0.lat1.val + a0.lat2.val))) fun r38=>(decide (r38.val ≥ 10000000)))) else (bif (!(a0.kind.val == 3)) then (bif (a0.lat1.val != 0) then false else bindP (I_isConic a0.kind) fun r39=>(bif (!r39) then (bif (a0.lat2.val != 0) then false else bindP (I_isConic a0.kind) fun r40=>(bif (!r40) then true else bindP (I_abs (w64 (a0.lat1.val + a0.lat2.val))) fun r41=>(decide (r41.val ≥ 10000000)))) else bindP (I_isConic a0.kind) fun r42=>(bif (!r42) then true else bindP (I_abs (w64 (a0.lat1.val + a0.lat2.val))) fun r43=>(decide (r43.val ≥ 10000000))))) else bindP (I_isConic a0.kind) fun r44=>(bif (!r44) then (bif (a0.lat2.val != 0) then false else bindP (I_isConic a0.kind) fun r45=>(bif (!r45) then true else bindP (I_abs (w64 (a0.lat1.val + a0.lat2.val))) fun r46=>(decide (r46.val ≥ 10000000)))) else bindP (I_isConic a0.kind) fun r47=>(bif (!r47) then true else bindP (I_abs (w64 (a0.lat1.val + a0.lat2.val))) fun r48=>(decide (r48.val ≥ 10000000)))))))))) (((((((((((((((((((((start Tryz.prog E Tryz.f122 400 [] #[vPj a0]).after (vB r1)).no).path [false,false,false,false,false]).after (vB r2)).path [false,false]).no).path [false,false]).after (vB r3)).path [false,false]).no).path [false,false]).after (vB r4)).path [false,false]).no).after (vB r5)).no).path [false,false]).after (vB r27)).path [false]).yes):=by
 refine Run.z [true,true,true] ?_
 refine Run.q (e:=vB) (gv:=vB) (oi_isConic _) fun r28 _=>?_
 refine Run.y (gv:=vB) (fun _=>?_) (fun _=>?_)
 ·refine Run.z [true,true,true,true,true,true,true,false,false,false,false,false,false,false,false,false,false,false,false,false,false,false,false] ?_
  refine Run.q (e:=vB) (gv:=vB) (oi_isConic _) fun r29 _=>?_
  refine Run.z [false,false] ?_
  refine Run.y (gv:=vB) (fun _=>?_) (fun _=>?_)
  ·refine Run.z [true,true,false,true,false] ?_
   refine Run.y (gv:=vB) (fun _=>?_) (fun _=>?_)
   ·exact Run.x 0
   ·refine Run.q (e:=vB) (gv:=vB) (oi_isConic _) fun r30 _=>?_
    refine Run.y (gv:=vB) (fun _=>?_) (fun _=>?_)
    ·refine Run.z [true,true,true,true,true,true,true] ?_
     exact Run.x 0
    ·refine Run.z [false,false,false,false,false] ?_
     refine Run.q (e:=vI) (gv:=vB) (oi_abs _) fun r31 _=>?_
     refine Run.z [false,false] ?_
     exact Run.x 0
  ·refine Run.z [false,false,false,false,false,false] ?_
   refine Run.q (e:=vB) (gv:=vB) (oi_isConic _) fun r32 _=>?_
   refine Run.y (gv:=vB) (fun _=>?_) (fun _=>?_)
   ·refine Run.z [true,true,true,true,true,true,true] ?_
    exact Run.x 0
   ·refine Run.z [false,false,false,false,false] ?_
    refine Run.q (e:=vI) (gv:=vB) (oi_abs _) fun r33 _=>?_
    refine Run.z [false,false] ?_
    exact Run.x 0
 ·refine Run.z [false,false,false] ?_
  refine Run.y (gv:=vB) (fun _=>?_) (fun _=>?_)
  ·refine Run.z [true,true,true,false,false,false,false,false,false,false,false,false,false,false,false,false,false,false,false] ?_
   refine Run.q (e:=vB) (gv:=vB) (oi_isConic _) fun r34 _=>?_
   refine Run.z [false,false] ?_
   refine Run.y (gv:=vB) (fun _=>?_) (fun _=>?_)
   ·refine Run.z [true,true,false,true,false] ?_
    refine Run.y (gv:=vB) (fun _=>?_) (fun _=>?_)
    ·exact Run.x 0
    ·refine Run.q (e:=vB) (gv:=vB) (oi_isConic _) fun r35 _=>?_
     refine Run.y (gv:=vB) (fun _=>?_) (fun _=>?_)
     ·refine Run.z [true,true,true,true,true,true,true] ?_
      exact Run.x 0
     ·refine Run.z [false,false,false,false,false] ?_
      refine Run.q (e:=vI) (gv:=vB) (oi_abs _) fun r36 _=>?_
      refine Run.z [false,false] ?_
      exact Run.x 0
   ·refine Run.z [false,false,false,false,false,false] ?_
    refine Run.q (e:=vB) (gv:=vB) (oi_isConic _) fun r37 _=>?_
    refine Run.y (gv:=vB) (fun _=>?_) (fun _=>?_)
    ·refine Run.z [true,true,true,true,true,true,true] ?_
     exact Run.x 0
    ·refine Run.z [false,false,false,false,false] ?_
     refine Run.q (e:=vI) (gv:=vB) (oi_abs _) fun r38 _=>?_
     refine Run.z [false,false] ?_
     exact Run.x 0
  ·refine Run.z [false,false,false,false,false,false,false,false,false,false] ?_
   refine Run.y (gv:=vB) (fun _=>?_) (fun _=>?_)
   ·refine Run.z [true,true,false,true,false] ?_
    refine Run.y (gv:=vB) (fun _=>?_) (fun _=>?_)
    ·refine Run.z [true,true,true,true,true,true,true] ?_
     exact Run.x 0
    ·refine Run.z [false,false] ?_
     refine Run.q (e:=vB) (gv:=vB) (oi_isConic _) fun r39 _=>?_
     refine Run.z [false,false] ?_
     refine Run.y (gv:=vB) (fun _=>?_) (fun _=>?_)
     ·refine Run.z [true,true,false,true,false] ?_
      refine Run.y (gv:=vB) (fun _=>?_) (fun _=>?_)
      ·exact Run.x 0
      ·refine Run.q (e:=vB) (gv:=vB) (oi_isConic _) fun r40 _=>?_
       refine Run.y (gv:=vB) (fun _=>?_) (fun _=>?_)
       ·refine Run.z [true,true,true,true,true,true,true] ?_
        exact Run.x 0
       ·refine Run.z [false,false,false,false,false] ?_
        refine Run.q (e:=vI) (gv:=vB) (oi_abs _) fun r41 _=>?_
        refine Run.z [false,false] ?_
        exact Run.x 0
     ·refine Run.z [false,false,false,false,false,false] ?_
      refine Run.q (e:=vB) (gv:=vB) (oi_isConic _) fun r42 _=>?_
      refine Run.y (gv:=vB) (fun _=>?_) (fun _=>?_)
      ·refine Run.z [true,true,true,true,true,true,true] ?_
       exact Run.x 0
      ·refine Run.z [false,false,false,false,false] ?_
       refine Run.q (e:=vI) (gv:=vB) (oi_abs _) fun r43 _=>?_
       refine Run.z [false,false] ?_
       exact Run.x 0
   ·refine Run.z [false,false,false,false,false,false,false,false] ?_
    refine Run.q (e:=vB) (gv:=vB) (oi_isConic _) fun r44 _=>?_
    refine Run.z [false,false] ?_
    refine Run.y (gv:=vB) (fun _=>?_) (fun _=>?_)
    ·refine Run.z [true,true,false,true,false] ?_
     refine Run.y (gv:=vB) (fun _=>?_) (fun _=>?_)
     ·exact Run.x 0
     ·refine Run.q (e:=vB) (gv:=vB) (oi_isConic _) fun r45 _=>?_
      refine Run.y (gv:=vB) (fun _=>?_) (fun _=>?_)
      ·refine Run.z [true,true,true,true,true,true,true] ?_
       exact Run.x 0
      ·refine Run.z [false,false,false,false,false] ?_
       refine Run.q (e:=vI) (gv:=vB) (oi_abs _) fun r46 _=>?_
       refine Run.z [false,false] ?_
       exact Run.x 0
    ·refine Run.z [false,false,false,false,false,false] ?_
     refine Run.q (e:=vB) (gv:=vB) (oi_isConic _) fun r47 _=>?_
     refine Run.y (gv:=vB) (fun _=>?_) (fun _=>?_)
     ·refine Run.z [true,true,true,true,true,true,true] ?_
      exact Run.x 0
     ·refine Run.z [false,false,false,false,false] ?_
      refine Run.q (e:=vI) (gv:=vB) (oi_abs _) fun r48 _=>?_
      refine Run.z [false,false] ?_
      exact Run.x 0
theorem oi_ValidProjection_cut3 (a0 : Pj) (r1 : Bool) (r2 : Bool) (r3 : Bool) (r4 : Bool) (r5 : Bool) (r27 : Bool) (r49 : Bool) : Run Tryz.prog 122 (RvH [] (vB ((bif (!(a0.kind.val == 16)) then (bif (a0.lat0.val != 0) then false else (bif (!(a0.kind.val == 3)) then (bif (a0.lat1.val != 0) then false else bindP (I_isConic a0.kind) fun r70=>(bif (!r70) then (bif (a0.lat2.val != 0) then false else bindP (I_isConic a0.kind) fun r71=>(bif (!r71) then true else bindP (I_abs (w64 (a0.lat1.val + a0.lat2.val))) fun r72=>(decide (r72.val ≥ 10000000)))) else bindP (I_isConic a0.kind) fun r73=>(bif (!r73) then true else bindP (I_abs (w64 (a0.lat1.val + a0.lat2.val))) fun r74=>(decide (r74.val ≥ 10000000))))) else bindP (I_isConic a0.kind) fun r75=>(bif (!r75) then (bif (a0.lat2.val != 0) then false else bindP (I_isConic a0.kind) fun r76=>(bif (!r76) then true else bindP (I_abs (w64 (a0.lat1.val + a0.lat2.val))) fun r77=>(decide (r77.val ≥ 10000000)))) else bindP (I_isConic a0.kind) fun r78=>(bif (!r78) then true else bindP (I_abs (w64 (a0.lat1.val + a0.lat2.val))) fun r79=>(decide (r79.val ≥ 10000000)))))) else (bif (!(a0.kind.val == 3)) then (bif (a0.lat1.val != 0) then false else bindP (I_isConic a0.kind) fun r80=>(bif (!r80) then (bif (a0.lat2.val != 0) then false else bindP (I_isConic a0.kind) fun r81=>(bif (!r81) then true else bindP (I_abs (w64 (a0.lat1.val + a0.lat2.val))) fun r82=>(decide (r82.val ≥ 10000000)))) else bindP (I_isConic a0.kind) fun r83=>(bif (!r83) then true else bindP (I_abs (w64 (a0.lat1.val + a0.lat2.val))) fun r84=>(decide (r84.val ≥ 10000000))))) else bindP (I_isConic a0.kind) fun r85=>(bif (!r85) then (bif (a0.lat2.val != 0) then false else bindP (I_isConic a0.kind) fun r86=>(bif (!r86) then true else bindP (I_abs (w64 (a0.lat1.val + a0.lat2.val))) fun r87=>(decide (r87.val ≥ 10000000)))) else bindP (I_isConic a0.kind) fun r88=>(bif (!r88) then true else bindP (I_abs (w64 (a0.lat1.val + a0.lat2.val))) fun r89=>(decide (r89.val ≥ 10000000))))))))) ((((((((((((((((((((((((((start Tryz.prog E Tryz.f122 400 [] #[vPj a0]).after (vB r1)).no).path [false,false,false,false,false]).after (vB r2)).path [false,false]).no).path [false,false]).after (vB r3)).path [false,false]).no).path [false,false]).after (vB r4)).path [false,false]).no).after (vB r5)).no).path [false,false]).after (vB r27)).path [false]).no).path [false,false,false]).after (vB r49)).no).path [false,false,false]).no):=by
 refine Run.z [false,false,false] ?_
 refine Run.y (gv:=vB) (fun _=>?_) (fun _=>?_)
 ·refine Run.z [true,true,true] ?_
  refine Run.y (gv:=vB) (fun _=>?_) (fun _=>?_)
  ·refine Run.z [true,true,true,true,true,true,true,true,true,true,true,true] ?_
   exact Run.x 0
  ·refine Run.z [false,false] ?_
   refine Run.y (gv:=vB) (fun _=>?_) (fun _=>?_)
   ·refine Run.z [true,true,false,true,false] ?_
    refine Run.y (gv:=vB) (fun _=>?_) (fun _=>?_)
    ·refine Run.z [true,true,true,true,true,true,true] ?_
     exact Run.x 0
    ·refine Run.z [false,false] ?_
     refine Run.q (e:=vB) (gv:=vB) (oi_isConic _) fun r70 _=>?_
     refine Run.z [false,false] ?_
     refine Run.y (gv:=vB) (fun _=>?_) (fun _=>?_)
     ·refine Run.z [true,true,false,true,false] ?_
      refine Run.y (gv:=vB) (fun _=>?_) (fun _=>?_)
      ·exact Run.x 0
      ·refine Run.q (e:=vB) (gv:=vB) (oi_isConic _) fun r71 _=>?_
       refine Run.y (gv:=vB) (fun _=>?_) (fun _=>?_)
       ·refine Run.z [true,true,true,true,true,true,true] ?_
        exact Run.x 0
       ·refine Run.z [false,false,false,false,false] ?_
        refine Run.q (e:=vI) (gv:=vB) (oi_abs _) fun r72 _=>?_
        refine Run.z [false,false] ?_
        exact Run.x 0
     ·refine Run.z [false,false,false,false,false,false] ?_
      refine Run.q (e:=vB) (gv:=vB) (oi_isConic _) fun r73 _=>?_
      refine Run.y (gv:=vB) (fun _=>?_) (fun _=>?_)
      ·refine Run.z [true,true,true,true,true,true,true] ?_
       exact Run.x 0
      ·refine Run.z [false,false,false,false,false] ?_
       refine Run.q (e:=vI) (gv:=vB) (oi_abs _) fun r74 _=>?_
       refine Run.z [false,false] ?_
       exact Run.x 0
   ·refine Run.z [false,false,false,false,false,false,false,false] ?_
    refine Run.q (e:=vB) (gv:=vB) (oi_isConic _) fun r75 _=>?_
    refine Run.z [false,false] ?_
    refine Run.y (gv:=vB) (fun _=>?_) (fun _=>?_)
    ·refine Run.z [true,true,false,true,false] ?_
     refine Run.y (gv:=vB) (fun _=>?_) (fun _=>?_)
     ·exact Run.x 0
     ·refine Run.q (e:=vB) (gv:=vB) (oi_isConic _) fun r76 _=>?_
      refine Run.y (gv:=vB) (fun _=>?_) (fun _=>?_)
      ·refine Run.z [true,true,true,true,true,true,true] ?_
       exact Run.x 0
      ·refine Run.z [false,false,false,false,false] ?_
       refine Run.q (e:=vI) (gv:=vB) (oi_abs _) fun r77 _=>?_
       refine Run.z [false,false] ?_
       exact Run.x 0
    ·refine Run.z [false,false,false,false,false,false] ?_
     refine Run.q (e:=vB) (gv:=vB) (oi_isConic _) fun r78 _=>?_
     refine Run.y (gv:=vB) (fun _=>?_) (fun _=>?_)
     ·refine Run.z [true,true,true,true,true,true,true] ?_
      exact Run.x 0
     ·refine Run.z [false,false,false,false,false] ?_
      refine Run.q (e:=vI) (gv:=vB) (oi_abs _) fun r79 _=>?_
      refine Run.z [false,false] ?_
      exact Run.x 0
 ·refine Run.z [false,false,false,false,false,false] ?_
  refine Run.y (gv:=vB) (fun _=>?_) (fun _=>?_)
  ·refine Run.z [true,true,false,true,false] ?_
   refine Run.y (gv:=vB) (fun _=>?_) (fun _=>?_)
   ·refine Run.z [true,true,true,true,true,true,true] ?_
    exact Run.x 0
   ·refine Run.z [false,false] ?_
    refine Run.q (e:=vB) (gv:=vB) (oi_isConic _) fun r80 _=>?_
    refine Run.z [false,false] ?_
    refine Run.y (gv:=vB) (fun _=>?_) (fun _=>?_)
    ·refine Run.z [true,true,false,true,false] ?_
     refine Run.y (gv:=vB) (fun _=>?_) (fun _=>?_)
     ·exact Run.x 0
     ·refine Run.q (e:=vB) (gv:=vB) (oi_isConic _) fun r81 _=>?_
      refine Run.y (gv:=vB) (fun _=>?_) (fun _=>?_)
      ·refine Run.z [true,true,true,true,true,true,true] ?_
       exact Run.x 0
      ·refine Run.z [false,false,false,false,false] ?_
       refine Run.q (e:=vI) (gv:=vB) (oi_abs _) fun r82 _=>?_
       refine Run.z [false,false] ?_
       exact Run.x 0
    ·refine Run.z [false,false,false,false,false,false] ?_
     refine Run.q (e:=vB) (gv:=vB) (oi_isConic _) fun r83 _=>?_
     refine Run.y (gv:=vB) (fun _=>?_) (fun _=>?_)
     ·refine Run.z [true,true,true,true,true,true,true] ?_
      exact Run.x 0
     ·refine Run.z [false,false,false,false,false] ?_
      refine Run.q (e:=vI) (gv:=vB) (oi_abs _) fun r84 _=>?_
      refine Run.z [false,false] ?_
      exact Run.x 0
  ·refine Run.z [false,false,false,false,false,false,false,false] ?_
   refine Run.q (e:=vB) (gv:=vB) (oi_isConic _) fun r85 _=>?_
   refine Run.z [false,false] ?_
   refine Run.y (gv:=vB) (fun _=>?_) (fun _=>?_)
   ·refine Run.z [true,true,false,true,false] ?_
    refine Run.y (gv:=vB) (fun _=>?_) (fun _=>?_)
    ·exact Run.x 0
    ·refine Run.q (e:=vB) (gv:=vB) (oi_isConic _) fun r86 _=>?_
     refine Run.y (gv:=vB) (fun _=>?_) (fun _=>?_)
     ·refine Run.z [true,true,true,true,true,true,true] ?_
      exact Run.x 0
     ·refine Run.z [false,false,false,false,false] ?_
      refine Run.q (e:=vI) (gv:=vB) (oi_abs _) fun r87 _=>?_
      refine Run.z [false,false] ?_
      exact Run.x 0
   ·refine Run.z [false,false,false,false,false,false] ?_
    refine Run.q (e:=vB) (gv:=vB) (oi_isConic _) fun r88 _=>?_
    refine Run.y (gv:=vB) (fun _=>?_) (fun _=>?_)
    ·refine Run.z [true,true,true,true,true,true,true] ?_
     exact Run.x 0
    ·refine Run.z [false,false,false,false,false] ?_
     refine Run.q (e:=vI) (gv:=vB) (oi_abs _) fun r89 _=>?_
     refine Run.z [false,false] ?_
     exact Run.x 0
theorem oi_ValidProjection_cut4 (a0 : Pj) (r1 : Bool) (r2 : Bool) (r3 : Bool) (r4 : Bool) (r5 : Bool) (r27 : Bool) : Run Tryz.prog 122 (RvH [] (vB (bindP (I_isConic a0.kind) fun r49=>(bif r49 then (bif (!(a0.kind.val == 16)) then (bif (a0.lat0.val != 0) then false else bindP (I_isConic a0.kind) fun r50=>(bif (!r50) then (bif (a0.lat2.val != 0) then false else bindP (I_isConic a0.kind) fun r51=>(bif (!r51) then true else bindP (I_abs (w64 (a0.lat1.val + a0.lat2.val))) fun r52=>(decide (r52.val ≥ 10000000)))) else bindP (I_isConic a0.kind) fun r53=>(bif (!r53) then true else bindP (I_abs (w64 (a0.lat1.val + a0.lat2.val))) fun r54=>(decide (r54.val ≥ 10000000))))) else bindP (I_isConic a0.kind) fun r55=>(bif (!r55) then (bif (a0.lat2.val != 0) then false else bindP (I_isConic a0.kind) fun r56=>(bif (!r56) then true else bindP (I_abs (w64 (a0.lat1.val + a0.lat2.val))) fun r57=>(decide (r57.val ≥ 10000000)))) else bindP (I_isConic a0.kind) fun r58=>(bif (!r58) then true else bindP (I_abs (w64 (a0.lat1.val + a0.lat2.val))) fun r59=>(decide (r59.val ≥ 10000000))))) else (bif (a0.kind.val == 1) then (bif (!(a0.kind.val == 16)) then (bif (a0.lat0.val != 0) then false else bindP (I_isConic a0.kind) fun r60=>(bif (!r60) then (bif (a0.lat2.val != 0) then false else bindP (I_isConic a0.kind) fun r61=>(bif (!r61) then true else bindP (I_abs (w64 (a0.lat1.val + a0.lat2.val))) fun r62=>(decide (r62.val ≥ 10000000)))) else bindP (I_isConic a0.kind) fun r63=>(bif (!r63) then true else bindP (I_abs (w64 (a0.lat1.val + a0.lat2.val))) fun r64=>(decide (r64.val ≥ 10000000))))) else bindP (I_isConic a0.kind) fun r65=>(bif (!r65) then (bif (a0.lat2.val != 0) then false else bindP (I_isConic a0.kind) fun r66=>(bif (!r66) then true else bindP (I_abs (w64 (a0.lat1.val + a0.lat2.val))) fun r67=>(decide (r67.val ≥ 10000000)))) else bindP (I_isConic a0.kind) fun r68=>(bif (!r68) then true else bindP (I_abs (w64 (a0.lat1.val + a0.lat2.val))) fun r69=>(decide (r69.val ≥ 10000000))))) else (bif (!(a0.kind.val == 16)) then (bif (a0.lat0.val != 0) then false else (bif (!(a0.kind.val == 3)) then (bif (a0.lat1.val != 0) then false else bindP (I_isConic a0.kind) fun r70=>(bif (!r70) then (bif (a0.lat2.val != 0) then false else bindP (I_isConic a0.kind) fun r71=>(bif (!r71) then true else bindP (I_abs (w64 (a0.lat1.val + a0.lat2.val))) fun r72=>(decide (r72.val ≥ 10000000)))) else bindP (I_isConic a0.kind) fun r73=>(bif (!r73) then true else bindP (I_abs (w64 (a0.lat1.val + a0.lat2.val))) fun r74=>(decide (r74.val ≥ 10000000))))) else bindP (I_isConic a0.kind) fun r75=>(bif (!r75) then (bif (a0.lat2.val != 0) then false else bindP (I_isConic a0.kind) fun r76=>(bif (!r76) then true else bindP (I_abs (w64 (a0.lat1.val + a0.lat2.val))) fun r77=>(decide (r77.val ≥ 10000000)))) else bindP (I_isConic a0.kind) fun r78=>(bif (!r78) then true else bindP (I_abs (w64 (a0.lat1.val + a0.lat2.val))) fun r79=>(decide (r79.val ≥ 10000000)))))) else (bif (!(a0.kind.val == 3)) then (bif (a0.lat1.val != 0) then false else bindP (I_isConic a0.kind) fun r80=>(bif (!r80) then (bif (a0.lat2.val != 0) then false else bindP (I_isConic a0.kind) fun r81=>(bif (!r81) then true else bindP (I_abs (w64 (a0.lat1.val + a0.lat2.val))) fun r82=>(decide (r82.val ≥ 10000000)))) else bindP (I_isConic a0.kind) fun r83=>(bif (!r83) then true else bindP (I_abs (w64 (a0.lat1.val + a0.lat2.val))) fun r84=>(decide (r84.val ≥ 10000000))))) else bindP (I_isConic a0.kind) fun r85=>(bif (!r85) then (bif (a0.lat2.val != 0) then false else bindP (I_isConic a0.kind) fun r86=>(bif (!r86) then true else bindP (I_abs (w64 (a0.lat1.val + a0.lat2.val))) fun r87=>(decide (r87.val ≥ 10000000)))) else bindP (I_isConic a0.kind) fun r88=>(bif (!r88) then true else bindP (I_abs (w64 (a0.lat1.val + a0.lat2.val))) fun r89=>(decide (r89.val ≥ 10000000))))))))))) (((((((((((((((((((((start Tryz.prog E Tryz.f122 400 [] #[vPj a0]).after (vB r1)).no).path [false,false,false,false,false]).after (vB r2)).path [false,false]).no).path [false,false]).after (vB r3)).path [false,false]).no).path [false,false]).after (vB r4)).path [false,false]).no).after (vB r5)).no).path [false,false]).after (vB r27)).path [false]).no):=by
 refine Run.z [false,false,false] ?_
 refine Run.q (e:=vB) (gv:=vB) (oi_isConic _) fun r49 _=>?_
 refine Run.y (gv:=vB) (fun _=>?_) (fun _=>?_)
 ·refine Run.z [true,true,true,true,true,true,true] ?_
  refine Run.y (gv:=vB) (fun _=>?_) (fun _=>?_)
  ·refine Run.z [true,true,true] ?_
   refine Run.y (gv:=vB) (fun _=>?_) (fun _=>?_)
   ·refine Run.z [true,true,true,true,true,true,true,true,true,true,true,true] ?_
    exact Run.x 0
   ·refine Run.z [false,false,false,false,false,false,false,false,false,false,false] ?_
    refine Run.q (e:=vB) (gv:=vB) (oi_isConic _) fun r50 _=>?_
    refine Run.z [false,false] ?_
    refine Run.y (gv:=vB) (fun _=>?_) (fun _=>?_)
    ·refine Run.z [true,true,false,true,false] ?_
     refine Run.y (gv:=vB) (fun _=>?_) (fun _=>?_)
     ·exact Run.x 0
     ·refine Run.q (e:=vB) (gv:=vB) (oi_isConic _) fun r51 _=>?_
      refine Run.y (gv:=vB) (fun _=>?_) (fun _=>?_)
      ·refine Run.z [true,true,true,true,true,true,true] ?_
       exact Run.x 0
      ·refine Run.z [false,false,false,false,false] ?_
       refine Run.q (e:=vI) (gv:=vB) (oi_abs _) fun r52 _=>?_
       refine Run.z [false,false] ?_
       exact Run.x 0
    ·refine Run.z [false,false,false,false,false,false] ?_
     refine Run.q (e:=vB) (gv:=vB) (oi_isConic _) fun r53 _=>?_
     refine Run.y (gv:=vB) (fun _=>?_) (fun _=>?_)
     ·refine Run.z [true,true,true,true,true,true,true] ?_
      exact Run.x 0
     ·refine Run.z [false,false,false,false,false] ?_
      refine Run.q (e:=vI) (gv:=vB) (oi_abs _) fun r54 _=>?_
      refine Run.z [false,false] ?_
      exact Run.x 0
  ·refine Run.z [false,false,false,false,false,false,false,false,false,false,false,false,false,false,false] ?_
   refine Run.q (e:=vB) (gv:=vB) (oi_isConic _) fun r55 _=>?_
   refine Run.z [false,false] ?_
   refine Run.y (gv:=vB) (fun _=>?_) (fun _=>?_)
   ·refine Run.z [true,true,false,true,false] ?_
    refine Run.y (gv:=vB) (fun _=>?_) (fun _=>?_)
    ·exact Run.x 0
    ·refine Run.q (e:=vB) (gv:=vB) (oi_isConic _) fun r56 _=>?_
     refine Run.y (gv:=vB) (fun _=>?_) (fun _=>?_)
     ·refine Run.z [true,true,true,true,true,true,true] ?_
      exact Run.x 0
     ·refine Run.z [false,false,false,false,false] ?_
      refine Run.q (e:=vI) (gv:=vB) (oi_abs _) fun r57 _=>?_
      refine Run.z [false,false] ?_
      exact Run.x 0
   ·refine Run.z [false,false,false,false,false,false] ?_
    refine Run.q (e:=vB) (gv:=vB) (oi_isConic _) fun r58 _=>?_
    refine Run.y (gv:=vB) (fun _=>?_) (fun _=>?_)
    ·refine Run.z [true,true,true,true,true,true,true] ?_
     exact Run.x 0
    ·refine Run.z [false,false,false,false,false] ?_
     refine Run.q (e:=vI) (gv:=vB) (oi_abs _) fun r59 _=>?_
     refine Run.z [false,false] ?_
     exact Run.x 0
 ·refine Run.z [false,false,false] ?_
  refine Run.y (gv:=vB) (fun _=>?_) (fun _=>?_)
  ·refine Run.z [true,true,true] ?_
   refine Run.y (gv:=vB) (fun _=>?_) (fun _=>?_)
   ·refine Run.z [true,true,true] ?_
    refine Run.y (gv:=vB) (fun _=>?_) (fun _=>?_)
    ·refine Run.z [true,true,true,true,true,true,true,true,true,true,true,true] ?_
     exact Run.x 0
    ·refine Run.z [false,false,false,false,false,false,false,false,false,false,false] ?_
     refine Run.q (e:=vB) (gv:=vB) (oi_isConic _) fun r60 _=>?_
     refine Run.z [false,false] ?_
     refine Run.y (gv:=vB) (fun _=>?_) (fun _=>?_)
     ·refine Run.z [true,true,false,true,false] ?_
      refine Run.y (gv:=vB) (fun _=>?_) (fun _=>?_)
      ·exact Run.x 0
      ·refine Run.q (e:=vB) (gv:=vB) (oi_isConic _) fun r61 _=>?_
       refine Run.y (gv:=vB) (fun _=>?_) (fun _=>?_)
       ·refine Run.z [true,true,true,true,true,true,true] ?_
        exact Run.x 0
       ·refine Run.z [false,false,false,false,false] ?_
        refine Run.q (e:=vI) (gv:=vB) (oi_abs _) fun r62 _=>?_
        refine Run.z [false,false] ?_
        exact Run.x 0
     ·refine Run.z [false,false,false,false,false,false] ?_
      refine Run.q (e:=vB) (gv:=vB) (oi_isConic _) fun r63 _=>?_
      refine Run.y (gv:=vB) (fun _=>?_) (fun _=>?_)
      ·refine Run.z [true,true,true,true,true,true,true] ?_
       exact Run.x 0
      ·refine Run.z [false,false,false,false,false] ?_
       refine Run.q (e:=vI) (gv:=vB) (oi_abs _) fun r64 _=>?_
       refine Run.z [false,false] ?_
       exact Run.x 0
   ·refine Run.z [false,false,false,false,false,false,false,false,false,false,false,false,false,false,false] ?_
    refine Run.q (e:=vB) (gv:=vB) (oi_isConic _) fun r65 _=>?_
    refine Run.z [false,false] ?_
    refine Run.y (gv:=vB) (fun _=>?_) (fun _=>?_)
    ·refine Run.z [true,true,false,true,false] ?_
     refine Run.y (gv:=vB) (fun _=>?_) (fun _=>?_)
     ·exact Run.x 0
     ·refine Run.q (e:=vB) (gv:=vB) (oi_isConic _) fun r66 _=>?_
      refine Run.y (gv:=vB) (fun _=>?_) (fun _=>?_)
      ·refine Run.z [true,true,true,true,true,true,true] ?_
       exact Run.x 0
      ·refine Run.z [false,false,false,false,false] ?_
       refine Run.q (e:=vI) (gv:=vB) (oi_abs _) fun r67 _=>?_
       refine Run.z [false,false] ?_
       exact Run.x 0
    ·refine Run.z [false,false,false,false,false,false] ?_
     refine Run.q (e:=vB) (gv:=vB) (oi_isConic _) fun r68 _=>?_
     refine Run.y (gv:=vB) (fun _=>?_) (fun _=>?_)
     ·refine Run.z [true,true,true,true,true,true,true] ?_
      exact Run.x 0
     ·refine Run.z [false,false,false,false,false] ?_
      refine Run.q (e:=vI) (gv:=vB) (oi_abs _) fun r69 _=>?_
      refine Run.z [false,false] ?_
      exact Run.x 0
  ·exact oi_ValidProjection_cut3 a0 r1 r2 r3 r4 r5 r27 r49
theorem oi_ValidProjection (a0 : Pj) : Fun Tryz.prog 122 [] #[vPj a0] (vB (I_ValidProjection a0)) []:=by
 refine Fun.ofH 400 E_ok mixed Tryz.func122 (by kernel_rfl) (by kernel_rfl) ?_
 unfold I_ValidProjection
 refine Run.q (e:=vB) (gv:=vB) (oi_within _ _ _) fun r1 _=>?_
 refine Run.y (gv:=vB) (fun _=>?_) (fun _=>?_)
 ·refine Run.z [true,true,true,true,true,true,true,true,true,true,true,true,true,true,true,true,true,true] ?_
  exact Run.x 0
 ·refine Run.z [false,false,false,false,false] ?_
  refine Run.q (e:=vB) (gv:=vB) (oi_ValidPoint _) fun r2 _=>?_
  refine Run.z [false,false] ?_
  refine Run.y (gv:=vB) (fun _=>?_) (fun _=>?_)
  ·refine Run.z [true,true,true,true,true,true,true,true,true,true] ?_
   exact Run.x 0
  ·refine Run.z [false,false] ?_
   refine Run.q (e:=vB) (gv:=vB) (oi_isStandard _) fun r3 _=>?_
   refine Run.z [false,false] ?_
   refine Run.y (gv:=vB) (fun _=>?_) (fun _=>?_)
   ·refine Run.z [true,true,true,true,true] ?_
    exact Run.x 0
   ·refine Run.z [false,false] ?_
    refine Run.q (e:=vB) (gv:=vB) (oi_isStandard _) fun r4 _=>?_
    refine Run.z [false,false] ?_
    refine Run.y (gv:=vB) (fun _=>?_) (fun _=>?_)
    ·exact Run.x 0
    ·refine Run.q (e:=vB) (gv:=vB) (oi_isAzimuthal _) fun r5 _=>?_
     refine Run.y (gv:=vB) (fun _=>?_) (fun _=>?_)
     ·exact oi_ValidProjection_cut1 a0 r1 r2 r3 r4 r5
     ·refine Run.z [false,false] ?_
      refine Run.q (e:=vB) (gv:=vB) (oi_isConic _) fun r27 _=>?_
      refine Run.z [false] ?_
      refine Run.y (gv:=vB) (fun _=>?_) (fun _=>?_)
      ·exact oi_ValidProjection_cut2 a0 r1 r2 r3 r4 r5 r27
      ·exact oi_ValidProjection_cut4 a0 r1 r2 r3 r4 r5 r27
theorem oi_Whole : Fun Tryz.prog 107 [] #[] (vIv (I_Whole)) []:=by
 refine Fun.ofH 400 E_ok mixed Tryz.func107 (by kernel_rfl) (by kernel_rfl) ?_
 unfold I_Whole
 exact Run.x 0
theorem oi_ValidInterval (a0 : Iv) : Fun Tryz.prog 196 [] #[vIv a0] (vB (I_ValidInterval a0)) []:=by
 refine Fun.ofH 400 E_ok mixed Tryz.func196 (by kernel_rfl) (by kernel_rfl) ?_
 unfold I_ValidInterval
 refine Run.y (gv:=vB) (fun _=>?_) (fun _=>?_)
 ·refine Run.z [true,true,true,true,true] ?_
  refine Run.y (gv:=vB) (fun _=>?_) (fun _=>?_)
  ·refine Run.z [true,true,true] ?_
   exact Run.x 0
  ·refine Run.z [false,false,false] ?_
   exact Run.x 0
 ·refine Run.z [false,false,false,false,false,false,false,false,false] ?_
  exact Run.x 0
theorem oi_IsWhole (a0 : Iv) : Fun Tryz.prog 137 [] #[vIv a0] (vB (I_IsWhole a0)) []:=by
 refine Fun.ofH 400 E_ok mixed Tryz.func137 (by kernel_rfl) (by kernel_rfl) ?_
 unfold I_IsWhole
 refine Run.q (e:=vB) (gv:=vB) (oi_ValidInterval _) fun r1 _=>?_
 exact Run.x 0
theorem oi_NegI (a0 : Iv) : Fun Tryz.prog 58 [] #[vIv a0] (vIv (I_NegI a0)) []:=by
 refine Fun.ofH 400 E_ok mixed Tryz.func58 (by kernel_rfl) (by kernel_rfl) ?_
 unfold I_NegI
 refine Run.q (e:=vB) (gv:=vIv) (oi_IsWhole _) fun r1 _=>?_
 refine Run.y (gv:=vIv) (fun _=>?_) (fun _=>?_)
 ·refine Run.q (e:=vIv) (gv:=vIv) (oi_Whole) fun r2 _=>?_
  exact Run.x 0
 ·exact Run.x 0
theorem oi_WideMul (a0 : I64) (a1 : I64) : Fun Tryz.prog 205 [] #[vI a0,vI a1] (vWd (I_WideMul a0 a1)) []:=by
 refine Fun.ofH 400 E_ok mixed Tryz.func205 (by kernel_rfl) (by kernel_rfl) ?_
 unfold I_WideMul
 refine Run.q (e:=vT_U_U) (gv:=vWd) (ok_bits_Mul64 _ _) fun r1 _=>?_
 refine Run.y (gv:=vWd) (fun _=>?_) (fun _=>?_)
 ·refine Run.y (gv:=vWd) (fun _=>?_) (fun _=>?_)
  ·exact Run.x 0
  ·exact Run.x 0
 ·refine Run.y (gv:=vWd) (fun _=>?_) (fun _=>?_)
  ·exact Run.x 0
  ·exact Run.x 0
theorem oi_divided (a0 : U64) (a1 : U64) (a2 : U64) (p0 : a2.val ≠ 0) : Fun Tryz.prog 257 [] #[vU a0,vU a1,vU a2] (vT_U_U_U (I_divided a0 a1 a2)) []:=by
 refine Fun.ofH 400 E_ok mixed Tryz.func257 (by kernel_rfl) (by kernel_rfl) ?_
 unfold I_divided
 refine Run.k (c:=(decide (a2.val ≠ 0))) (by kernel_rfl) (by first | exact decide_eq_true p0 | exact imod_lt _ _ p0) ?_
 refine Run.k (c:=(decide (a2.val ≠ 0))) (by kernel_rfl) (by first | exact decide_eq_true p0 | exact imod_lt _ _ p0) ?_
 refine Run.q (e:=vT_U_U) (gv:=vT_U_U_U) (ok_bits_Div64 _ _ _ (by first | exact decide_eq_true p0 | exact imod_lt _ _ p0)) fun r1 hr1=>?_
 exact Run.x 0
theorem oi_Wide_negative (a0 : Wd) : Fun Tryz.prog 258 [] #[vWd a0] (vWd (I_Wide_negative a0)) []:=by
 refine Fun.ofH 400 E_ok mixed Tryz.func258 (by kernel_rfl) (by kernel_rfl) ?_
 unfold I_Wide_negative
 refine Run.k (c:=(decide (0 ≤ (0 : Int)) && (decide (0 ≤ (a0.lo.val : Int)) && (decide ((a0.lo.val : Int) ≤ 18446744073709551615) && (decide (0 ≤ (0 : Int)) && decide ((0 : Int) ≤ 1)))))) (by kernel_rfl) (by simp only [Bool.and_eq_true,decide_eq_true_eq]; exact ⟨U64.lo (cu64 0),U64.lo a0.lo,U64.hi a0.lo,U64.lo (cu64 0),(by decide)⟩) ?_
 refine Run.k (c:=(decide (0 ≤ (0 : Int)) && (decide (0 ≤ ((wu64 a0.hi.val).val : Int)) && (decide (((wu64 a0.hi.val).val : Int) ≤ 18446744073709551615) && (decide (0 ≤ ((sbb_hi (cu64 0) a0.lo (cu64 0)).val : Int)) && decide (((sbb_hi (cu64 0) a0.lo (cu64 0)).val : Int) ≤ 1)))))) (by kernel_rfl) (by simp only [Bool.and_eq_true,decide_eq_true_eq]; exact ⟨U64.lo (cu64 0),U64.lo (wu64 a0.hi.val),U64.hi (wu64 a0.hi.val),U64.lo (sbb_hi (cu64 0) a0.lo (cu64 0)),(sbb_hi_le _ _ _)⟩) ?_
 exact Run.x 0
theorem oi_WideDiv (a0 : Wd) (a1 : I64) : Fun Tryz.prog 230 [] #[vWd a0,vI a1] (vT_Wd_I_B (I_WideDiv a0 a1)) []:=by
 refine Fun.ofH 400 E_ok mixed Tryz.func230 (by kernel_rfl) (by kernel_rfl) ?_
 unfold I_WideDiv
 refine Run.y (gv:=vT_Wd_I_B) (fun h1=>?_) (fun h1=>?_)
 ·exact Run.x 0
 ·refine Run.y (gv:=vT_Wd_I_B) (fun h2=>?_) (fun h2=>?_)
  ·refine Run.q (e:=vT_U_U_U) (gv:=vT_Wd_I_B) (oi_divided _ _ _ (by have q:=a1.hi; simp only [wu64_val,decide_eq_true_eq,decide_eq_false_iff_not] at *; omega)) fun r3 hr3=>?_
   exact Run.x 0
  ·refine Run.q (e:=vWd) (gv:=vT_Wd_I_B) (oi_Wide_negative _) fun r4 hr4=>?_
   refine Run.q (e:=vT_U_U_U) (gv:=vT_Wd_I_B) (oi_divided _ _ _ (by have q:=a1.hi; simp only [wu64_val,decide_eq_true_eq,decide_eq_false_iff_not] at *; omega)) fun r5 hr5=>?_
   refine Run.y (gv:=vT_Wd_I_B) (fun h6=>?_) (fun h6=>?_)
   ·refine Run.q (e:=vWd) (gv:=vT_Wd_I_B) (oi_Wide_negative _) fun r7 hr7=>?_
    exact Run.x 0
   ·refine Run.k (c:=(decide (0 ≤ (r5.2.1.val : Int)) && (decide (0 ≤ (1 : Int)) && (decide (0 ≤ (0 : Int)) && decide ((0 : Int) ≤ 1))))) (by kernel_rfl) (by simp only [Bool.and_eq_true,decide_eq_true_eq]; exact ⟨U64.lo r5.2.1,U64.lo (cu64 1),U64.lo (cu64 0),(by decide)⟩) ?_
    refine Run.q (e:=vWd) (gv:=vT_Wd_I_B) (oi_Wide_negative _) fun r8 hr8=>?_
    exact Run.x 0
theorem oi_WideOf (a0 : I64) : Fun Tryz.prog 260 [] #[vI a0] (vWd (I_WideOf a0)) []:=by
 refine Fun.ofH 400 E_ok mixed Tryz.func260 (by kernel_rfl) (by kernel_rfl) ?_
 unfold I_WideOf
 refine Run.z [true] ?_
 exact Run.x 0
theorem oi_WideInt (a0 : Wd) : Fun Tryz.prog 231 [] #[vWd a0] (vT_I_B (I_WideInt a0)) []:=by
 refine Fun.ofH 400 E_ok mixed Tryz.func231 (by kernel_rfl) (by kernel_rfl) ?_
 unfold I_WideInt
 refine Run.q (e:=vWd) (gv:=vT_I_B) (oi_WideOf _) fun r1 _=>?_
 refine Run.y (gv:=vT_I_B) (fun _=>?_) (fun _=>?_)
 ·exact Run.x 0
 ·exact Run.x 0
theorem oi_MulDivFloor (a0 : I64) (a1 : I64) (a2 : I64) : Fun Tryz.prog 195 [] #[vI a0,vI a1,vI a2] (vT_I_B (I_MulDivFloor a0 a1 a2)) []:=by
 refine Fun.ofH 400 E_ok mixed Tryz.func195 (by kernel_rfl) (by kernel_rfl) ?_
 unfold I_MulDivFloor
 refine Run.q (e:=vWd) (gv:=vT_I_B) (oi_WideMul _ _) fun r1 _=>?_
 refine Run.q (e:=vT_Wd_I_B) (gv:=vT_I_B) (oi_WideDiv _ _) fun r2 _=>?_
 refine Run.y (gv:=vT_I_B) (fun _=>?_) (fun _=>?_)
 ·exact Run.x 0
 ·refine Run.q (e:=vT_I_B) (gv:=vT_I_B) (oi_WideInt _) fun r3 _=>?_
  exact Run.x 0
theorem oi_RadiansOf_r : ∀ (fu : Nat) (a0 : I64) (hm : min (0 - a0.val).toNat 1 < fu),Fun Tryz.prog 124 [] #[vI a0] (vIv (I_RadiansOf_r fu a0)) []:=by
 intro fu
 induction fu with
 | zero=>intro a0 hm; exact absurd hm (Nat.not_lt_zero _)
 | succ fu ih=>
  intro a0 hm
  refine Fun.ofH 400 E_ok mixed Tryz.func124 (by kernel_rfl) (by kernel_rfl) ?_
  unfold I_RadiansOf_r
  refine Run.q (e:=vB) (gv:=vIv) (oi_within _ _ _) fun r1 hr1=>?_
  refine Run.y (gv:=vIv) (fun h2=>?_) (fun h2=>?_)
  ·refine Run.q (e:=vIv) (gv:=vIv) (oi_Whole) fun r3 hr3=>?_
   exact Run.x 0
  ·refine Run.y (gv:=vIv) (fun h4=>?_) (fun h4=>?_)
   ·refine Run.q (e:=vIv) (gv:=vIv) (ih (w64 (0 - a0.val)) (by rw [hr1] at h2; simp [I_within,c64_val] at h2; simp only [w64_val,decide_eq_true_eq,decide_eq_false_iff_not] at *; omega)) fun r5 hr5=>?_
    refine Run.q (e:=vIv) (gv:=vIv) (oi_NegI _) fun r6 hr6=>?_
    exact Run.x 0
   ·refine Run.y (gv:=vIv) (fun h7=>?_) (fun h7=>?_)
    ·exact Run.x 0
    ·refine Run.q (e:=vT_I_B) (gv:=vIv) (oi_MulDivFloor _ _ _) fun r8 hr8=>?_
     refine Run.q (e:=vT_I_B) (gv:=vIv) (oi_MulDivFloor _ _ _) fun r9 hr9=>?_
     exact Run.x 0
theorem oi_RadiansOf (a0 : I64) : Fun Tryz.prog 124 [] #[vI a0] (vIv (I_RadiansOf a0)) []:=oi_RadiansOf_r 2 a0 (by omega)
theorem oi_isAngle (a0 : I64) : Fun Tryz.prog 222 [] #[vI a0] (vB (I_isAngle a0)) []:=by
 refine Fun.ofH 400 E_ok mixed Tryz.func222 (by kernel_rfl) (by kernel_rfl) ?_
 unfold I_isAngle
 refine Run.q (e:=vB) (gv:=vB) (oi_within _ _ _) fun r1 _=>?_
 exact Run.x 0
theorem oi_areAngles (a0 : Iv) : Fun Tryz.prog 186 [] #[vIv a0] (vB (I_areAngles a0)) []:=by
 refine Fun.ofH 400 E_ok mixed Tryz.func186 (by kernel_rfl) (by kernel_rfl) ?_
 unfold I_areAngles
 refine Run.q (e:=vB) (gv:=vB) (oi_ValidInterval _) fun r1 _=>?_
 refine Run.y (gv:=vB) (fun _=>?_) (fun _=>?_)
 ·refine Run.z [true,true] ?_
  refine Run.q (e:=vB) (gv:=vB) (oi_isAngle _) fun r2 _=>?_
  refine Run.z [true] ?_
  refine Run.y (gv:=vB) (fun _=>?_) (fun _=>?_)
  ·refine Run.z [true,true] ?_
   refine Run.q (e:=vB) (gv:=vB) (oi_isAngle _) fun r3 _=>?_
   refine Run.z [true] ?_
   exact Run.x 0
  ·refine Run.z [false,false,false] ?_
   exact Run.x 0
 ·refine Run.z [false,false,false,false,false,false,false] ?_
  exact Run.x 0
theorem oi_ring : Fun Tryz.prog 147 [] #[] (vIv (I_ring)) []:=by
 refine Fun.ofH 400 E_ok mixed Tryz.func147 (by kernel_rfl) (by kernel_rfl) ?_
 unfold I_ring
 exact Run.x 0
theorem oi_QuarterOf (a0 : I64) : Fun Tryz.prog 223 [] #[vI a0] (vI (I_QuarterOf a0)) []:=by
 refine Fun.ofH 400 E_ok mixed Tryz.func223 (by kernel_rfl) (by kernel_rfl) ?_
 unfold I_QuarterOf
 refine Run.q (e:=vB) (gv:=vI) (oi_isAngle _) fun r1 _=>?_
 refine Run.y (gv:=vI) (fun _=>?_) (fun _=>?_)
 ·exact Run.x 0
 ·refine Run.z [true] ?_
  refine Run.y (gv:=vI) (fun _=>?_) (fun _=>?_)
  ·exact Run.x 0
  ·exact Run.x 0
theorem oi_at (a0 : I64) : Fun Tryz.prog 207 [] #[vI a0] (vIv (I_at a0)) []:=by
 refine Fun.ofH 400 E_ok mixed Tryz.func207 (by kernel_rfl) (by kernel_rfl) ?_
 unfold I_at
 exact Run.x 0
theorem oi_WideShift (a0 : Wd) (a1 : I64) : Fun Tryz.prog 237 [] #[vWd a0,vI a1] (vWd (I_WideShift a0 a1)) []:=by
 refine Fun.ofH 400 E_ok mixed Tryz.func237 (by kernel_rfl) (by kernel_rfl) ?_
 unfold I_WideShift
 refine Run.q (e:=vB) (gv:=vWd) (oi_within _ _ _) fun r1 hr1=>?_
 refine Run.y (gv:=vWd) (fun h2=>?_) (fun h2=>?_)
 ·exact Run.x 0
 ·refine Run.y (gv:=vWd) (fun h3=>?_) (fun h3=>?_)
  ·refine Run.z [true] ?_
   refine Run.k (c:=(decide (0 ≤ (w64 (a1.val - 64)).val))) (by kernel_rfl) (by have q:=a1.hi; rw [hr1] at h2; simp [I_within,c64_val] at h2; simp only [w64_val,decide_eq_true_eq,decide_eq_false_iff_not] at *; omega) ?_
   exact Run.x 0
  ·refine Run.k (c:=(decide (0 ≤ a1.val))) (by kernel_rfl) (by have q:=a1.hi; rw [hr1] at h2; simp [I_within,c64_val] at h2; simp only [w64_val,decide_eq_true_eq,decide_eq_false_iff_not] at *; omega) ?_
   refine Run.k (c:=(decide (0 ≤ a1.val))) (by kernel_rfl) (by have q:=a1.hi; rw [hr1] at h2; simp [I_within,c64_val] at h2; simp only [w64_val,decide_eq_true_eq,decide_eq_false_iff_not] at *; omega) ?_
   refine Run.k (c:=(decide (0 ≤ (w64 (64 - a1.val)).val))) (by kernel_rfl) (by have q:=a1.hi; rw [hr1] at h2; simp [I_within,c64_val] at h2; simp only [w64_val,decide_eq_true_eq,decide_eq_false_iff_not] at *; omega) ?_
   exact Run.x 0
theorem oi_MulFloor (a0 : I64) (a1 : I64) (a2 : I64) : Fun Tryz.prog 202 [] #[vI a0,vI a1,vI a2] (vT_I_B (I_MulFloor a0 a1 a2)) []:=by
 refine Fun.ofH 400 E_ok mixed Tryz.func202 (by kernel_rfl) (by kernel_rfl) ?_
 unfold I_MulFloor
 refine Run.q (e:=vB) (gv:=vT_I_B) (oi_within _ _ _) fun r1 _=>?_
 refine Run.y (gv:=vT_I_B) (fun _=>?_) (fun _=>?_)
 ·exact Run.x 0
 ·refine Run.q (e:=vWd) (gv:=vT_I_B) (oi_WideMul _ _) fun r2 _=>?_
  refine Run.q (e:=vWd) (gv:=vT_I_B) (oi_WideShift _ _) fun r3 _=>?_
  refine Run.q (e:=vT_I_B) (gv:=vT_I_B) (oi_WideInt _) fun r4 _=>?_
  exact Run.x 0
theorem oi_TurnI_r : ∀ (fu : Nat) (a0 : I64) (hm : min (0 - a0.val).toNat 1 < fu),Fun Tryz.prog 153 [] #[vI a0] (vIv (I_TurnI_r fu a0)) []:=by
 intro fu
 induction fu with
 | zero=>intro a0 hm; exact absurd hm (Nat.not_lt_zero _)
 | succ fu ih=>
  intro a0 hm
  refine Fun.ofH 400 E_ok mixed Tryz.func153 (by kernel_rfl) (by kernel_rfl) ?_
  unfold I_TurnI_r
  refine Run.q (e:=vB) (gv:=vIv) (oi_within _ _ _) fun r1 hr1=>?_
  refine Run.y (gv:=vIv) (fun h2=>?_) (fun h2=>?_)
  ·refine Run.q (e:=vIv) (gv:=vIv) (oi_Whole) fun r3 hr3=>?_
   exact Run.x 0
  ·refine Run.y (gv:=vIv) (fun h4=>?_) (fun h4=>?_)
   ·refine Run.q (e:=vIv) (gv:=vIv) (ih (w64 (0 - a0.val)) (by rw [hr1] at h2; simp [I_within,c64_val] at h2; simp only [w64_val,decide_eq_true_eq,decide_eq_false_iff_not] at *; omega)) fun r5 hr5=>?_
    refine Run.q (e:=vIv) (gv:=vIv) (oi_NegI _) fun r6 hr6=>?_
    exact Run.x 0
   ·refine Run.y (gv:=vIv) (fun h7=>?_) (fun h7=>?_)
    ·exact Run.x 0
    ·refine Run.q (e:=vT_I_B) (gv:=vIv) (oi_MulFloor _ _ _) fun r8 hr8=>?_
     exact Run.x 0
theorem oi_TurnI (a0 : I64) : Fun Tryz.prog 153 [] #[vI a0] (vIv (I_TurnI a0)) []:=oi_TurnI_r 2 a0 (by omega)
theorem oi_areBounded (a0 : Iv) (a1 : Iv) : Fun Tryz.prog 127 [] #[vIv a0,vIv a1] (vB (I_areBounded a0 a1)) []:=by
 refine Fun.ofH 400 E_ok mixed Tryz.func127 (by kernel_rfl) (by kernel_rfl) ?_
 unfold I_areBounded
 refine Run.q (e:=vB) (gv:=vB) (oi_ValidInterval _) fun r1 _=>?_
 refine Run.y (gv:=vB) (fun _=>?_) (fun _=>?_)
 ·refine Run.z [true] ?_
  refine Run.q (e:=vB) (gv:=vB) (oi_ValidInterval _) fun r2 _=>?_
  refine Run.z [true] ?_
  exact Run.x 0
 ·refine Run.z [false,false] ?_
  exact Run.x 0
theorem oi_bounded (a0 : I64) (a1 : I64) (a2 : Bool) : Fun Tryz.prog 140 [] #[vI a0,vI a1,vB a2] (vIv (I_bounded a0 a1 a2)) []:=by
 refine Fun.ofH 400 E_ok mixed Tryz.func140 (by kernel_rfl) (by kernel_rfl) ?_
 unfold I_bounded
 refine Run.y (gv:=vIv) (fun _=>?_) (fun _=>?_)
 ·refine Run.z [true] ?_
  refine Run.q (e:=vB) (gv:=vIv) (oi_ValidInterval _) fun r1 _=>?_
  refine Run.z [true] ?_
  refine Run.y (gv:=vIv) (fun _=>?_) (fun _=>?_)
  ·exact Run.x 0
  ·refine Run.q (e:=vIv) (gv:=vIv) (oi_Whole) fun r2 _=>?_
   exact Run.x 0
 ·refine Run.z [false,false,false] ?_
  refine Run.q (e:=vIv) (gv:=vIv) (oi_Whole) fun r3 _=>?_
  exact Run.x 0
theorem oi_AddI (a0 : Iv) (a1 : Iv) : Fun Tryz.prog 55 [] #[vIv a0,vIv a1] (vIv (I_AddI a0 a1)) []:=by
 refine Fun.ofH 400 E_ok mixed Tryz.func55 (by kernel_rfl) (by kernel_rfl) ?_
 unfold I_AddI
 refine Run.q (e:=vB) (gv:=vIv) (oi_areBounded _ _) fun r1 _=>?_
 refine Run.y (gv:=vIv) (fun _=>?_) (fun _=>?_)
 ·refine Run.q (e:=vIv) (gv:=vIv) (oi_Whole) fun r2 _=>?_
  exact Run.x 0
 ·refine Run.q (e:=vIv) (gv:=vIv) (oi_bounded _ _ _) fun r3 _=>?_
  exact Run.x 0
theorem oi_SubI (a0 : Iv) (a1 : Iv) : Fun Tryz.prog 52 [] #[vIv a0,vIv a1] (vIv (I_SubI a0 a1)) []:=by
 refine Fun.ofH 400 E_ok mixed Tryz.func52 (by kernel_rfl) (by kernel_rfl) ?_
 unfold I_SubI
 refine Run.q (e:=vIv) (gv:=vIv) (oi_NegI _) fun r1 _=>?_
 refine Run.q (e:=vIv) (gv:=vIv) (oi_AddI _ _) fun r2 _=>?_
 exact Run.x 0
theorem oi_InsideI (a0 : Iv) (a1 : Iv) : Fun Tryz.prog 262 [] #[vIv a0,vIv a1] (vB (I_InsideI a0 a1)) []:=by
 refine Fun.ofH 400 E_ok mixed Tryz.func262 (by kernel_rfl) (by kernel_rfl) ?_
 unfold I_InsideI
 refine Run.q (e:=vB) (gv:=vB) (oi_IsWhole _) fun r1 _=>?_
 refine Run.y (gv:=vB) (fun _=>?_) (fun _=>?_)
 ·refine Run.z [true,true,true] ?_
  refine Run.q (e:=vB) (gv:=vB) (oi_IsWhole _) fun r2 _=>?_
  exact Run.x 0
 ·refine Run.z [false] ?_
  refine Run.q (e:=vB) (gv:=vB) (oi_IsWhole _) fun r3 _=>?_
  refine Run.z [false] ?_
  refine Run.y (gv:=vB) (fun _=>?_) (fun _=>?_)
  ·refine Run.q (e:=vB) (gv:=vB) (oi_IsWhole _) fun r4 _=>?_
   exact Run.x 0
  ·refine Run.y (gv:=vB) (fun _=>?_) (fun _=>?_)
   ·refine Run.z [true,true,true,true,true] ?_
    exact Run.x 0
   ·refine Run.z [false,false,false,false,false] ?_
    exact Run.x 0
theorem oi_HasI (a0 : Iv) (a1 : I64) : Fun Tryz.prog 142 [] #[vIv a0,vI a1] (vB (I_HasI a0 a1)) []:=by
 refine Fun.ofH 400 E_ok mixed Tryz.func142 (by kernel_rfl) (by kernel_rfl) ?_
 unfold I_HasI
 refine Run.q (e:=vB) (gv:=vB) (oi_IsWhole _) fun r1 _=>?_
 refine Run.y (gv:=vB) (fun _=>?_) (fun _=>?_)
 ·refine Run.z [true,true,true,true,true,true] ?_
  exact Run.x 0
 ·refine Run.z [false,false,false,false,false] ?_
  refine Run.q (e:=vB) (gv:=vB) (oi_within _ _ _) fun r2 _=>?_
  refine Run.z [false] ?_
  exact Run.x 0
theorem oi_AbsI (a0 : Iv) : Fun Tryz.prog 141 [] #[vIv a0] (vIv (I_AbsI a0)) []:=by
 refine Fun.ofH 400 E_ok mixed Tryz.func141 (by kernel_rfl) (by kernel_rfl) ?_
 unfold I_AbsI
 refine Run.q (e:=vB) (gv:=vIv) (oi_IsWhole _) fun r1 _=>?_
 refine Run.y (gv:=vIv) (fun _=>?_) (fun _=>?_)
 ·refine Run.q (e:=vIv) (gv:=vIv) (oi_Whole) fun r2 _=>?_
  exact Run.x 0
 ·refine Run.q (e:=vI) (gv:=vIv) (oi_abs _) fun r3 _=>?_
  refine Run.q (e:=vI) (gv:=vIv) (oi_abs _) fun r4 _=>?_
  refine Run.q (e:=vI) (gv:=vIv) (oi_abs _) fun r5 _=>?_
  refine Run.q (e:=vI) (gv:=vIv) (oi_abs _) fun r6 _=>?_
  refine Run.q (e:=vB) (gv:=vIv) (oi_HasI _ _) fun r7 _=>?_
  refine Run.y (gv:=vIv) (fun _=>?_) (fun _=>?_)
  ·exact Run.x 0
  ·exact Run.x 0
theorem oi_ValidFix (a0 : I64) : Fun Tryz.prog 200 [] #[vI a0] (vB (I_ValidFix a0)) []:=by
 refine Fun.ofH 400 E_ok mixed Tryz.func200 (by kernel_rfl) (by kernel_rfl) ?_
 unfold I_ValidFix
 refine Run.q (e:=vB) (gv:=vB) (oi_within _ _ _) fun r1 _=>?_
 exact Run.x 0
theorem oi_fixed (a0 : I64) (a1 : Bool) : Fun Tryz.prog 201 [] #[vI a0,vB a1] (vT_I_B (I_fixed a0 a1)) []:=by
 refine Fun.ofH 400 E_ok mixed Tryz.func201 (by kernel_rfl) (by kernel_rfl) ?_
 unfold I_fixed
 refine Run.y (gv:=vT_I_B) (fun _=>?_) (fun _=>?_)
 ·refine Run.z [true,true,true,true] ?_
  exact Run.x 0
 ·refine Run.z [false] ?_
  refine Run.q (e:=vB) (gv:=vT_I_B) (oi_ValidFix _) fun r1 _=>?_
  refine Run.z [false,false] ?_
  refine Run.y (gv:=vT_I_B) (fun _=>?_) (fun _=>?_)
  ·exact Run.x 0
  ·exact Run.x 0
theorem oi_MulDown (a0 : I64) (a1 : I64) : Fun Tryz.prog 133 [] #[vI a0,vI a1] (vT_I_B (I_MulDown a0 a1)) []:=by
 refine Fun.ofH 400 E_ok mixed Tryz.func133 (by kernel_rfl) (by kernel_rfl) ?_
 unfold I_MulDown
 refine Run.q (e:=vB) (gv:=vT_I_B) (oi_ValidFix _) fun r1 _=>?_
 refine Run.y (gv:=vT_I_B) (fun _=>?_) (fun _=>?_)
 ·refine Run.z [true,true,true,true] ?_
  exact Run.x 0
 ·refine Run.z [false] ?_
  refine Run.q (e:=vB) (gv:=vT_I_B) (oi_ValidFix _) fun r2 _=>?_
  refine Run.z [false,false] ?_
  refine Run.y (gv:=vT_I_B) (fun _=>?_) (fun _=>?_)
  ·exact Run.x 0
  ·refine Run.q (e:=vT_I_B) (gv:=vT_I_B) (oi_MulFloor _ _ _) fun r3 _=>?_
   refine Run.q (e:=vT_I_B) (gv:=vT_I_B) (oi_fixed _ _) fun r4 _=>?_
   exact Run.x 0
theorem oi_MulUp (a0 : I64) (a1 : I64) : Fun Tryz.prog 134 [] #[vI a0,vI a1] (vT_I_B (I_MulUp a0 a1)) []:=by
 refine Fun.ofH 400 E_ok mixed Tryz.func134 (by kernel_rfl) (by kernel_rfl) ?_
 unfold I_MulUp
 refine Run.q (e:=vB) (gv:=vT_I_B) (oi_ValidFix _) fun r1 _=>?_
 refine Run.y (gv:=vT_I_B) (fun _=>?_) (fun _=>?_)
 ·refine Run.z [true,true,true,true] ?_
  exact Run.x 0
 ·refine Run.z [false] ?_
  refine Run.q (e:=vB) (gv:=vT_I_B) (oi_ValidFix _) fun r2 _=>?_
  refine Run.z [false,false] ?_
  refine Run.y (gv:=vT_I_B) (fun _=>?_) (fun _=>?_)
  ·exact Run.x 0
  ·refine Run.q (e:=vT_I_B) (gv:=vT_I_B) (oi_MulDown _ _) fun r3 _=>?_
   exact Run.x 0
theorem oi_SqrI (a0 : Iv) : Fun Tryz.prog 56 [] #[vIv a0] (vIv (I_SqrI a0)) []:=by
 refine Fun.ofH 400 E_ok mixed Tryz.func56 (by kernel_rfl) (by kernel_rfl) ?_
 unfold I_SqrI
 refine Run.q (e:=vB) (gv:=vIv) (oi_IsWhole _) fun r1 _=>?_
 refine Run.y (gv:=vIv) (fun _=>?_) (fun _=>?_)
 ·refine Run.q (e:=vIv) (gv:=vIv) (oi_Whole) fun r2 _=>?_
  exact Run.x 0
 ·refine Run.q (e:=vIv) (gv:=vIv) (oi_AbsI _) fun r3 _=>?_
  refine Run.q (e:=vT_I_B) (gv:=vIv) (oi_MulDown _ _) fun r4 _=>?_
  refine Run.q (e:=vT_I_B) (gv:=vIv) (oi_MulUp _ _) fun r5 _=>?_
  refine Run.y (gv:=vIv) (fun _=>?_) (fun _=>?_)
  ·refine Run.z [true] ?_
   refine Run.q (e:=vIv) (gv:=vIv) (oi_bounded _ _ _) fun r6 _=>?_
   exact Run.x 0
  ·refine Run.z [false] ?_
   refine Run.q (e:=vIv) (gv:=vIv) (oi_bounded _ _ _) fun r7 _=>?_
   exact Run.x 0
theorem oi_Integer (a0 : I64) : Fun Tryz.prog 79 [] #[vI a0] (vIv (I_Integer a0)) []:=by
 refine Fun.ofH 400 E_ok mixed Tryz.func79 (by kernel_rfl) (by kernel_rfl) ?_
 unfold I_Integer
 refine Run.q (e:=vB) (gv:=vIv) (oi_within _ _ _) fun r1 _=>?_
 refine Run.y (gv:=vIv) (fun _=>?_) (fun _=>?_)
 ·refine Run.q (e:=vIv) (gv:=vIv) (oi_Whole) fun r2 _=>?_
  exact Run.x 0
 ·refine Run.q (e:=vIv) (gv:=vIv) (oi_bounded _ _ _) fun r3 _=>?_
  exact Run.x 0
theorem oi_DivDown (a0 : I64) (a1 : I64) : Fun Tryz.prog 154 [] #[vI a0,vI a1] (vT_I_B (I_DivDown a0 a1)) []:=by
 refine Fun.ofH 400 E_ok mixed Tryz.func154 (by kernel_rfl) (by kernel_rfl) ?_
 unfold I_DivDown
 refine Run.q (e:=vB) (gv:=vT_I_B) (oi_ValidFix _) fun r1 _=>?_
 refine Run.y (gv:=vT_I_B) (fun _=>?_) (fun _=>?_)
 ·refine Run.z [true,true,true,true] ?_
  exact Run.x 0
 ·refine Run.z [false] ?_
  refine Run.q (e:=vB) (gv:=vT_I_B) (oi_ValidFix _) fun r2 _=>?_
  refine Run.z [false,false] ?_
  refine Run.y (gv:=vT_I_B) (fun _=>?_) (fun _=>?_)
  ·exact Run.x 0
  ·refine Run.y (gv:=vT_I_B) (fun _=>?_) (fun _=>?_)
   ·refine Run.q (e:=vT_I_B) (gv:=vT_I_B) (oi_MulDivFloor _ _ _) fun r3 _=>?_
    refine Run.q (e:=vT_I_B) (gv:=vT_I_B) (oi_fixed _ _) fun r4 _=>?_
    exact Run.x 0
   ·refine Run.q (e:=vT_I_B) (gv:=vT_I_B) (oi_MulDivFloor _ _ _) fun r5 _=>?_
    refine Run.q (e:=vT_I_B) (gv:=vT_I_B) (oi_fixed _ _) fun r6 _=>?_
    exact Run.x 0
theorem oi_DivUp (a0 : I64) (a1 : I64) : Fun Tryz.prog 155 [] #[vI a0,vI a1] (vT_I_B (I_DivUp a0 a1)) []:=by
 refine Fun.ofH 400 E_ok mixed Tryz.func155 (by kernel_rfl) (by kernel_rfl) ?_
 unfold I_DivUp
 refine Run.q (e:=vB) (gv:=vT_I_B) (oi_ValidFix _) fun r1 _=>?_
 refine Run.y (gv:=vT_I_B) (fun _=>?_) (fun _=>?_)
 ·refine Run.z [true,true,true,true] ?_
  exact Run.x 0
 ·refine Run.z [false] ?_
  refine Run.q (e:=vB) (gv:=vT_I_B) (oi_ValidFix _) fun r2 _=>?_
  refine Run.z [false,false] ?_
  refine Run.y (gv:=vT_I_B) (fun _=>?_) (fun _=>?_)
  ·exact Run.x 0
  ·refine Run.q (e:=vT_I_B) (gv:=vT_I_B) (oi_DivDown _ _) fun r3 _=>?_
   exact Run.x 0
theorem oi_combine__impl_DivDown__impl_DivUp (a0 : Iv) (a1 : Iv) : Fun Tryz.prog 132 [] #[vIv a0,vIv a1,.func (.func 154) #[] #[],.func (.func 155) #[] #[]] (vIv (I_combine__impl_DivDown__impl_DivUp a0 a1)) []:=by
 refine Fun.ofH 400 E_ok mixed Tryz.func132 (by kernel_rfl) (by kernel_rfl) ?_
 unfold I_combine__impl_DivDown__impl_DivUp
 refine Run.u 400 E_ok mixed Tryz.func132 ?_
 refine Run.z [true] ?_
 refine Run.u 400 E_ok mixed Tryz.func132 ?_
 refine Run.z [true] ?_
 refine Run.q (e:=vT_I_B) (gv:=vIv) (oi_DivDown _ _) fun r1 _=>?_
 refine Run.q (e:=vT_I_B) (gv:=vIv) (oi_DivUp _ _) fun r2 _=>?_
 refine Run.y (gv:=vIv) (fun _=>?_) (fun _=>?_)
 ·refine Run.z [true,true,true] ?_
  refine Run.q (e:=vIv) (gv:=vIv) (oi_Whole) fun r3 _=>?_
  exact Run.x 0
 ·refine Run.z [false,false] ?_
  refine Run.y (gv:=vIv) (fun _=>?_) (fun _=>?_)
  ·refine Run.q (e:=vIv) (gv:=vIv) (oi_Whole) fun r4 _=>?_
   exact Run.x 0
  ·refine Run.z [true] ?_
   refine Run.u 400 E_ok mixed Tryz.func132 ?_
   refine Run.z [true] ?_
   refine Run.q (e:=vT_I_B) (gv:=vIv) (oi_DivDown _ _) fun r5 _=>?_
   refine Run.q (e:=vT_I_B) (gv:=vIv) (oi_DivUp _ _) fun r6 _=>?_
   refine Run.y (gv:=vIv) (fun _=>?_) (fun _=>?_)
   ·refine Run.z [true,true,true] ?_
    refine Run.q (e:=vIv) (gv:=vIv) (oi_Whole) fun r7 _=>?_
    exact Run.x 0
   ·refine Run.z [false,false] ?_
    refine Run.y (gv:=vIv) (fun _=>?_) (fun _=>?_)
    ·refine Run.q (e:=vIv) (gv:=vIv) (oi_Whole) fun r8 _=>?_
     exact Run.x 0
    ·refine Run.z [false] ?_
     refine Run.u 400 E_ok mixed Tryz.func132 ?_
     refine Run.z [false] ?_
     refine Run.u 400 E_ok mixed Tryz.func132 ?_
     refine Run.z [true] ?_
     refine Run.u 400 E_ok mixed Tryz.func132 ?_
     refine Run.z [true] ?_
     refine Run.q (e:=vT_I_B) (gv:=vIv) (oi_DivDown _ _) fun r9 _=>?_
     refine Run.q (e:=vT_I_B) (gv:=vIv) (oi_DivUp _ _) fun r10 _=>?_
     refine Run.y (gv:=vIv) (fun _=>?_) (fun _=>?_)
     ·refine Run.z [true,true,true] ?_
      refine Run.q (e:=vIv) (gv:=vIv) (oi_Whole) fun r11 _=>?_
      exact Run.x 0
     ·refine Run.z [false,false] ?_
      refine Run.y (gv:=vIv) (fun _=>?_) (fun _=>?_)
      ·refine Run.q (e:=vIv) (gv:=vIv) (oi_Whole) fun r12 _=>?_
       exact Run.x 0
      ·refine Run.z [false] ?_
       refine Run.u 400 E_ok mixed Tryz.func132 ?_
       refine Run.z [true] ?_
       refine Run.q (e:=vT_I_B) (gv:=vIv) (oi_DivDown _ _) fun r13 _=>?_
       refine Run.q (e:=vT_I_B) (gv:=vIv) (oi_DivUp _ _) fun r14 _=>?_
       refine Run.y (gv:=vIv) (fun _=>?_) (fun _=>?_)
       ·refine Run.z [true,true,true] ?_
        refine Run.q (e:=vIv) (gv:=vIv) (oi_Whole) fun r15 _=>?_
        exact Run.x 0
       ·refine Run.z [false,false] ?_
        refine Run.y (gv:=vIv) (fun _=>?_) (fun _=>?_)
        ·refine Run.q (e:=vIv) (gv:=vIv) (oi_Whole) fun r16 _=>?_
         exact Run.x 0
        ·refine Run.z [false] ?_
         refine Run.u 400 E_ok mixed Tryz.func132 ?_
         refine Run.z [false] ?_
         refine Run.u 400 E_ok mixed Tryz.func132 ?_
         refine Run.z [false] ?_
         refine Run.q (e:=vIv) (gv:=vIv) (oi_bounded _ _ _) fun r17 _=>?_
         exact Run.x 0
theorem oi_DivI (a0 : Iv) (a1 : Iv) : Fun Tryz.prog 61 [] #[vIv a0,vIv a1] (vIv (I_DivI a0 a1)) []:=by
 refine Fun.ofH 400 E_ok mixed Tryz.func61 (by kernel_rfl) (by kernel_rfl) ?_
 unfold I_DivI
 refine Run.q (e:=vB) (gv:=vIv) (oi_areBounded _ _) fun r1 _=>?_
 refine Run.y (gv:=vIv) (fun _=>?_) (fun _=>?_)
 ·refine Run.z [true,true,true] ?_
  refine Run.q (e:=vIv) (gv:=vIv) (oi_Whole) fun r2 _=>?_
  exact Run.x 0
 ·refine Run.z [false] ?_
  refine Run.q (e:=vB) (gv:=vIv) (oi_HasI _ _) fun r3 _=>?_
  refine Run.z [false] ?_
  refine Run.y (gv:=vIv) (fun _=>?_) (fun _=>?_)
  ·refine Run.q (e:=vIv) (gv:=vIv) (oi_Whole) fun r4 _=>?_
   exact Run.x 0
  ·refine Run.q (e:=vIv) (gv:=vIv) (oi_combine__impl_DivDown__impl_DivUp _ _) fun r5 _=>?_
   exact Run.x 0
theorem oi_combine__impl_MulDown__impl_MulUp (a0 : Iv) (a1 : Iv) : Fun Tryz.prog 132 [] #[vIv a0,vIv a1,.func (.func 133) #[] #[],.func (.func 134) #[] #[]] (vIv (I_combine__impl_MulDown__impl_MulUp a0 a1)) []:=by
 refine Fun.ofH 400 E_ok mixed Tryz.func132 (by kernel_rfl) (by kernel_rfl) ?_
 unfold I_combine__impl_MulDown__impl_MulUp
 refine Run.u 400 E_ok mixed Tryz.func132 ?_
 refine Run.z [true] ?_
 refine Run.u 400 E_ok mixed Tryz.func132 ?_
 refine Run.z [true] ?_
 refine Run.q (e:=vT_I_B) (gv:=vIv) (oi_MulDown _ _) fun r1 _=>?_
 refine Run.q (e:=vT_I_B) (gv:=vIv) (oi_MulUp _ _) fun r2 _=>?_
 refine Run.y (gv:=vIv) (fun _=>?_) (fun _=>?_)
 ·refine Run.z [true,true,true] ?_
  refine Run.q (e:=vIv) (gv:=vIv) (oi_Whole) fun r3 _=>?_
  exact Run.x 0
 ·refine Run.z [false,false] ?_
  refine Run.y (gv:=vIv) (fun _=>?_) (fun _=>?_)
  ·refine Run.q (e:=vIv) (gv:=vIv) (oi_Whole) fun r4 _=>?_
   exact Run.x 0
  ·refine Run.z [true] ?_
   refine Run.u 400 E_ok mixed Tryz.func132 ?_
   refine Run.z [true] ?_
   refine Run.q (e:=vT_I_B) (gv:=vIv) (oi_MulDown _ _) fun r5 _=>?_
   refine Run.q (e:=vT_I_B) (gv:=vIv) (oi_MulUp _ _) fun r6 _=>?_
   refine Run.y (gv:=vIv) (fun _=>?_) (fun _=>?_)
   ·refine Run.z [true,true,true] ?_
    refine Run.q (e:=vIv) (gv:=vIv) (oi_Whole) fun r7 _=>?_
    exact Run.x 0
   ·refine Run.z [false,false] ?_
    refine Run.y (gv:=vIv) (fun _=>?_) (fun _=>?_)
    ·refine Run.q (e:=vIv) (gv:=vIv) (oi_Whole) fun r8 _=>?_
     exact Run.x 0
    ·refine Run.z [false] ?_
     refine Run.u 400 E_ok mixed Tryz.func132 ?_
     refine Run.z [false] ?_
     refine Run.u 400 E_ok mixed Tryz.func132 ?_
     refine Run.z [true] ?_
     refine Run.u 400 E_ok mixed Tryz.func132 ?_
     refine Run.z [true] ?_
     refine Run.q (e:=vT_I_B) (gv:=vIv) (oi_MulDown _ _) fun r9 _=>?_
     refine Run.q (e:=vT_I_B) (gv:=vIv) (oi_MulUp _ _) fun r10 _=>?_
     refine Run.y (gv:=vIv) (fun _=>?_) (fun _=>?_)
     ·refine Run.z [true,true,true] ?_
      refine Run.q (e:=vIv) (gv:=vIv) (oi_Whole) fun r11 _=>?_
      exact Run.x 0
     ·refine Run.z [false,false] ?_
      refine Run.y (gv:=vIv) (fun _=>?_) (fun _=>?_)
      ·refine Run.q (e:=vIv) (gv:=vIv) (oi_Whole) fun r12 _=>?_
       exact Run.x 0
      ·refine Run.z [false] ?_
       refine Run.u 400 E_ok mixed Tryz.func132 ?_
       refine Run.z [true] ?_
       refine Run.q (e:=vT_I_B) (gv:=vIv) (oi_MulDown _ _) fun r13 _=>?_
       refine Run.q (e:=vT_I_B) (gv:=vIv) (oi_MulUp _ _) fun r14 _=>?_
       refine Run.y (gv:=vIv) (fun _=>?_) (fun _=>?_)
       ·refine Run.z [true,true,true] ?_
        refine Run.q (e:=vIv) (gv:=vIv) (oi_Whole) fun r15 _=>?_
        exact Run.x 0
       ·refine Run.z [false,false] ?_
        refine Run.y (gv:=vIv) (fun _=>?_) (fun _=>?_)
        ·refine Run.q (e:=vIv) (gv:=vIv) (oi_Whole) fun r16 _=>?_
         exact Run.x 0
        ·refine Run.z [false] ?_
         refine Run.u 400 E_ok mixed Tryz.func132 ?_
         refine Run.z [false] ?_
         refine Run.u 400 E_ok mixed Tryz.func132 ?_
         refine Run.z [false] ?_
         refine Run.q (e:=vIv) (gv:=vIv) (oi_bounded _ _ _) fun r17 _=>?_
         exact Run.x 0
theorem oi_MulI (a0 : Iv) (a1 : Iv) : Fun Tryz.prog 48 [] #[vIv a0,vIv a1] (vIv (I_MulI a0 a1)) []:=by
 refine Fun.ofH 400 E_ok mixed Tryz.func48 (by kernel_rfl) (by kernel_rfl) ?_
 unfold I_MulI
 refine Run.q (e:=vB) (gv:=vIv) (oi_areBounded _ _) fun r1 _=>?_
 refine Run.y (gv:=vIv) (fun _=>?_) (fun _=>?_)
 ·refine Run.q (e:=vIv) (gv:=vIv) (oi_Whole) fun r2 _=>?_
  exact Run.x 0
 ·refine Run.q (e:=vIv) (gv:=vIv) (oi_combine__impl_MulDown__impl_MulUp _ _) fun r3 _=>?_
  exact Run.x 0
theorem oi_series (a0 : Iv) (a1 : I64) : Fun Tryz.prog 263 [] #[vIv a0,vI a1] (vIv (I_series a0 a1)) []:=by
 refine Fun.ofH 400 E_ok mixed Tryz.func263 (by kernel_rfl) (by kernel_rfl) ?_
 unfold I_series
 refine Run.q (e:=vIv) (gv:=vIv) (oi_Integer _) fun r1 _=>?_
 refine Run.u 400 E_ok mixed Tryz.func263 ?_
 refine Run.z [true] ?_
 refine Run.q (e:=vIv) (gv:=vIv) (oi_Integer _) fun r2 _=>?_
 refine Run.q (e:=vIv) (gv:=vIv) (oi_Integer _) fun r3 _=>?_
 refine Run.q (e:=vIv) (gv:=vIv) (oi_DivI _ _) fun r4 _=>?_
 refine Run.q (e:=vIv) (gv:=vIv) (oi_MulI _ _) fun r5 _=>?_
 refine Run.q (e:=vIv) (gv:=vIv) (oi_SubI _ _) fun r6 _=>?_
 refine Run.u 400 E_ok mixed Tryz.func263 ?_
 refine Run.z [true] ?_
 refine Run.q (e:=vIv) (gv:=vIv) (oi_Integer _) fun r7 _=>?_
 refine Run.q (e:=vIv) (gv:=vIv) (oi_Integer _) fun r8 _=>?_
 refine Run.q (e:=vIv) (gv:=vIv) (oi_DivI _ _) fun r9 _=>?_
 refine Run.q (e:=vIv) (gv:=vIv) (oi_MulI _ _) fun r10 _=>?_
 refine Run.q (e:=vIv) (gv:=vIv) (oi_SubI _ _) fun r11 _=>?_
 refine Run.u 400 E_ok mixed Tryz.func263 ?_
 refine Run.z [true] ?_
 refine Run.q (e:=vIv) (gv:=vIv) (oi_Integer _) fun r12 _=>?_
 refine Run.q (e:=vIv) (gv:=vIv) (oi_Integer _) fun r13 _=>?_
 refine Run.q (e:=vIv) (gv:=vIv) (oi_DivI _ _) fun r14 _=>?_
 refine Run.q (e:=vIv) (gv:=vIv) (oi_MulI _ _) fun r15 _=>?_
 refine Run.q (e:=vIv) (gv:=vIv) (oi_SubI _ _) fun r16 _=>?_
 refine Run.u 400 E_ok mixed Tryz.func263 ?_
 refine Run.z [true] ?_
 refine Run.q (e:=vIv) (gv:=vIv) (oi_Integer _) fun r17 _=>?_
 refine Run.q (e:=vIv) (gv:=vIv) (oi_Integer _) fun r18 _=>?_
 refine Run.q (e:=vIv) (gv:=vIv) (oi_DivI _ _) fun r19 _=>?_
 refine Run.q (e:=vIv) (gv:=vIv) (oi_MulI _ _) fun r20 _=>?_
 refine Run.q (e:=vIv) (gv:=vIv) (oi_SubI _ _) fun r21 _=>?_
 refine Run.u 400 E_ok mixed Tryz.func263 ?_
 refine Run.z [true] ?_
 refine Run.q (e:=vIv) (gv:=vIv) (oi_Integer _) fun r22 _=>?_
 refine Run.q (e:=vIv) (gv:=vIv) (oi_Integer _) fun r23 _=>?_
 refine Run.q (e:=vIv) (gv:=vIv) (oi_DivI _ _) fun r24 _=>?_
 refine Run.q (e:=vIv) (gv:=vIv) (oi_MulI _ _) fun r25 _=>?_
 refine Run.q (e:=vIv) (gv:=vIv) (oi_SubI _ _) fun r26 _=>?_
 refine Run.u 400 E_ok mixed Tryz.func263 ?_
 refine Run.z [true] ?_
 refine Run.q (e:=vIv) (gv:=vIv) (oi_Integer _) fun r27 _=>?_
 refine Run.q (e:=vIv) (gv:=vIv) (oi_Integer _) fun r28 _=>?_
 refine Run.q (e:=vIv) (gv:=vIv) (oi_DivI _ _) fun r29 _=>?_
 refine Run.q (e:=vIv) (gv:=vIv) (oi_MulI _ _) fun r30 _=>?_
 refine Run.q (e:=vIv) (gv:=vIv) (oi_SubI _ _) fun r31 _=>?_
 refine Run.u 400 E_ok mixed Tryz.func263 ?_
 refine Run.z [true] ?_
 refine Run.q (e:=vIv) (gv:=vIv) (oi_Integer _) fun r32 _=>?_
 refine Run.q (e:=vIv) (gv:=vIv) (oi_Integer _) fun r33 _=>?_
 refine Run.q (e:=vIv) (gv:=vIv) (oi_DivI _ _) fun r34 _=>?_
 refine Run.q (e:=vIv) (gv:=vIv) (oi_MulI _ _) fun r35 _=>?_
 refine Run.q (e:=vIv) (gv:=vIv) (oi_SubI _ _) fun r36 _=>?_
 refine Run.u 400 E_ok mixed Tryz.func263 ?_
 refine Run.z [true] ?_
 refine Run.q (e:=vIv) (gv:=vIv) (oi_Integer _) fun r37 _=>?_
 refine Run.q (e:=vIv) (gv:=vIv) (oi_Integer _) fun r38 _=>?_
 refine Run.q (e:=vIv) (gv:=vIv) (oi_DivI _ _) fun r39 _=>?_
 refine Run.q (e:=vIv) (gv:=vIv) (oi_MulI _ _) fun r40 _=>?_
 refine Run.q (e:=vIv) (gv:=vIv) (oi_SubI _ _) fun r41 _=>?_
 refine Run.u 400 E_ok mixed Tryz.func263 ?_
 refine Run.z [false] ?_
 exact Run.x 0
theorem oi_tiny : Fun Tryz.prog 264 [] #[] (vIv (I_tiny)) []:=by
 refine Fun.ofH 400 E_ok mixed Tryz.func264 (by kernel_rfl) (by kernel_rfl) ?_
 unfold I_tiny
 exact Run.x 0
theorem oi_SinSeries (a0 : Iv) : Fun Tryz.prog 239 [] #[vIv a0] (vIv (I_SinSeries a0)) []:=by
 refine Fun.ofH 400 E_ok mixed Tryz.func239 (by kernel_rfl) (by kernel_rfl) ?_
 unfold I_SinSeries
 refine Run.q (e:=vIv) (gv:=vIv) (oi_ring) fun r1 _=>?_
 refine Run.q (e:=vB) (gv:=vIv) (oi_InsideI _ _) fun r2 _=>?_
 refine Run.y (gv:=vIv) (fun _=>?_) (fun _=>?_)
 ·refine Run.q (e:=vIv) (gv:=vIv) (oi_Whole) fun r3 _=>?_
  exact Run.x 0
 ·refine Run.q (e:=vIv) (gv:=vIv) (oi_SqrI _) fun r4 _=>?_
  refine Run.q (e:=vIv) (gv:=vIv) (oi_series _ _) fun r5 _=>?_
  refine Run.q (e:=vIv) (gv:=vIv) (oi_MulI _ _) fun r6 _=>?_
  refine Run.q (e:=vIv) (gv:=vIv) (oi_tiny) fun r7 _=>?_
  refine Run.q (e:=vIv) (gv:=vIv) (oi_AddI _ _) fun r8 _=>?_
  exact Run.x 0
end Go.Proofs.YtbipmdgocmdgdaaGreat.Abs
