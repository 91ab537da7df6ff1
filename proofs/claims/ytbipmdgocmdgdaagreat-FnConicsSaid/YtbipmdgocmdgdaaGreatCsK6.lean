/- The program's functions are these; part 6 (written by w.py). -/
import Derived.Test.YtbipmdgocmdgdaaGreatCsE
import Derived.Test.YtbipmdgocmdgdaaGreatCsF3
import Derived.Test.YtbipmdgocmdgdaaGreatCsQpre
import Derived.Test.YtbipmdgocmdgdaaGreatCsK1
import Derived.Test.YtbipmdgocmdgdaaGreatCsK2
import Derived.Test.YtbipmdgocmdgdaaGreatCsK5
set_option linter.unusedVariables false
set_option linter.unusedSimpArgs false
namespace Go.Proofs.YtbipmdgocmdgdaaGreat.Abs
open Go Go.RowKit
theorem ol_a2Long_ln (c0 : Cd) : Fun Tryz.prog 5 [(c0.row,c0.ty)] #[c0.sl 0,.slice none 0 0] (vB (L_a2Long c0 Cd.nil)) [(c0.row,c0.ty)]:=by
 refine Fun.ofH 400 E_ok mixed Tryz.func5 (by kernel_rfl) (by kernel_rfl) ?_
 unfold L_a2Long
 refine Run.y (gv:=vB) (fun _=>?_) (fun _=>?_)
 ·refine Run.z [true,true,true] ?_
  exact Run.x 1
 ·refine Run.z [false,false,false] ?_
  exact Run.x 1
theorem ol_FnConics (c0 : Cd) : Fun Tryz.prog 3 [(c0.row,c0.ty)] #[c0.sl 0] (vB (L_FnConics c0)) [(c0.row,c0.ty)]:=by
 refine Fun.ofH 400 E_ok mixed Tryz.func3 (by kernel_rfl) (by kernel_rfl) ?_
 unfold L_FnConics
 refine Run.vl (e:=vB) (gv:=vB) [0] (ol_a2Long_ln _) (allc (c0.calm) rfl) fun r1 _=>?_
 refine Run.y (gv:=vB) (fun _=>?_) (fun _=>?_)
 ·exact Run.x 1
 ·refine Run.vl (e:=vT_Pj_Pt) (gv:=vB) [0] (os_A2Projection _ _ _) (allc (c0.calm) rfl) fun r2 _=>?_
  refine Run.y (gv:=vB) (fun _=>?_) (fun _=>?_)
  ·exact Run.x 1
  ·refine Run.q (e:=vT_Iv_Iv_I) (gv:=vB) (oi_StandardScales _) fun r3 _=>?_
   refine Run.y (gv:=vB) (fun _=>?_) (fun _=>?_)
   ·refine Run.z [true,true,true,true,true,true,true,true,true,true] ?_
    exact Run.x 1
   ·refine Run.z [false] ?_
    refine Run.q (e:=vIv) (gv:=vB) (os_Integer _) fun r4 _=>?_
    refine Run.z [false] ?_
    refine Run.q (e:=vB) (gv:=vB) (os_OverlapI _ _) fun r5 _=>?_
    refine Run.z [false,false] ?_
    refine Run.y (gv:=vB) (fun _=>?_) (fun _=>?_)
    ·refine Run.z [true,true,true,true,true] ?_
     exact Run.x 1
    ·refine Run.z [false] ?_
     refine Run.q (e:=vIv) (gv:=vB) (os_Integer _) fun r6 _=>?_
     refine Run.z [false] ?_
     refine Run.q (e:=vB) (gv:=vB) (os_OverlapI _ _) fun r7 _=>?_
     refine Run.z [false,false] ?_
     refine Run.y (gv:=vB) (fun _=>?_) (fun _=>?_)
     ·exact Run.x 1
     ·refine Run.q (e:=vT_Pn_I) (gv:=vB) (oi_ConicForward _ _) fun r8 _=>?_
      refine Run.y (gv:=vB) (fun _=>?_) (fun _=>?_)
      ·refine Run.y (gv:=vB) (fun _=>?_) (fun _=>?_)
       ·refine Run.z [true,true] ?_
        exact Run.x 1
       ·refine Run.z [false,false] ?_
        exact Run.x 1
      ·refine Run.q (e:=vT_Iv_Iv_I) (gv:=vB) (oi_ConicInverse _ _) fun r9 _=>?_
       refine Run.y (gv:=vB) (fun _=>?_) (fun _=>?_)
       ·refine Run.z [true,true] ?_
        refine Run.y (gv:=vB) (fun _=>?_) (fun _=>?_)
        ·refine Run.z [true,true,true,true,true] ?_
         exact Run.x 1
        ·refine Run.z [false,false] ?_
         refine Run.y (gv:=vB) (fun _=>?_) (fun _=>?_)
         ·refine Run.z [true,true,true] ?_
          refine Run.q (e:=vB) (gv:=vB) (os_AtPoint _ _ _) fun r10 _=>?_
          refine Run.z [true,false,true,false] ?_
          refine Run.y (gv:=vB) (fun _=>?_) (fun _=>?_)
          ·exact Run.x 1
          ·refine Run.q (e:=vIv) (gv:=vB) (os_LatOf _) fun r11 _=>?_
           refine Run.q (e:=vT_Iv_I) (gv:=vB) (oi_ConicRadius _ _) fun r12 _=>?_
           refine Run.q (e:=vIv) (gv:=vB) (os_RadiansOf _) fun r13 _=>?_
           refine Run.q (e:=vT_Iv_I) (gv:=vB) (oi_ConicRadius _ _) fun r14 _=>?_
           refine Run.y (gv:=vB) (fun _=>?_) (fun _=>?_)
           ·refine Run.z [true,true,true] ?_
            exact Run.x 1
           ·refine Run.z [false,false] ?_
            refine Run.y (gv:=vB) (fun _=>?_) (fun _=>?_)
            ·exact Run.x 1
            ·refine Run.q (e:=vIv) (gv:=vB) (os_SubI _ _) fun r15 _=>?_
             refine Run.q (e:=vIv) (gv:=vB) (os_SqrI _) fun r16 _=>?_
             refine Run.q (e:=vIv) (gv:=vB) (os_SqrI _) fun r17 _=>?_
             refine Run.q (e:=vIv) (gv:=vB) (os_AddI _ _) fun r18 _=>?_
             refine Run.q (e:=vIv) (gv:=vB) (os_SqrI _) fun r19 _=>?_
             refine Run.q (e:=vB) (gv:=vB) (os_OverlapI _ _) fun r20 _=>?_
             exact Run.x 1
         ·refine Run.z [false,false,false,false,false,false,false,false] ?_
          refine Run.q (e:=vIv) (gv:=vB) (os_LatOf _) fun r21 _=>?_
          refine Run.q (e:=vT_Iv_I) (gv:=vB) (oi_ConicRadius _ _) fun r22 _=>?_
          refine Run.q (e:=vIv) (gv:=vB) (os_RadiansOf _) fun r23 _=>?_
          refine Run.q (e:=vT_Iv_I) (gv:=vB) (oi_ConicRadius _ _) fun r24 _=>?_
          refine Run.y (gv:=vB) (fun _=>?_) (fun _=>?_)
          ·refine Run.z [true,true,true] ?_
           exact Run.x 1
          ·refine Run.z [false,false] ?_
           refine Run.y (gv:=vB) (fun _=>?_) (fun _=>?_)
           ·exact Run.x 1
           ·refine Run.q (e:=vIv) (gv:=vB) (os_SubI _ _) fun r25 _=>?_
            refine Run.q (e:=vIv) (gv:=vB) (os_SqrI _) fun r26 _=>?_
            refine Run.q (e:=vIv) (gv:=vB) (os_SqrI _) fun r27 _=>?_
            refine Run.q (e:=vIv) (gv:=vB) (os_AddI _ _) fun r28 _=>?_
            refine Run.q (e:=vIv) (gv:=vB) (os_SqrI _) fun r29 _=>?_
            refine Run.q (e:=vB) (gv:=vB) (os_OverlapI _ _) fun r30 _=>?_
            exact Run.x 1
       ·refine Run.z [false,false,false,false,false] ?_
        refine Run.y (gv:=vB) (fun _=>?_) (fun _=>?_)
        ·refine Run.z [true,true,true] ?_
         refine Run.q (e:=vB) (gv:=vB) (os_AtPoint _ _ _) fun r31 _=>?_
         refine Run.z [true,false,true,false] ?_
         refine Run.y (gv:=vB) (fun _=>?_) (fun _=>?_)
         ·exact Run.x 1
         ·refine Run.q (e:=vIv) (gv:=vB) (os_LatOf _) fun r32 _=>?_
          refine Run.q (e:=vT_Iv_I) (gv:=vB) (oi_ConicRadius _ _) fun r33 _=>?_
          refine Run.q (e:=vIv) (gv:=vB) (os_RadiansOf _) fun r34 _=>?_
          refine Run.q (e:=vT_Iv_I) (gv:=vB) (oi_ConicRadius _ _) fun r35 _=>?_
          refine Run.y (gv:=vB) (fun _=>?_) (fun _=>?_)
          ·refine Run.z [true,true,true] ?_
           exact Run.x 1
          ·refine Run.z [false,false] ?_
           refine Run.y (gv:=vB) (fun _=>?_) (fun _=>?_)
           ·exact Run.x 1
           ·refine Run.q (e:=vIv) (gv:=vB) (os_SubI _ _) fun r36 _=>?_
            refine Run.q (e:=vIv) (gv:=vB) (os_SqrI _) fun r37 _=>?_
            refine Run.q (e:=vIv) (gv:=vB) (os_SqrI _) fun r38 _=>?_
            refine Run.q (e:=vIv) (gv:=vB) (os_AddI _ _) fun r39 _=>?_
            refine Run.q (e:=vIv) (gv:=vB) (os_SqrI _) fun r40 _=>?_
            refine Run.q (e:=vB) (gv:=vB) (os_OverlapI _ _) fun r41 _=>?_
            exact Run.x 1
        ·refine Run.z [false,false,false,false,false,false,false,false] ?_
         refine Run.q (e:=vIv) (gv:=vB) (os_LatOf _) fun r42 _=>?_
         refine Run.q (e:=vT_Iv_I) (gv:=vB) (oi_ConicRadius _ _) fun r43 _=>?_
         refine Run.q (e:=vIv) (gv:=vB) (os_RadiansOf _) fun r44 _=>?_
         refine Run.q (e:=vT_Iv_I) (gv:=vB) (oi_ConicRadius _ _) fun r45 _=>?_
         refine Run.y (gv:=vB) (fun _=>?_) (fun _=>?_)
         ·refine Run.z [true,true,true] ?_
          exact Run.x 1
         ·refine Run.z [false,false] ?_
          refine Run.y (gv:=vB) (fun _=>?_) (fun _=>?_)
          ·exact Run.x 1
          ·refine Run.q (e:=vIv) (gv:=vB) (os_SubI _ _) fun r46 _=>?_
           refine Run.q (e:=vIv) (gv:=vB) (os_SqrI _) fun r47 _=>?_
           refine Run.q (e:=vIv) (gv:=vB) (os_SqrI _) fun r48 _=>?_
           refine Run.q (e:=vIv) (gv:=vB) (os_AddI _ _) fun r49 _=>?_
           refine Run.q (e:=vIv) (gv:=vB) (os_SqrI _) fun r50 _=>?_
           refine Run.q (e:=vB) (gv:=vB) (os_OverlapI _ _) fun r51 _=>?_
           exact Run.x 1
theorem ol_a2Long_nn : Fun Tryz.prog 5 [] #[.slice none 0 0,.slice none 0 0] (vB (L_a2Long Cd.nil Cd.nil)) []:=by
 refine Fun.ofH 400 E_ok mixed Tryz.func5 (by kernel_rfl) (by kernel_rfl) ?_
 unfold L_a2Long
 refine Run.y (gv:=vB) (fun _=>?_) (fun _=>?_)
 ·refine Run.z [true,true,true] ?_
  exact Run.x 0
 ·refine Run.z [false,false,false] ?_
  exact Run.x 0
theorem ol_FnConics_n : Fun Tryz.prog 3 [] #[.slice none 0 0] (vB (L_FnConics Cd.nil)) []:=by
 refine Fun.ofH 400 E_ok mixed Tryz.func3 (by kernel_rfl) (by kernel_rfl) ?_
 unfold L_FnConics
 refine Run.q (e:=vB) (gv:=vB) (ol_a2Long_nn) fun r1 _=>?_
 refine Run.y (gv:=vB) (fun _=>?_) (fun _=>?_)
 ·exact Run.x 0
 ·refine Run.q (e:=vT_Pj_Pt) (gv:=vB) (os_A2Projection_n _ _) fun r2 _=>?_
  refine Run.y (gv:=vB) (fun _=>?_) (fun _=>?_)
  ·exact Run.x 0
  ·refine Run.q (e:=vT_Iv_Iv_I) (gv:=vB) (oi_StandardScales _) fun r3 _=>?_
   refine Run.y (gv:=vB) (fun _=>?_) (fun _=>?_)
   ·refine Run.z [true,true,true,true,true,true,true,true,true,true] ?_
    exact Run.x 0
   ·refine Run.z [false] ?_
    refine Run.q (e:=vIv) (gv:=vB) (os_Integer _) fun r4 _=>?_
    refine Run.z [false] ?_
    refine Run.q (e:=vB) (gv:=vB) (os_OverlapI _ _) fun r5 _=>?_
    refine Run.z [false,false] ?_
    refine Run.y (gv:=vB) (fun _=>?_) (fun _=>?_)
    ·refine Run.z [true,true,true,true,true] ?_
     exact Run.x 0
    ·refine Run.z [false] ?_
     refine Run.q (e:=vIv) (gv:=vB) (os_Integer _) fun r6 _=>?_
     refine Run.z [false] ?_
     refine Run.q (e:=vB) (gv:=vB) (os_OverlapI _ _) fun r7 _=>?_
     refine Run.z [false,false] ?_
     refine Run.y (gv:=vB) (fun _=>?_) (fun _=>?_)
     ·exact Run.x 0
     ·refine Run.q (e:=vT_Pn_I) (gv:=vB) (oi_ConicForward _ _) fun r8 _=>?_
      refine Run.y (gv:=vB) (fun _=>?_) (fun _=>?_)
      ·refine Run.y (gv:=vB) (fun _=>?_) (fun _=>?_)
       ·refine Run.z [true,true] ?_
        exact Run.x 0
       ·refine Run.z [false,false] ?_
        exact Run.x 0
      ·refine Run.q (e:=vT_Iv_Iv_I) (gv:=vB) (oi_ConicInverse _ _) fun r9 _=>?_
       refine Run.y (gv:=vB) (fun _=>?_) (fun _=>?_)
       ·refine Run.z [true,true] ?_
        refine Run.y (gv:=vB) (fun _=>?_) (fun _=>?_)
        ·refine Run.z [true,true,true,true,true] ?_
         exact Run.x 0
        ·refine Run.z [false,false] ?_
         refine Run.y (gv:=vB) (fun _=>?_) (fun _=>?_)
         ·refine Run.z [true,true,true] ?_
          refine Run.q (e:=vB) (gv:=vB) (os_AtPoint _ _ _) fun r10 _=>?_
          refine Run.z [true,false,true,false] ?_
          refine Run.y (gv:=vB) (fun _=>?_) (fun _=>?_)
          ·exact Run.x 0
          ·refine Run.q (e:=vIv) (gv:=vB) (os_LatOf _) fun r11 _=>?_
           refine Run.q (e:=vT_Iv_I) (gv:=vB) (oi_ConicRadius _ _) fun r12 _=>?_
           refine Run.q (e:=vIv) (gv:=vB) (os_RadiansOf _) fun r13 _=>?_
           refine Run.q (e:=vT_Iv_I) (gv:=vB) (oi_ConicRadius _ _) fun r14 _=>?_
           refine Run.y (gv:=vB) (fun _=>?_) (fun _=>?_)
           ·refine Run.z [true,true,true] ?_
            exact Run.x 0
           ·refine Run.z [false,false] ?_
            refine Run.y (gv:=vB) (fun _=>?_) (fun _=>?_)
            ·exact Run.x 0
            ·refine Run.q (e:=vIv) (gv:=vB) (os_SubI _ _) fun r15 _=>?_
             refine Run.q (e:=vIv) (gv:=vB) (os_SqrI _) fun r16 _=>?_
             refine Run.q (e:=vIv) (gv:=vB) (os_SqrI _) fun r17 _=>?_
             refine Run.q (e:=vIv) (gv:=vB) (os_AddI _ _) fun r18 _=>?_
             refine Run.q (e:=vIv) (gv:=vB) (os_SqrI _) fun r19 _=>?_
             refine Run.q (e:=vB) (gv:=vB) (os_OverlapI _ _) fun r20 _=>?_
             exact Run.x 0
         ·refine Run.z [false,false,false,false,false,false,false,false] ?_
          refine Run.q (e:=vIv) (gv:=vB) (os_LatOf _) fun r21 _=>?_
          refine Run.q (e:=vT_Iv_I) (gv:=vB) (oi_ConicRadius _ _) fun r22 _=>?_
          refine Run.q (e:=vIv) (gv:=vB) (os_RadiansOf _) fun r23 _=>?_
          refine Run.q (e:=vT_Iv_I) (gv:=vB) (oi_ConicRadius _ _) fun r24 _=>?_
          refine Run.y (gv:=vB) (fun _=>?_) (fun _=>?_)
          ·refine Run.z [true,true,true] ?_
           exact Run.x 0
          ·refine Run.z [false,false] ?_
           refine Run.y (gv:=vB) (fun _=>?_) (fun _=>?_)
           ·exact Run.x 0
           ·refine Run.q (e:=vIv) (gv:=vB) (os_SubI _ _) fun r25 _=>?_
            refine Run.q (e:=vIv) (gv:=vB) (os_SqrI _) fun r26 _=>?_
            refine Run.q (e:=vIv) (gv:=vB) (os_SqrI _) fun r27 _=>?_
            refine Run.q (e:=vIv) (gv:=vB) (os_AddI _ _) fun r28 _=>?_
            refine Run.q (e:=vIv) (gv:=vB) (os_SqrI _) fun r29 _=>?_
            refine Run.q (e:=vB) (gv:=vB) (os_OverlapI _ _) fun r30 _=>?_
            exact Run.x 0
       ·refine Run.z [false,false,false,false,false] ?_
        refine Run.y (gv:=vB) (fun _=>?_) (fun _=>?_)
        ·refine Run.z [true,true,true] ?_
         refine Run.q (e:=vB) (gv:=vB) (os_AtPoint _ _ _) fun r31 _=>?_
         refine Run.z [true,false,true,false] ?_
         refine Run.y (gv:=vB) (fun _=>?_) (fun _=>?_)
         ·exact Run.x 0
         ·refine Run.q (e:=vIv) (gv:=vB) (os_LatOf _) fun r32 _=>?_
          refine Run.q (e:=vT_Iv_I) (gv:=vB) (oi_ConicRadius _ _) fun r33 _=>?_
          refine Run.q (e:=vIv) (gv:=vB) (os_RadiansOf _) fun r34 _=>?_
          refine Run.q (e:=vT_Iv_I) (gv:=vB) (oi_ConicRadius _ _) fun r35 _=>?_
          refine Run.y (gv:=vB) (fun _=>?_) (fun _=>?_)
          ·refine Run.z [true,true,true] ?_
           exact Run.x 0
          ·refine Run.z [false,false] ?_
           refine Run.y (gv:=vB) (fun _=>?_) (fun _=>?_)
           ·exact Run.x 0
           ·refine Run.q (e:=vIv) (gv:=vB) (os_SubI _ _) fun r36 _=>?_
            refine Run.q (e:=vIv) (gv:=vB) (os_SqrI _) fun r37 _=>?_
            refine Run.q (e:=vIv) (gv:=vB) (os_SqrI _) fun r38 _=>?_
            refine Run.q (e:=vIv) (gv:=vB) (os_AddI _ _) fun r39 _=>?_
            refine Run.q (e:=vIv) (gv:=vB) (os_SqrI _) fun r40 _=>?_
            refine Run.q (e:=vB) (gv:=vB) (os_OverlapI _ _) fun r41 _=>?_
            exact Run.x 0
        ·refine Run.z [false,false,false,false,false,false,false,false] ?_
         refine Run.q (e:=vIv) (gv:=vB) (os_LatOf _) fun r42 _=>?_
         refine Run.q (e:=vT_Iv_I) (gv:=vB) (oi_ConicRadius _ _) fun r43 _=>?_
         refine Run.q (e:=vIv) (gv:=vB) (os_RadiansOf _) fun r44 _=>?_
         refine Run.q (e:=vT_Iv_I) (gv:=vB) (oi_ConicRadius _ _) fun r45 _=>?_
         refine Run.y (gv:=vB) (fun _=>?_) (fun _=>?_)
         ·refine Run.z [true,true,true] ?_
          exact Run.x 0
         ·refine Run.z [false,false] ?_
          refine Run.y (gv:=vB) (fun _=>?_) (fun _=>?_)
          ·exact Run.x 0
          ·refine Run.q (e:=vIv) (gv:=vB) (os_SubI _ _) fun r46 _=>?_
           refine Run.q (e:=vIv) (gv:=vB) (os_SqrI _) fun r47 _=>?_
           refine Run.q (e:=vIv) (gv:=vB) (os_SqrI _) fun r48 _=>?_
           refine Run.q (e:=vIv) (gv:=vB) (os_AddI _ _) fun r49 _=>?_
           refine Run.q (e:=vIv) (gv:=vB) (os_SqrI _) fun r50 _=>?_
           refine Run.q (e:=vB) (gv:=vB) (os_OverlapI _ _) fun r51 _=>?_
           exact Run.x 0
end Go.Proofs.YtbipmdgocmdgdaaGreat.Abs
