/- The program's functions are these; part 2 (written by w.py). -/
import Derived.Test.YtfhnlkinjbakgaaGreatMsE
import Derived.Test.YtfhnlkinjbakgaaGreatMsF4
import Derived.Test.YtfhnlkinjbakgaaGreatMsQpre
import Derived.Test.YtfhnlkinjbakgaaGreatMsK1
set_option linter.unusedVariables false
set_option linter.unusedSimpArgs false
namespace Go.Proofs.YtfhnlkinjbakgaaGreat.Abs
open Go Go.RowKit
theorem os_l03DivDown (a0 : I64) (a1 : I64) : Fun Tryz.prog 268 [] #[vI a0,vI a1] (vT_I_B (S_l03DivDown a0 a1)) []:=by
 refine Fun.ofH 400 E_ok mixed Tryz.func268 (by kernel_rfl) (by kernel_rfl) ?_
 unfold S_l03DivDown
 refine Run.q (e:=vB) (gv:=vT_I_B) (os_l03Ok _) fun r1 _=>?_
 refine Run.y (gv:=vT_I_B) (fun _=>?_) (fun _=>?_)
 ·refine Run.z [true,true,true,true,true,true,true] ?_
  exact Run.x 0
 ·refine Run.z [false] ?_
  refine Run.q (e:=vB) (gv:=vT_I_B) (os_l03Ok _) fun r2 _=>?_
  refine Run.z [false,false] ?_
  refine Run.y (gv:=vT_I_B) (fun _=>?_) (fun _=>?_)
  ·refine Run.z [true,true,true] ?_
   exact Run.x 0
  ·refine Run.z [false,false] ?_
   refine Run.y (gv:=vT_I_B) (fun _=>?_) (fun _=>?_)
   ·exact Run.x 0
   ·refine Run.y (gv:=vT_I_B) (fun _=>?_) (fun _=>?_)
    ·refine Run.q (e:=vT_I_B) (gv:=vT_I_B) (os_MulDivFloor _ _ _) fun r3 _=>?_
     refine Run.q (e:=vT_I_B) (gv:=vT_I_B) (os_l03End _ _) fun r4 _=>?_
     exact Run.x 0
    ·refine Run.q (e:=vT_I_B) (gv:=vT_I_B) (os_MulDivFloor _ _ _) fun r5 _=>?_
     refine Run.q (e:=vT_I_B) (gv:=vT_I_B) (os_l03End _ _) fun r6 _=>?_
     exact Run.x 0
theorem os_l03DivUp (a0 : I64) (a1 : I64) : Fun Tryz.prog 269 [] #[vI a0,vI a1] (vT_I_B (S_l03DivUp a0 a1)) []:=by
 refine Fun.ofH 400 E_ok mixed Tryz.func269 (by kernel_rfl) (by kernel_rfl) ?_
 unfold S_l03DivUp
 refine Run.q (e:=vB) (gv:=vT_I_B) (os_l03Ok _) fun r1 _=>?_
 refine Run.y (gv:=vT_I_B) (fun _=>?_) (fun _=>?_)
 ·exact Run.x 0
 ·refine Run.q (e:=vT_I_B) (gv:=vT_I_B) (os_l03DivDown _ _) fun r2 _=>?_
  exact Run.x 0
theorem os_DivI (a0 : Iv) (a1 : Iv) : Fun Tryz.prog 226 [] #[vIv a0,vIv a1] (vIv (S_DivI a0 a1)) []:=by
 refine Fun.ofH 400 E_ok mixed Tryz.func226 (by kernel_rfl) (by kernel_rfl) ?_
 unfold S_DivI
 refine Run.q (e:=vB) (gv:=vIv) (os_l04Ok _) fun r1 _=>?_
 refine Run.y (gv:=vIv) (fun _=>?_) (fun _=>?_)
 ·refine Run.z [true,true,true,true,true,true,true] ?_
  refine Run.q (e:=vIv) (gv:=vIv) (os_l04Whole) fun r2 _=>?_
  exact Run.x 0
 ·refine Run.z [false] ?_
  refine Run.q (e:=vB) (gv:=vIv) (os_l04Ok _) fun r3 _=>?_
  refine Run.z [false,false] ?_
  refine Run.y (gv:=vIv) (fun _=>?_) (fun _=>?_)
  ·refine Run.z [true,true,true] ?_
   refine Run.q (e:=vIv) (gv:=vIv) (os_l04Whole) fun r4 _=>?_
   exact Run.x 0
  ·refine Run.z [false] ?_
   refine Run.q (e:=vB) (gv:=vIv) (os_l04Has _ _) fun r5 _=>?_
   refine Run.z [false] ?_
   refine Run.y (gv:=vIv) (fun _=>?_) (fun _=>?_)
   ·refine Run.q (e:=vIv) (gv:=vIv) (os_l04Whole) fun r6 _=>?_
    exact Run.x 0
   ·refine Run.u 400 E_ok mixed Tryz.func226 ?_
    refine Run.z [true] ?_
    refine Run.u 400 E_ok mixed Tryz.func226 ?_
    refine Run.z [true,true,true] ?_
    refine Run.q (e:=vT_I_B) (gv:=vIv) (os_l03DivDown _ _) fun r7 _=>?_
    refine Run.z [true,true] ?_
    refine Run.q (e:=vT_I_B) (gv:=vIv) (os_l03DivUp _ _) fun r8 _=>?_
    refine Run.y (gv:=vIv) (fun _=>?_) (fun _=>?_)
    ·refine Run.z [true,true,true] ?_
     refine Run.q (e:=vIv) (gv:=vIv) (os_l04Whole) fun r9 _=>?_
     exact Run.x 0
    ·refine Run.z [false,false] ?_
     refine Run.y (gv:=vIv) (fun _=>?_) (fun _=>?_)
     ·refine Run.q (e:=vIv) (gv:=vIv) (os_l04Whole) fun r10 _=>?_
      exact Run.x 0
     ·refine Run.q (e:=vI) (gv:=vIv) (os_l00Min _ _) fun r11 _=>?_
      refine Run.q (e:=vI) (gv:=vIv) (os_l00Max _ _) fun r12 _=>?_
      refine Run.u 400 E_ok mixed Tryz.func226 ?_
      refine Run.z [true,true,true] ?_
      refine Run.q (e:=vT_I_B) (gv:=vIv) (os_l03DivDown _ _) fun r13 _=>?_
      refine Run.z [true,true] ?_
      refine Run.q (e:=vT_I_B) (gv:=vIv) (os_l03DivUp _ _) fun r14 _=>?_
      refine Run.y (gv:=vIv) (fun _=>?_) (fun _=>?_)
      ·refine Run.z [true,true,true] ?_
       refine Run.q (e:=vIv) (gv:=vIv) (os_l04Whole) fun r15 _=>?_
       exact Run.x 0
      ·refine Run.z [false,false] ?_
       refine Run.y (gv:=vIv) (fun _=>?_) (fun _=>?_)
       ·refine Run.q (e:=vIv) (gv:=vIv) (os_l04Whole) fun r16 _=>?_
        exact Run.x 0
       ·refine Run.q (e:=vI) (gv:=vIv) (os_l00Min _ _) fun r17 _=>?_
        refine Run.q (e:=vI) (gv:=vIv) (os_l00Max _ _) fun r18 _=>?_
        refine Run.u 400 E_ok mixed Tryz.func226 ?_
        refine Run.z [false] ?_
        refine Run.u 400 E_ok mixed Tryz.func226 ?_
        refine Run.z [true] ?_
        refine Run.u 400 E_ok mixed Tryz.func226 ?_
        refine Run.z [true,true,true] ?_
        refine Run.q (e:=vT_I_B) (gv:=vIv) (os_l03DivDown _ _) fun r19 _=>?_
        refine Run.z [true,true] ?_
        refine Run.q (e:=vT_I_B) (gv:=vIv) (os_l03DivUp _ _) fun r20 _=>?_
        refine Run.y (gv:=vIv) (fun _=>?_) (fun _=>?_)
        ·refine Run.z [true,true,true] ?_
         refine Run.q (e:=vIv) (gv:=vIv) (os_l04Whole) fun r21 _=>?_
         exact Run.x 0
        ·refine Run.z [false,false] ?_
         refine Run.y (gv:=vIv) (fun _=>?_) (fun _=>?_)
         ·refine Run.q (e:=vIv) (gv:=vIv) (os_l04Whole) fun r22 _=>?_
          exact Run.x 0
         ·refine Run.q (e:=vI) (gv:=vIv) (os_l00Min _ _) fun r23 _=>?_
          refine Run.q (e:=vI) (gv:=vIv) (os_l00Max _ _) fun r24 _=>?_
          refine Run.u 400 E_ok mixed Tryz.func226 ?_
          refine Run.z [true,true,true] ?_
          refine Run.q (e:=vT_I_B) (gv:=vIv) (os_l03DivDown _ _) fun r25 _=>?_
          refine Run.z [true,true] ?_
          refine Run.q (e:=vT_I_B) (gv:=vIv) (os_l03DivUp _ _) fun r26 _=>?_
          refine Run.y (gv:=vIv) (fun _=>?_) (fun _=>?_)
          ·refine Run.z [true,true,true] ?_
           refine Run.q (e:=vIv) (gv:=vIv) (os_l04Whole) fun r27 _=>?_
           exact Run.x 0
          ·refine Run.z [false,false] ?_
           refine Run.y (gv:=vIv) (fun _=>?_) (fun _=>?_)
           ·refine Run.q (e:=vIv) (gv:=vIv) (os_l04Whole) fun r28 _=>?_
            exact Run.x 0
           ·refine Run.q (e:=vI) (gv:=vIv) (os_l00Min _ _) fun r29 _=>?_
            refine Run.q (e:=vI) (gv:=vIv) (os_l00Max _ _) fun r30 _=>?_
            refine Run.u 400 E_ok mixed Tryz.func226 ?_
            refine Run.z [false] ?_
            refine Run.u 400 E_ok mixed Tryz.func226 ?_
            refine Run.z [false] ?_
            refine Run.q (e:=vIv) (gv:=vIv) (os_l04Make _ _) fun r31 _=>?_
            exact Run.x 0
theorem os_l06Series (a0 : Iv) (a1 : I64) : Fun Tryz.prog 314 [] #[vIv a0,vI a1] (vIv (S_l06Series a0 a1)) []:=by
 refine Fun.ofH 400 E_ok mixed Tryz.func314 (by kernel_rfl) (by kernel_rfl) ?_
 unfold S_l06Series
 refine Run.q (e:=vIv) (gv:=vIv) (os_Integer _) fun r1 _=>?_
 refine Run.u 400 E_ok mixed Tryz.func314 ?_
 refine Run.z [true] ?_
 refine Run.q (e:=vIv) (gv:=vIv) (os_Integer _) fun r2 _=>?_
 refine Run.q (e:=vIv) (gv:=vIv) (os_Integer _) fun r3 _=>?_
 refine Run.q (e:=vIv) (gv:=vIv) (os_DivI _ _) fun r4 _=>?_
 refine Run.q (e:=vIv) (gv:=vIv) (os_MulI _ _) fun r5 _=>?_
 refine Run.q (e:=vIv) (gv:=vIv) (os_SubI _ _) fun r6 _=>?_
 refine Run.u 400 E_ok mixed Tryz.func314 ?_
 refine Run.z [true] ?_
 refine Run.q (e:=vIv) (gv:=vIv) (os_Integer _) fun r7 _=>?_
 refine Run.q (e:=vIv) (gv:=vIv) (os_Integer _) fun r8 _=>?_
 refine Run.q (e:=vIv) (gv:=vIv) (os_DivI _ _) fun r9 _=>?_
 refine Run.q (e:=vIv) (gv:=vIv) (os_MulI _ _) fun r10 _=>?_
 refine Run.q (e:=vIv) (gv:=vIv) (os_SubI _ _) fun r11 _=>?_
 refine Run.u 400 E_ok mixed Tryz.func314 ?_
 refine Run.z [true] ?_
 refine Run.q (e:=vIv) (gv:=vIv) (os_Integer _) fun r12 _=>?_
 refine Run.q (e:=vIv) (gv:=vIv) (os_Integer _) fun r13 _=>?_
 refine Run.q (e:=vIv) (gv:=vIv) (os_DivI _ _) fun r14 _=>?_
 refine Run.q (e:=vIv) (gv:=vIv) (os_MulI _ _) fun r15 _=>?_
 refine Run.q (e:=vIv) (gv:=vIv) (os_SubI _ _) fun r16 _=>?_
 refine Run.u 400 E_ok mixed Tryz.func314 ?_
 refine Run.z [true] ?_
 refine Run.q (e:=vIv) (gv:=vIv) (os_Integer _) fun r17 _=>?_
 refine Run.q (e:=vIv) (gv:=vIv) (os_Integer _) fun r18 _=>?_
 refine Run.q (e:=vIv) (gv:=vIv) (os_DivI _ _) fun r19 _=>?_
 refine Run.q (e:=vIv) (gv:=vIv) (os_MulI _ _) fun r20 _=>?_
 refine Run.q (e:=vIv) (gv:=vIv) (os_SubI _ _) fun r21 _=>?_
 refine Run.u 400 E_ok mixed Tryz.func314 ?_
 refine Run.z [true] ?_
 refine Run.q (e:=vIv) (gv:=vIv) (os_Integer _) fun r22 _=>?_
 refine Run.q (e:=vIv) (gv:=vIv) (os_Integer _) fun r23 _=>?_
 refine Run.q (e:=vIv) (gv:=vIv) (os_DivI _ _) fun r24 _=>?_
 refine Run.q (e:=vIv) (gv:=vIv) (os_MulI _ _) fun r25 _=>?_
 refine Run.q (e:=vIv) (gv:=vIv) (os_SubI _ _) fun r26 _=>?_
 refine Run.u 400 E_ok mixed Tryz.func314 ?_
 refine Run.z [true] ?_
 refine Run.q (e:=vIv) (gv:=vIv) (os_Integer _) fun r27 _=>?_
 refine Run.q (e:=vIv) (gv:=vIv) (os_Integer _) fun r28 _=>?_
 refine Run.q (e:=vIv) (gv:=vIv) (os_DivI _ _) fun r29 _=>?_
 refine Run.q (e:=vIv) (gv:=vIv) (os_MulI _ _) fun r30 _=>?_
 refine Run.q (e:=vIv) (gv:=vIv) (os_SubI _ _) fun r31 _=>?_
 refine Run.u 400 E_ok mixed Tryz.func314 ?_
 refine Run.z [true] ?_
 refine Run.q (e:=vIv) (gv:=vIv) (os_Integer _) fun r32 _=>?_
 refine Run.q (e:=vIv) (gv:=vIv) (os_Integer _) fun r33 _=>?_
 refine Run.q (e:=vIv) (gv:=vIv) (os_DivI _ _) fun r34 _=>?_
 refine Run.q (e:=vIv) (gv:=vIv) (os_MulI _ _) fun r35 _=>?_
 refine Run.q (e:=vIv) (gv:=vIv) (os_SubI _ _) fun r36 _=>?_
 refine Run.u 400 E_ok mixed Tryz.func314 ?_
 refine Run.z [true] ?_
 refine Run.q (e:=vIv) (gv:=vIv) (os_Integer _) fun r37 _=>?_
 refine Run.q (e:=vIv) (gv:=vIv) (os_Integer _) fun r38 _=>?_
 refine Run.q (e:=vIv) (gv:=vIv) (os_DivI _ _) fun r39 _=>?_
 refine Run.q (e:=vIv) (gv:=vIv) (os_MulI _ _) fun r40 _=>?_
 refine Run.q (e:=vIv) (gv:=vIv) (os_SubI _ _) fun r41 _=>?_
 refine Run.u 400 E_ok mixed Tryz.func314 ?_
 refine Run.z [false] ?_
 exact Run.x 0
theorem os_l06Tiny : Fun Tryz.prog 315 [] #[] (vIv (S_l06Tiny)) []:=by
 refine Fun.ofH 400 E_ok mixed Tryz.func315 (by kernel_rfl) (by kernel_rfl) ?_
 unfold S_l06Tiny
 exact Run.x 0
theorem os_SinSeries (a0 : Iv) : Fun Tryz.prog 295 [] #[vIv a0] (vIv (S_SinSeries a0)) []:=by
 refine Fun.ofH 400 E_ok mixed Tryz.func295 (by kernel_rfl) (by kernel_rfl) ?_
 unfold S_SinSeries
 refine Run.q (e:=vIv) (gv:=vIv) (os_l06Ring) fun r1 _=>?_
 refine Run.q (e:=vB) (gv:=vIv) (os_InsideI _ _) fun r2 _=>?_
 refine Run.y (gv:=vIv) (fun _=>?_) (fun _=>?_)
 ·refine Run.q (e:=vIv) (gv:=vIv) (os_Whole) fun r3 _=>?_
  exact Run.x 0
 ·refine Run.q (e:=vIv) (gv:=vIv) (os_SqrI _) fun r4 _=>?_
  refine Run.q (e:=vIv) (gv:=vIv) (os_l06Series _ _) fun r5 _=>?_
  refine Run.q (e:=vIv) (gv:=vIv) (os_MulI _ _) fun r6 _=>?_
  refine Run.q (e:=vIv) (gv:=vIv) (os_l06Tiny) fun r7 _=>?_
  refine Run.q (e:=vIv) (gv:=vIv) (os_AddI _ _) fun r8 _=>?_
  exact Run.x 0
theorem os_MeetI (a0 : Iv) (a1 : Iv) : Fun Tryz.prog 37 [] #[vIv a0,vIv a1] (vT_Iv_B (S_MeetI a0 a1)) []:=by
 refine Fun.ofH 400 E_ok mixed Tryz.func37 (by kernel_rfl) (by kernel_rfl) ?_
 unfold S_MeetI
 refine Run.q (e:=vB) (gv:=vT_Iv_B) (os_l04Ok _) fun r1 _=>?_
 refine Run.y (gv:=vT_Iv_B) (fun _=>?_) (fun _=>?_)
 ·refine Run.z [true] ?_
  refine Run.q (e:=vB) (gv:=vT_Iv_B) (os_l04Ok _) fun r2 _=>?_
  refine Run.z [true,true] ?_
  refine Run.y (gv:=vT_Iv_B) (fun _=>?_) (fun _=>?_)
  ·refine Run.q (e:=vIv) (gv:=vT_Iv_B) (os_l04Whole) fun r3 _=>?_
   exact Run.x 0
  ·refine Run.q (e:=vB) (gv:=vT_Iv_B) (os_l04Ok _) fun r4 _=>?_
   refine Run.y (gv:=vT_Iv_B) (fun _=>?_) (fun _=>?_)
   ·exact Run.x 0
   ·refine Run.q (e:=vB) (gv:=vT_Iv_B) (os_l04Ok _) fun r5 _=>?_
    refine Run.y (gv:=vT_Iv_B) (fun _=>?_) (fun _=>?_)
    ·exact Run.x 0
    ·refine Run.q (e:=vI) (gv:=vT_Iv_B) (os_l00Max _ _) fun r6 _=>?_
     refine Run.q (e:=vI) (gv:=vT_Iv_B) (os_l00Min _ _) fun r7 _=>?_
     refine Run.y (gv:=vT_Iv_B) (fun _=>?_) (fun _=>?_)
     ·exact Run.x 0
     ·exact Run.x 0
 ·refine Run.z [false,false,false,false] ?_
  refine Run.q (e:=vB) (gv:=vT_Iv_B) (os_l04Ok _) fun r8 _=>?_
  refine Run.y (gv:=vT_Iv_B) (fun _=>?_) (fun _=>?_)
  ·exact Run.x 0
  ·refine Run.q (e:=vB) (gv:=vT_Iv_B) (os_l04Ok _) fun r9 _=>?_
   refine Run.y (gv:=vT_Iv_B) (fun _=>?_) (fun _=>?_)
   ·exact Run.x 0
   ·refine Run.q (e:=vI) (gv:=vT_Iv_B) (os_l00Max _ _) fun r10 _=>?_
    refine Run.q (e:=vI) (gv:=vT_Iv_B) (os_l00Min _ _) fun r11 _=>?_
    refine Run.y (gv:=vT_Iv_B) (fun _=>?_) (fun _=>?_)
    ·exact Run.x 0
    ·exact Run.x 0
theorem os_l06Meet (a0 : Iv) : Fun Tryz.prog 294 [] #[vIv a0] (vIv (S_l06Meet a0)) []:=by
 refine Fun.ofH 400 E_ok mixed Tryz.func294 (by kernel_rfl) (by kernel_rfl) ?_
 unfold S_l06Meet
 refine Run.q (e:=vIv) (gv:=vIv) (os_l06Ring) fun r1 _=>?_
 refine Run.q (e:=vT_Iv_B) (gv:=vIv) (os_MeetI _ _) fun r2 _=>?_
 refine Run.y (gv:=vIv) (fun _=>?_) (fun _=>?_)
 ·refine Run.q (e:=vIv) (gv:=vIv) (os_l06Ring) fun r3 _=>?_
  exact Run.x 0
 ·exact Run.x 0
theorem os_CosSeries (a0 : Iv) : Fun Tryz.prog 296 [] #[vIv a0] (vIv (S_CosSeries a0)) []:=by
 refine Fun.ofH 400 E_ok mixed Tryz.func296 (by kernel_rfl) (by kernel_rfl) ?_
 unfold S_CosSeries
 refine Run.q (e:=vIv) (gv:=vIv) (os_l06Ring) fun r1 _=>?_
 refine Run.q (e:=vB) (gv:=vIv) (os_InsideI _ _) fun r2 _=>?_
 refine Run.y (gv:=vIv) (fun _=>?_) (fun _=>?_)
 ·refine Run.q (e:=vIv) (gv:=vIv) (os_Whole) fun r3 _=>?_
  exact Run.x 0
 ·refine Run.q (e:=vIv) (gv:=vIv) (os_SqrI _) fun r4 _=>?_
  refine Run.q (e:=vIv) (gv:=vIv) (os_l06Series _ _) fun r5 _=>?_
  refine Run.q (e:=vIv) (gv:=vIv) (os_l06Tiny) fun r6 _=>?_
  refine Run.q (e:=vIv) (gv:=vIv) (os_AddI _ _) fun r7 _=>?_
  exact Run.x 0
theorem os_l06At (a0 : I64) (a1 : I64) : Fun Tryz.prog 262 [] #[vI a0,vI a1] (vIv (S_l06At a0 a1)) []:=by
 refine Fun.ofH 400 E_ok mixed Tryz.func262 (by kernel_rfl) (by kernel_rfl) ?_
 unfold S_l06At
 refine Run.q (e:=vB) (gv:=vIv) (os_l06Angle _) fun r1 _=>?_
 refine Run.y (gv:=vIv) (fun _=>?_) (fun _=>?_)
 ·refine Run.q (e:=vIv) (gv:=vIv) (os_l06Ring) fun r2 _=>?_
  exact Run.x 0
 ·refine Run.q (e:=vI) (gv:=vIv) (os_QuarterOf _) fun r3 _=>?_
  refine Run.q (e:=vIv) (gv:=vIv) (os_l05At _) fun r4 _=>?_
  refine Run.q (e:=vIv) (gv:=vIv) (os_TurnI _) fun r5 _=>?_
  refine Run.q (e:=vIv) (gv:=vIv) (os_SubI _ _) fun r6 _=>?_
  refine Run.y (gv:=vIv) (fun _=>?_) (fun _=>?_)
  ·refine Run.q (e:=vIv) (gv:=vIv) (os_SinSeries _) fun r7 _=>?_
   refine Run.q (e:=vIv) (gv:=vIv) (os_l06Meet _) fun r8 _=>?_
   exact Run.x 0
  ·refine Run.y (gv:=vIv) (fun _=>?_) (fun _=>?_)
   ·refine Run.q (e:=vIv) (gv:=vIv) (os_CosSeries _) fun r9 _=>?_
    refine Run.q (e:=vIv) (gv:=vIv) (os_l06Meet _) fun r10 _=>?_
    exact Run.x 0
   ·refine Run.y (gv:=vIv) (fun _=>?_) (fun _=>?_)
    ·refine Run.q (e:=vIv) (gv:=vIv) (os_SinSeries _) fun r11 _=>?_
     refine Run.q (e:=vIv) (gv:=vIv) (os_NegI _) fun r12 _=>?_
     refine Run.q (e:=vIv) (gv:=vIv) (os_l06Meet _) fun r13 _=>?_
     exact Run.x 0
    ·refine Run.q (e:=vIv) (gv:=vIv) (os_CosSeries _) fun r14 _=>?_
     refine Run.q (e:=vIv) (gv:=vIv) (os_NegI _) fun r15 _=>?_
     refine Run.q (e:=vIv) (gv:=vIv) (os_l06Meet _) fun r16 _=>?_
     exact Run.x 0
theorem os_HullI (a0 : Iv) (a1 : Iv) : Fun Tryz.prog 222 [] #[vIv a0,vIv a1] (vIv (S_HullI a0 a1)) []:=by
 refine Fun.ofH 400 E_ok mixed Tryz.func222 (by kernel_rfl) (by kernel_rfl) ?_
 unfold S_HullI
 refine Run.q (e:=vB) (gv:=vIv) (os_l04Ok _) fun r1 _=>?_
 refine Run.y (gv:=vIv) (fun _=>?_) (fun _=>?_)
 ·refine Run.z [true,true,true,true] ?_
  refine Run.q (e:=vIv) (gv:=vIv) (os_l04Whole) fun r2 _=>?_
  exact Run.x 0
 ·refine Run.z [false] ?_
  refine Run.q (e:=vB) (gv:=vIv) (os_l04Ok _) fun r3 _=>?_
  refine Run.z [false,false] ?_
  refine Run.y (gv:=vIv) (fun _=>?_) (fun _=>?_)
  ·refine Run.q (e:=vIv) (gv:=vIv) (os_l04Whole) fun r4 _=>?_
   exact Run.x 0
  ·refine Run.q (e:=vI) (gv:=vIv) (os_l00Min _ _) fun r5 _=>?_
   refine Run.q (e:=vI) (gv:=vIv) (os_l00Max _ _) fun r6 _=>?_
   refine Run.q (e:=vIv) (gv:=vIv) (os_l04Make _ _) fun r7 _=>?_
   exact Run.x 0
theorem os_OverlapI (a0 : Iv) (a1 : Iv) : Fun Tryz.prog 9 [] #[vIv a0,vIv a1] (vB (S_OverlapI a0 a1)) []:=by
 refine Fun.ofH 400 E_ok mixed Tryz.func9 (by kernel_rfl) (by kernel_rfl) ?_
 unfold S_OverlapI
 refine Run.q (e:=vT_Iv_B) (gv:=vB) (os_MeetI _ _) fun r1 _=>?_
 exact Run.x 0
theorem os_l06Over_L0 : ∀ (fu : Nat) (a1 : I64) (a0 : Iv) (x_k : I64) (y_2 : Iv) (hm : (2000 - x_k.val).toNat < fu) (t : Array Value) (ht : maskA t [0,3,7,8,9,10,11,12,13,14,15,16,17,18,19,20,21,22,23,24,25,26,27,28,29,30,31,32,33,34,35,36,37,38,39,40,41,42,43,44,45,46,47,48,49,50,51] = #[undef,.int .i64 a1.val,.pointer (some ⟨0,0,none⟩),undef,.pointer (some ⟨1,0,none⟩),.pointer (some ⟨2,0,none⟩),.int .i64 x_k.val,undef,undef,undef,undef,undef,undef,undef,undef,undef,undef,undef,undef,undef,undef,undef,undef,undef,undef,undef,undef,undef,undef,undef,undef,undef,undef,undef,undef,undef,undef,undef,undef,undef,undef,undef,undef,undef,undef,undef,undef,undef,undef,undef,undef,undef]),Cfg Tryz.prog 217 (loopAt Tryz.f217 0) t [(#[.int .i64 a0.lo.val,.int .i64 a0.hi.val],31),(#[.int .i64 0,.int .i64 0],31),(#[.int .i64 y_2.lo.val,.int .i64 y_2.hi.val],31)] (RvH [] (vIv (S_l06Over_L0 fu a1 a0 x_k y_2))):=by
 intro fu
 induction fu with
 | zero=>intro a1 a0 x_k y_2 hm; exact absurd hm (Nat.not_lt_zero _)
 | succ fu ih=>
  intro a1 a0 x_k y_2 hm t ht
  refine Cfg.round E_ok mixed Tryz.func217 ht fun g=>?_
  unfold S_l06Over_L0
  refine Run.q (e:=vI) (gv:=vIv) (os_QuarterOf _) fun r8 hr8=>?_
  refine Run.y (gv:=vIv) (fun h9=>?_) (fun h9=>?_)
  ·refine Run.q (e:=vIv) (gv:=vIv) (os_TurnI _) fun r10 hr10=>?_
   refine Run.q (e:=vB) (gv:=vIv) (os_OverlapI _ _) fun r11 hr11=>?_
   refine Run.y (gv:=vIv) (fun h12=>?_) (fun h12=>?_)
   ·exact Run.l (by kernel_rfl) (by kernel_rfl) (by kernel_rfl) (by kernel_rfl) (ih a1 a0 (w64 (x_k.val + 1)) y_2 (by have q1:=x_k.lo; first | exact Nat.lt_succ_self _ | (have q2:=spec_quarter_le a0.hi; have q3:=spec_quarter_ge a0.hi; simp only [w64_val,decide_eq_true_eq,decide_eq_false_iff_not, *] at *; omega)))
   ·refine Run.y (gv:=vIv) (fun h13=>?_) (fun h13=>?_)
    ·refine Run.q (e:=vIv) (gv:=vIv) (os_Integer _) fun r14 hr14=>?_
     refine Run.q (e:=vIv) (gv:=vIv) (os_HullI _ _) fun r15 hr15=>?_
     exact Run.l (by kernel_rfl) (by kernel_rfl) (by kernel_rfl) (by kernel_rfl) (ih a1 a0 (w64 (x_k.val + 1)) r15 (by have q1:=x_k.lo; first | exact Nat.lt_succ_self _ | (have q2:=spec_quarter_le a0.hi; have q3:=spec_quarter_ge a0.hi; simp only [w64_val,decide_eq_true_eq,decide_eq_false_iff_not, *] at *; omega)))
    ·refine Run.y (gv:=vIv) (fun h16=>?_) (fun h16=>?_)
     ·refine Run.q (e:=vIv) (gv:=vIv) (os_Integer _) fun r17 hr17=>?_
      refine Run.q (e:=vIv) (gv:=vIv) (os_HullI _ _) fun r18 hr18=>?_
      exact Run.l (by kernel_rfl) (by kernel_rfl) (by kernel_rfl) (by kernel_rfl) (ih a1 a0 (w64 (x_k.val + 1)) r18 (by have q1:=x_k.lo; first | exact Nat.lt_succ_self _ | (have q2:=spec_quarter_le a0.hi; have q3:=spec_quarter_ge a0.hi; simp only [w64_val,decide_eq_true_eq,decide_eq_false_iff_not, *] at *; omega)))
     ·exact Run.l (by kernel_rfl) (by kernel_rfl) (by kernel_rfl) (by kernel_rfl) (ih a1 a0 (w64 (x_k.val + 1)) y_2 (by have q1:=x_k.lo; first | exact Nat.lt_succ_self _ | (have q2:=spec_quarter_le a0.hi; have q3:=spec_quarter_ge a0.hi; simp only [w64_val,decide_eq_true_eq,decide_eq_false_iff_not, *] at *; omega)))
  ·exact Run.x 0
theorem os_l06Over (a0 : Iv) (a1 : I64) : Fun Tryz.prog 217 [] #[vIv a0,vI a1] (vIv (S_l06Over a0 a1)) []:=by
 refine Fun.ofH 400 E_ok mixed Tryz.func217 (by kernel_rfl) (by kernel_rfl) ?_
 unfold S_l06Over
 refine Run.q (e:=vB) (gv:=vIv) (os_l06Fits _) fun r1 hr1=>?_
 refine Run.y (gv:=vIv) (fun h2=>?_) (fun h2=>?_)
 ·refine Run.q (e:=vIv) (gv:=vIv) (os_l06Ring) fun r3 hr3=>?_
  exact Run.x 0
 ·refine Run.q (e:=vIv) (gv:=vIv) (os_l06At _ _) fun r4 hr4=>?_
  refine Run.q (e:=vIv) (gv:=vIv) (os_l06At _ _) fun r5 hr5=>?_
  refine Run.q (e:=vIv) (gv:=vIv) (os_HullI _ _) fun r6 hr6=>?_
  refine Run.q (e:=vI) (gv:=vIv) (os_QuarterOf _) fun r7 hr7=>?_
  exact Run.l (by kernel_rfl) (by kernel_rfl) (by kernel_rfl) (by kernel_rfl) (os_l06Over_L0 ((2000 - (w64 (r7.val - 1)).val).toNat + 1) a1 a0 (w64 (r7.val - 1)) r6 (by exact Nat.lt_succ_self _))
theorem os_SinI (a0 : Iv) : Fun Tryz.prog 149 [] #[vIv a0] (vIv (S_SinI a0)) []:=by
 refine Fun.ofH 400 E_ok mixed Tryz.func149 (by kernel_rfl) (by kernel_rfl) ?_
 unfold S_SinI
 refine Run.q (e:=vIv) (gv:=vIv) (os_l06Over _ _) fun r1 _=>?_
 exact Run.x 0
theorem os_l12W (a0 : El) (a1 : Iv) : Fun Tryz.prog 227 [] #[vEl a0,vIv a1] (vIv (S_l12W a0 a1)) []:=by
 refine Fun.ofH 400 E_ok mixed Tryz.func227 (by kernel_rfl) (by kernel_rfl) ?_
 unfold S_l12W
 refine Run.q (e:=vIv) (gv:=vIv) (os_Integer _) fun r1 _=>?_
 refine Run.q (e:=vIv) (gv:=vIv) (os_EccI _) fun r2 _=>?_
 refine Run.q (e:=vIv) (gv:=vIv) (os_SinI _) fun r3 _=>?_
 refine Run.q (e:=vIv) (gv:=vIv) (os_SqrI _) fun r4 _=>?_
 refine Run.q (e:=vIv) (gv:=vIv) (os_MulI _ _) fun r5 _=>?_
 refine Run.q (e:=vIv) (gv:=vIv) (os_SubI _ _) fun r6 _=>?_
 exact Run.x 0
theorem os_l02Root_L0 : ∀ (fu : Nat) (a0 : Wd) (x_out : U64) (x_i : I64) (q0 : x_i.val ≤ 63) (hm : (x_i.val + 1).toNat < fu) (t : Array Value) (ht : maskA t [0,5,6,7,8,9,10,11,12,13,14,15,16,17,18,19,20,21,22,23,24,25,26,27,28,29,30,31,32,33,34,35,36,37,38,39,40,41,42] = #[undef,.pointer (some ⟨0,0,none⟩),.int .u64 0,.int .u64 x_out.val,.int .i64 x_i.val,undef,undef,undef,undef,undef,undef,undef,undef,undef,undef,undef,undef,undef,undef,undef,undef,undef,undef,undef,undef,undef,undef,undef,undef,undef,undef,undef,undef,undef,undef,undef,undef,undef,undef,undef,undef,undef,undef]),Cfg Tryz.prog 255 (loopAt Tryz.f255 0) t [(#[.int .i64 a0.hi.val,.int .u64 a0.lo.val],150)] (RvH [] (vU (S_l02Root_L0 fu a0 x_out x_i))):=by
 intro fu
 induction fu with
 | zero=>intro a0 x_out x_i q0 hm; exact absurd hm (Nat.not_lt_zero _)
 | succ fu ih=>
  intro a0 x_out x_i q0 hm t ht
  refine Cfg.round E_ok mixed Tryz.func255 ht fun g=>?_
  unfold S_l02Root_L0
  refine Run.y (gv:=vU) (fun h1=>?_) (fun h1=>?_)
  ·refine Run.k (c:=(decide (0 ≤ (wu64 x_i.val).val))) (by kernel_rfl) (by simp only [w64_val,wu64_val,c64_val,cu64_val,decide_eq_true_eq] at *; omega) ?_
   refine Run.q (e:=vT_U_U) (gv:=vU) (os_l02Times _ _) fun r2 hr2=>?_
   refine Run.y (gv:=vU) (fun h3=>?_) (fun h3=>?_)
   ·refine Run.z [true,true,true,true,true,true,true,true] ?_
    exact Run.l (by kernel_rfl) (by kernel_rfl) (by kernel_rfl) (by kernel_rfl) (ih a0 (ior .u64 x_out.val (ishl .u64 1 (wu64 x_i.val).val).val) (w64 (x_i.val - 1)) (by have q1:=x_i.lo; simp only [w64_val,wu64_val,c64_val,cu64_val,decide_eq_true_eq] at *; omega) (by have q1:=x_i.lo; simp only [w64_val,wu64_val,c64_val,cu64_val,decide_eq_true_eq] at *; omega))
   ·refine Run.z [false,false,false,false,false] ?_
    refine Run.y (gv:=vU) (fun h4=>?_) (fun h4=>?_)
    ·refine Run.z [true,true,true,false,true,false] ?_
     refine Run.y (gv:=vU) (fun h5=>?_) (fun h5=>?_)
     ·exact Run.l (by kernel_rfl) (by kernel_rfl) (by kernel_rfl) (by kernel_rfl) (ih a0 (ior .u64 x_out.val (ishl .u64 1 (wu64 x_i.val).val).val) (w64 (x_i.val - 1)) (by have q1:=x_i.lo; simp only [w64_val,wu64_val,c64_val,cu64_val,decide_eq_true_eq] at *; omega) (by have q1:=x_i.lo; simp only [w64_val,wu64_val,c64_val,cu64_val,decide_eq_true_eq] at *; omega))
     ·exact Run.l (by kernel_rfl) (by kernel_rfl) (by kernel_rfl) (by kernel_rfl) (ih a0 x_out (w64 (x_i.val - 1)) (by have q1:=x_i.lo; simp only [w64_val,wu64_val,c64_val,cu64_val,decide_eq_true_eq] at *; omega) (by have q1:=x_i.lo; simp only [w64_val,wu64_val,c64_val,cu64_val,decide_eq_true_eq] at *; omega))
    ·refine Run.z [false,false,false,false,false,false,false] ?_
     exact Run.l (by kernel_rfl) (by kernel_rfl) (by kernel_rfl) (by kernel_rfl) (ih a0 x_out (w64 (x_i.val - 1)) (by have q1:=x_i.lo; simp only [w64_val,wu64_val,c64_val,cu64_val,decide_eq_true_eq] at *; omega) (by have q1:=x_i.lo; simp only [w64_val,wu64_val,c64_val,cu64_val,decide_eq_true_eq] at *; omega))
  ·exact Run.x 0
theorem os_l02Root (a0 : Wd) : Fun Tryz.prog 255 [] #[vWd a0] (vU (S_l02Root a0)) []:=by
 refine Fun.ofH 400 E_ok mixed Tryz.func255 (by kernel_rfl) (by kernel_rfl) ?_
 unfold S_l02Root
 exact Run.l (by kernel_rfl) (by kernel_rfl) (by kernel_rfl) (by kernel_rfl) (os_l02Root_L0 65 a0 (cu64 0) (c64 63) (by decide) (by decide))
theorem os_SqrtFloor (a0 : I64) (a1 : I64) : Fun Tryz.prog 265 [] #[vI a0,vI a1] (vT_I_B (S_SqrtFloor a0 a1)) []:=by
 refine Fun.ofH 400 E_ok mixed Tryz.func265 (by kernel_rfl) (by kernel_rfl) ?_
 unfold S_SqrtFloor
 refine Run.y (gv:=vT_I_B) (fun _=>?_) (fun _=>?_)
 ·refine Run.z [true,true,true] ?_
  exact Run.x 0
 ·refine Run.z [false,false] ?_
  refine Run.y (gv:=vT_I_B) (fun _=>?_) (fun _=>?_)
  ·exact Run.x 0
  ·refine Run.q (e:=vWd) (gv:=vT_I_B) (os_l02Mul _ _) fun r1 _=>?_
   refine Run.q (e:=vU) (gv:=vT_I_B) (os_l02Root _) fun r2 _=>?_
   exact Run.x 0
theorem os_l03SqrtDown (a0 : I64) : Fun Tryz.prog 218 [] #[vI a0] (vT_I_B (S_l03SqrtDown a0)) []:=by
 refine Fun.ofH 400 E_ok mixed Tryz.func218 (by kernel_rfl) (by kernel_rfl) ?_
 unfold S_l03SqrtDown
 refine Run.q (e:=vB) (gv:=vT_I_B) (os_l00In _ _ _) fun r1 _=>?_
 refine Run.y (gv:=vT_I_B) (fun _=>?_) (fun _=>?_)
 ·exact Run.x 0
 ·refine Run.q (e:=vT_I_B) (gv:=vT_I_B) (os_SqrtFloor _ _) fun r2 _=>?_
  exact Run.x 0
theorem os_l03SqrtUp (a0 : I64) : Fun Tryz.prog 219 [] #[vI a0] (vT_I_B (S_l03SqrtUp a0)) []:=by
 refine Fun.ofH 400 E_ok mixed Tryz.func219 (by kernel_rfl) (by kernel_rfl) ?_
 unfold S_l03SqrtUp
 refine Run.q (e:=vT_I_B) (gv:=vT_I_B) (os_l03SqrtDown _) fun r1 _=>?_
 refine Run.y (gv:=vT_I_B) (fun _=>?_) (fun _=>?_)
 ·exact Run.x 0
 ·refine Run.q (e:=vT_I_B) (gv:=vT_I_B) (os_MulFloor _ _ _) fun r2 _=>?_
  refine Run.y (gv:=vT_I_B) (fun _=>?_) (fun _=>?_)
  ·refine Run.z [true,true,true,true,true,true] ?_
   exact Run.x 0
  ·refine Run.z [false,false,false,false,false] ?_
   refine Run.y (gv:=vT_I_B) (fun _=>?_) (fun _=>?_)
   ·exact Run.x 0
   ·exact Run.x 0
theorem os_SqrtI (a0 : Iv) : Fun Tryz.prog 150 [] #[vIv a0] (vIv (S_SqrtI a0)) []:=by
 refine Fun.ofH 400 E_ok mixed Tryz.func150 (by kernel_rfl) (by kernel_rfl) ?_
 unfold S_SqrtI
 refine Run.q (e:=vB) (gv:=vIv) (os_l04Ok _) fun r1 _=>?_
 refine Run.y (gv:=vIv) (fun _=>?_) (fun _=>?_)
 ·refine Run.z [true,true,true,true] ?_
  refine Run.q (e:=vIv) (gv:=vIv) (os_l04Whole) fun r2 _=>?_
  exact Run.x 0
 ·refine Run.z [false,false,false] ?_
  refine Run.y (gv:=vIv) (fun _=>?_) (fun _=>?_)
  ·refine Run.q (e:=vIv) (gv:=vIv) (os_l04Whole) fun r3 _=>?_
   exact Run.x 0
  ·refine Run.q (e:=vT_I_B) (gv:=vIv) (os_l03SqrtDown _) fun r4 _=>?_
   refine Run.q (e:=vT_I_B) (gv:=vIv) (os_l03SqrtUp _) fun r5 _=>?_
   refine Run.q (e:=vIv) (gv:=vIv) (os_l04Make _ _) fun r6 _=>?_
   exact Run.x 0
theorem os_RadiusN (a0 : El) (a1 : Iv) : Fun Tryz.prog 164 [] #[vEl a0,vIv a1] (vIv (S_RadiusN a0 a1)) []:=by
 refine Fun.ofH 400 E_ok mixed Tryz.func164 (by kernel_rfl) (by kernel_rfl) ?_
 unfold S_RadiusN
 refine Run.q (e:=vIv) (gv:=vIv) (os_MajorI _) fun r1 _=>?_
 refine Run.q (e:=vIv) (gv:=vIv) (os_l12W _ _) fun r2 _=>?_
 refine Run.q (e:=vIv) (gv:=vIv) (os_SqrtI _) fun r3 _=>?_
 refine Run.q (e:=vIv) (gv:=vIv) (os_DivI _ _) fun r4 _=>?_
 exact Run.x 0
theorem os_CosI (a0 : Iv) : Fun Tryz.prog 156 [] #[vIv a0] (vIv (S_CosI a0)) []:=by
 refine Fun.ofH 400 E_ok mixed Tryz.func156 (by kernel_rfl) (by kernel_rfl) ?_
 unfold S_CosI
 refine Run.q (e:=vIv) (gv:=vIv) (os_l06Over _ _) fun r1 _=>?_
 exact Run.x 0
theorem os_l14To__pPl (b0 : Pl) (a0 : El) : Fun Tryz.prog 78 [(#[.int .i64 b0.point.lat.val,.int .i64 b0.point.lon.val,.int .i64 b0.height.val],47)] #[vEl a0,.pointer (some ⟨0,0,none⟩)] (vVc (S_l14To__pPl b0 a0)) [(#[.int .i64 b0.point.lat.val,.int .i64 b0.point.lon.val,.int .i64 b0.height.val],47)]:=by
 refine Fun.ofH 400 E_ok mixed Tryz.func78 (by kernel_rfl) (by kernel_rfl) ?_
 unfold S_l14To__pPl
 refine Run.q (e:=vIv) (gv:=vVc) (os_RadiansOf _) fun r1 _=>?_
 refine Run.q (e:=vIv) (gv:=vVc) (os_RadiansOf _) fun r2 _=>?_
 refine Run.q (e:=vIv) (gv:=vVc) (os_RadiusN _ _) fun r3 _=>?_
 refine Run.q (e:=vIv) (gv:=vVc) (os_Quotient _ _) fun r4 _=>?_
 refine Run.q (e:=vIv) (gv:=vVc) (os_AddI _ _) fun r5 _=>?_
 refine Run.q (e:=vIv) (gv:=vVc) (os_CosI _) fun r6 _=>?_
 refine Run.q (e:=vIv) (gv:=vVc) (os_MulI _ _) fun r7 _=>?_
 refine Run.q (e:=vIv) (gv:=vVc) (os_Integer _) fun r8 _=>?_
 refine Run.q (e:=vIv) (gv:=vVc) (os_EccI _) fun r9 _=>?_
 refine Run.q (e:=vIv) (gv:=vVc) (os_SubI _ _) fun r10 _=>?_
 refine Run.q (e:=vIv) (gv:=vVc) (os_MulI _ _) fun r11 _=>?_
 refine Run.q (e:=vIv) (gv:=vVc) (os_AddI _ _) fun r12 _=>?_
 refine Run.q (e:=vIv) (gv:=vVc) (os_SinI _) fun r13 _=>?_
 refine Run.q (e:=vIv) (gv:=vVc) (os_MulI _ _) fun r14 _=>?_
 refine Run.q (e:=vIv) (gv:=vVc) (os_CosI _) fun r15 _=>?_
 refine Run.q (e:=vIv) (gv:=vVc) (os_MulI _ _) fun r16 _=>?_
 refine Run.q (e:=vIv) (gv:=vVc) (os_SinI _) fun r17 _=>?_
 refine Run.q (e:=vIv) (gv:=vVc) (os_MulI _ _) fun r18 _=>?_
 exact Run.x 1
theorem os_DotV (a0 : Vc) (a1 : Vc) : Fun Tryz.prog 224 [] #[vVc a0,vVc a1] (vIv (S_DotV a0 a1)) []:=by
 refine Fun.ofH 400 E_ok mixed Tryz.func224 (by kernel_rfl) (by kernel_rfl) ?_
 unfold S_DotV
 refine Run.q (e:=vIv) (gv:=vIv) (os_MulI _ _) fun r1 _=>?_
 refine Run.q (e:=vIv) (gv:=vIv) (os_MulI _ _) fun r2 _=>?_
 refine Run.q (e:=vIv) (gv:=vIv) (os_AddI _ _) fun r3 _=>?_
 refine Run.q (e:=vIv) (gv:=vIv) (os_MulI _ _) fun r4 _=>?_
 refine Run.q (e:=vIv) (gv:=vIv) (os_AddI _ _) fun r5 _=>?_
 exact Run.x 0
theorem os_ApplyM (a0 : Mt) (a1 : Vc) : Fun Tryz.prog 161 [] #[vMt a0,vVc a1] (vVc (S_ApplyM a0 a1)) []:=by
 refine Fun.ofH 400 E_ok mixed Tryz.func161 (by kernel_rfl) (by kernel_rfl) ?_
 unfold S_ApplyM
 refine Run.q (e:=vIv) (gv:=vVc) (os_DotV _ _) fun r1 _=>?_
 refine Run.q (e:=vIv) (gv:=vVc) (os_DotV _ _) fun r2 _=>?_
 refine Run.q (e:=vIv) (gv:=vVc) (os_DotV _ _) fun r3 _=>?_
 exact Run.x 0
theorem os_AddV (a0 : Vc) (a1 : Vc) : Fun Tryz.prog 160 [] #[vVc a0,vVc a1] (vVc (S_AddV a0 a1)) []:=by
 refine Fun.ofH 400 E_ok mixed Tryz.func160 (by kernel_rfl) (by kernel_rfl) ?_
 unfold S_AddV
 refine Run.q (e:=vIv) (gv:=vVc) (os_AddI _ _) fun r1 _=>?_
 refine Run.q (e:=vIv) (gv:=vVc) (os_AddI _ _) fun r2 _=>?_
 refine Run.q (e:=vIv) (gv:=vVc) (os_AddI _ _) fun r3 _=>?_
 exact Run.x 0
theorem os_ApplyAffine (a0 : Af) (a1 : Vc) : Fun Tryz.prog 76 [] #[vAf a0,vVc a1] (vVc (S_ApplyAffine a0 a1)) []:=by
 refine Fun.ofH 400 E_ok mixed Tryz.func76 (by kernel_rfl) (by kernel_rfl) ?_
 unfold S_ApplyAffine
 refine Run.q (e:=vVc) (gv:=vVc) (os_ApplyM _ _) fun r1 _=>?_
 refine Run.q (e:=vVc) (gv:=vVc) (os_AddV _ _) fun r2 _=>?_
 exact Run.x 0
theorem os_IsWhole (a0 : Iv) : Fun Tryz.prog 158 [] #[vIv a0] (vB (S_IsWhole a0)) []:=by
 refine Fun.ofH 400 E_ok mixed Tryz.func158 (by kernel_rfl) (by kernel_rfl) ?_
 unfold S_IsWhole
 refine Run.q (e:=vB) (gv:=vB) (os_l04Ok _) fun r1 _=>?_
 exact Run.x 0
theorem os_AbsI (a0 : Iv) : Fun Tryz.prog 291 [] #[vIv a0] (vIv (S_AbsI a0)) []:=by
 refine Fun.ofH 400 E_ok mixed Tryz.func291 (by kernel_rfl) (by kernel_rfl) ?_
 unfold S_AbsI
 refine Run.q (e:=vB) (gv:=vIv) (os_l04Ok _) fun r1 _=>?_
 refine Run.y (gv:=vIv) (fun _=>?_) (fun _=>?_)
 ·refine Run.q (e:=vIv) (gv:=vIv) (os_l04Whole) fun r2 _=>?_
  exact Run.x 0
 ·refine Run.q (e:=vT_I_I) (gv:=vIv) (os_l04Ends _) fun r3 _=>?_
  refine Run.q (e:=vIv) (gv:=vIv) (os_l04Make _ _) fun r4 _=>?_
  exact Run.x 0
theorem os_l10Ends (a0 : Iv) : Fun Tryz.prog 254 [] #[vIv a0] (vT_I_I (S_l10Ends a0)) []:=by
 refine Fun.ofH 400 E_ok mixed Tryz.func254 (by kernel_rfl) (by kernel_rfl) ?_
 unfold S_l10Ends
 refine Run.q (e:=vIv) (gv:=vT_I_I) (os_AbsI _) fun r1 _=>?_
 exact Run.x 0
theorem os_l10Sum (a0 : I64) (a1 : I64) (a2 : I64) : Fun Tryz.prog 256 [] #[vI a0,vI a1,vI a2] (vWd (S_l10Sum a0 a1 a2)) []:=by
 refine Fun.ofH 400 E_ok mixed Tryz.func256 (by kernel_rfl) (by kernel_rfl) ?_
 unfold S_l10Sum
 refine Run.q (e:=vWd) (gv:=vWd) (os_l02Mul _ _) fun r1 _=>?_
 refine Run.q (e:=vWd) (gv:=vWd) (os_l02Mul _ _) fun r2 _=>?_
 refine Run.q (e:=vWd) (gv:=vWd) (os_l02Plus _ _) fun r3 _=>?_
 refine Run.q (e:=vWd) (gv:=vWd) (os_l02Mul _ _) fun r4 _=>?_
 refine Run.q (e:=vWd) (gv:=vWd) (os_l02Plus _ _) fun r5 _=>?_
 exact Run.x 0
theorem os_NormV (a0 : Vc) : Fun Tryz.prog 213 [] #[vVc a0] (vIv (S_NormV a0)) []:=by
 refine Fun.ofH 400 E_ok mixed Tryz.func213 (by kernel_rfl) (by kernel_rfl) ?_
 unfold S_NormV
 refine Run.q (e:=vB) (gv:=vIv) (os_IsWhole _) fun r1 _=>?_
 refine Run.y (gv:=vIv) (fun _=>?_) (fun _=>?_)
 ·refine Run.z [true,true,true,true,true,true,true,true] ?_
  refine Run.q (e:=vIv) (gv:=vIv) (os_Whole) fun r2 _=>?_
  exact Run.x 0
 ·refine Run.z [false,false] ?_
  refine Run.q (e:=vB) (gv:=vIv) (os_IsWhole _) fun r3 _=>?_
  refine Run.z [false] ?_
  refine Run.y (gv:=vIv) (fun _=>?_) (fun _=>?_)
  ·refine Run.z [true,true,true,true] ?_
   refine Run.q (e:=vIv) (gv:=vIv) (os_Whole) fun r4 _=>?_
   exact Run.x 0
  ·refine Run.z [false,false] ?_
   refine Run.q (e:=vB) (gv:=vIv) (os_IsWhole _) fun r5 _=>?_
   refine Run.z [false] ?_
   refine Run.y (gv:=vIv) (fun _=>?_) (fun _=>?_)
   ·refine Run.q (e:=vIv) (gv:=vIv) (os_Whole) fun r6 _=>?_
    exact Run.x 0
   ·refine Run.q (e:=vT_I_I) (gv:=vIv) (os_l10Ends _) fun r7 _=>?_
    refine Run.q (e:=vT_I_I) (gv:=vIv) (os_l10Ends _) fun r8 _=>?_
    refine Run.q (e:=vT_I_I) (gv:=vIv) (os_l10Ends _) fun r9 _=>?_
    refine Run.q (e:=vWd) (gv:=vIv) (os_l10Sum _ _ _) fun r10 _=>?_
    refine Run.q (e:=vU) (gv:=vIv) (os_l02Root _) fun r11 _=>?_
    refine Run.q (e:=vWd) (gv:=vIv) (os_l10Sum _ _ _) fun r12 _=>?_
    refine Run.q (e:=vU) (gv:=vIv) (os_l02Root _) fun r13 _=>?_
    refine Run.q (e:=vWd) (gv:=vIv) (os_l02Mul _ _) fun r14 _=>?_
    refine Run.y (gv:=vIv) (fun _=>?_) (fun _=>?_)
    ·refine Run.y (gv:=vIv) (fun _=>?_) (fun _=>?_)
     ·refine Run.q (e:=vIv) (gv:=vIv) (os_Whole) fun r15 _=>?_
      exact Run.x 0
     ·exact Run.x 0
    ·refine Run.y (gv:=vIv) (fun _=>?_) (fun _=>?_)
     ·refine Run.q (e:=vIv) (gv:=vIv) (os_Whole) fun r16 _=>?_
      exact Run.x 0
     ·exact Run.x 0
theorem os_HalfI (a0 : Iv) : Fun Tryz.prog 214 [] #[vIv a0] (vIv (S_HalfI a0)) []:=by
 refine Fun.ofH 400 E_ok mixed Tryz.func214 (by kernel_rfl) (by kernel_rfl) ?_
 unfold S_HalfI
 refine Run.q (e:=vB) (gv:=vIv) (os_l04Ok _) fun r1 _=>?_
 refine Run.y (gv:=vIv) (fun _=>?_) (fun _=>?_)
 ·refine Run.q (e:=vIv) (gv:=vIv) (os_l04Whole) fun r2 _=>?_
  exact Run.x 0
 ·refine Run.z [true,true] ?_
  refine Run.q (e:=vIv) (gv:=vIv) (os_l04Make _ _) fun r3 _=>?_
  exact Run.x 0
theorem os_LessI (a0 : Iv) (a1 : Iv) : Fun Tryz.prog 212 [] #[vIv a0,vIv a1] (vI (S_LessI a0 a1)) []:=by
 refine Fun.ofH 400 E_ok mixed Tryz.func212 (by kernel_rfl) (by kernel_rfl) ?_
 unfold S_LessI
 refine Run.q (e:=vB) (gv:=vI) (os_l04Ok _) fun r1 _=>?_
 refine Run.y (gv:=vI) (fun _=>?_) (fun _=>?_)
 ·refine Run.z [true,true,true,true] ?_
  exact Run.x 0
 ·refine Run.z [false] ?_
  refine Run.q (e:=vB) (gv:=vI) (os_l04Ok _) fun r2 _=>?_
  refine Run.z [false,false] ?_
  refine Run.y (gv:=vI) (fun _=>?_) (fun _=>?_)
  ·exact Run.x 0
  ·refine Run.y (gv:=vI) (fun _=>?_) (fun _=>?_)
   ·exact Run.x 0
   ·refine Run.y (gv:=vI) (fun _=>?_) (fun _=>?_)
    ·exact Run.x 0
    ·exact Run.x 0
theorem os_l14Far (a0 : El) (a1 : Vc) : Fun Tryz.prog 147 [] #[vEl a0,vVc a1] (vI (S_l14Far a0 a1)) []:=by
 refine Fun.ofH 400 E_ok mixed Tryz.func147 (by kernel_rfl) (by kernel_rfl) ?_
 unfold S_l14Far
 refine Run.q (e:=vB) (gv:=vI) (os_ValidEllipsoid _) fun r1 _=>?_
 refine Run.y (gv:=vI) (fun _=>?_) (fun _=>?_)
 ·exact Run.x 0
 ·refine Run.q (e:=vIv) (gv:=vI) (os_NormV _) fun r2 _=>?_
  refine Run.q (e:=vIv) (gv:=vI) (os_MajorI _) fun r3 _=>?_
  refine Run.q (e:=vIv) (gv:=vI) (os_HalfI _) fun r4 _=>?_
  refine Run.q (e:=vI) (gv:=vI) (os_LessI _ _) fun r5 _=>?_
  refine Run.y (gv:=vI) (fun _=>?_) (fun _=>?_)
  ·exact Run.x 0
  ·refine Run.y (gv:=vI) (fun _=>?_) (fun _=>?_)
   ·exact Run.x 0
   ·exact Run.x 0
theorem os_l15Flat (a0 : Vc) : Fun Tryz.prog 155 [] #[vVc a0] (vIv (S_l15Flat a0)) []:=by
 refine Fun.ofH 400 E_ok mixed Tryz.func155 (by kernel_rfl) (by kernel_rfl) ?_
 unfold S_l15Flat
 refine Run.q (e:=vIv) (gv:=vIv) (os_NormV _) fun r1 _=>?_
 exact Run.x 0
theorem os_SinAt (a0 : I64) : Fun Tryz.prog 257 [] #[vI a0] (vIv (S_SinAt a0)) []:=by
 refine Fun.ofH 400 E_ok mixed Tryz.func257 (by kernel_rfl) (by kernel_rfl) ?_
 unfold S_SinAt
 refine Run.q (e:=vIv) (gv:=vIv) (os_l06At _ _) fun r1 _=>?_
 exact Run.x 0
theorem os_CosAt (a0 : I64) : Fun Tryz.prog 258 [] #[vI a0] (vIv (S_CosAt a0)) []:=by
 refine Fun.ofH 400 E_ok mixed Tryz.func258 (by kernel_rfl) (by kernel_rfl) ?_
 unfold S_CosAt
 refine Run.q (e:=vIv) (gv:=vIv) (os_l06At _ _) fun r1 _=>?_
 exact Run.x 0
theorem os_l14Side (a0 : El) (a1 : Iv) (a2 : Iv) (a3 : I64) : Fun Tryz.prog 216 [] #[vEl a0,vIv a1,vIv a2,vI a3] (vIv (S_l14Side a0 a1 a2 a3)) []:=by
 refine Fun.ofH 400 E_ok mixed Tryz.func216 (by kernel_rfl) (by kernel_rfl) ?_
 unfold S_l14Side
 refine Run.q (e:=vIv) (gv:=vIv) (os_SinAt _) fun r1 _=>?_
 refine Run.q (e:=vIv) (gv:=vIv) (os_CosAt _) fun r2 _=>?_
 refine Run.q (e:=vIv) (gv:=vIv) (os_l05At _) fun r3 _=>?_
 refine Run.q (e:=vIv) (gv:=vIv) (os_RadiusN _ _) fun r4 _=>?_
 refine Run.q (e:=vIv) (gv:=vIv) (os_MulI _ _) fun r5 _=>?_
 refine Run.q (e:=vIv) (gv:=vIv) (os_MulI _ _) fun r6 _=>?_
 refine Run.q (e:=vIv) (gv:=vIv) (os_SubI _ _) fun r7 _=>?_
 refine Run.q (e:=vIv) (gv:=vIv) (os_EccI _) fun r8 _=>?_
 refine Run.q (e:=vIv) (gv:=vIv) (os_MulI _ _) fun r9 _=>?_
 refine Run.q (e:=vIv) (gv:=vIv) (os_MulI _ _) fun r10 _=>?_
 refine Run.q (e:=vIv) (gv:=vIv) (os_MulI _ _) fun r11 _=>?_
 refine Run.q (e:=vIv) (gv:=vIv) (os_SubI _ _) fun r12 _=>?_
 exact Run.x 0
theorem os_l14Lat_L1 : ∀ (fu : Nat) (a0 : El) (a1 : Vc) (r1 : Iv) (x_from : I64) (x_low : I64) (x_high : I64) (q0 : -6746518853 ≤ x_low.val) (q1 : x_low.val ≤ x_high.val) (q2 : x_high.val ≤ 6746518853) (hm : (x_high.val - x_low.val).toNat < fu) (t : Array Value) (ht : maskA t [0,1,8,10,11,12,13,14,15,16,17,18,19,20,21,22,23,24,25,26,27,28,29,30,31,32,33,34,35,36,37,38,39,40,41,42,43,44,45,46,47,48,49,50,51,52,53,54,55,56,57,58,59] = #[undef,undef,.pointer (some ⟨0,0,none⟩),.pointer (some ⟨1,0,none⟩),.pointer (some ⟨2,0,none⟩),.pointer (some ⟨3,0,none⟩),.int .i64 x_low.val,.int .i64 x_high.val,undef,.int .i64 x_from.val,undef,undef,undef,undef,undef,undef,undef,undef,undef,undef,undef,undef,undef,undef,undef,undef,undef,undef,undef,undef,undef,undef,undef,undef,undef,undef,undef,undef,undef,undef,undef,undef,undef,undef,undef,undef,undef,undef,undef,undef,undef,undef,undef,undef,undef,undef,undef,undef,undef,undef]),Cfg Tryz.prog 148 (loopAt Tryz.f148 1) t [(#[.int .i64 a0.a.val,.int .i64 a0.num.val,.int .i64 a0.den.val],44),(#[.int .i64 a1.x.lo.val,.int .i64 a1.x.hi.val,.int .i64 a1.y.lo.val,.int .i64 a1.y.hi.val,.int .i64 a1.z.lo.val,.int .i64 a1.z.hi.val],85),(#[.int .i64 0,.int .i64 0],31),(#[.int .i64 r1.lo.val,.int .i64 r1.hi.val],31)] (RvH [] (vIv (S_l14Lat_L1 fu a0 a1 r1 x_from x_low x_high))):=by
 intro fu
 induction fu with
 | zero=>intro a0 a1 r1 x_from x_low x_high q0 q1 q2 hm; exact absurd hm (Nat.not_lt_zero _)
 | succ fu ih=>
  intro a0 a1 r1 x_from x_low x_high q0 q1 q2 hm t ht
  refine Cfg.round E_ok mixed Tryz.func148 ht fun g=>?_
  unfold S_l14Lat_L1
  refine Run.y (gv:=vIv) (fun h8=>?_) (fun h8=>?_)
  ·refine Run.z [true] ?_
   refine Run.q (e:=vIv) (gv:=vIv) (os_l14Side _ _ _ _) fun r9 hr9=>?_
   refine Run.y (gv:=vIv) (fun h10=>?_) (fun h10=>?_)
   ·exact Run.l (by kernel_rfl) (by kernel_rfl) (by kernel_rfl) (by kernel_rfl) (ih a0 a1 r1 x_from x_low (ishr (w64 (x_low.val + x_high.val)) 1) (by first | exact Nat.lt_succ_self _ | (simp only [shr1_val,w64_val,c64_val,decide_eq_true_eq,decide_eq_false_iff_not,cond_true,cond_false] at *; omega)) (by first | exact Nat.lt_succ_self _ | (simp only [shr1_val,w64_val,c64_val,decide_eq_true_eq,decide_eq_false_iff_not,cond_true,cond_false] at *; omega)) (by first | exact Nat.lt_succ_self _ | (simp only [shr1_val,w64_val,c64_val,decide_eq_true_eq,decide_eq_false_iff_not,cond_true,cond_false] at *; omega)) (by first | exact Nat.lt_succ_self _ | (simp only [shr1_val,w64_val,c64_val,decide_eq_true_eq,decide_eq_false_iff_not,cond_true,cond_false] at *; omega)))
   ·exact Run.l (by kernel_rfl) (by kernel_rfl) (by kernel_rfl) (by kernel_rfl) (ih a0 a1 r1 x_from (ishr (w64 (x_low.val + x_high.val)) 1) x_high (by first | exact Nat.lt_succ_self _ | (simp only [shr1_val,w64_val,c64_val,decide_eq_true_eq,decide_eq_false_iff_not,cond_true,cond_false] at *; omega)) (by first | exact Nat.lt_succ_self _ | (simp only [shr1_val,w64_val,c64_val,decide_eq_true_eq,decide_eq_false_iff_not,cond_true,cond_false] at *; omega)) (by first | exact Nat.lt_succ_self _ | (simp only [shr1_val,w64_val,c64_val,decide_eq_true_eq,decide_eq_false_iff_not,cond_true,cond_false] at *; omega)) (by first | exact Nat.lt_succ_self _ | (simp only [shr1_val,w64_val,c64_val,decide_eq_true_eq,decide_eq_false_iff_not,cond_true,cond_false] at *; omega)))
  ·exact Run.x 0
theorem os_l14Lat_L0 : ∀ (fu : Nat) (a0 : El) (a1 : Vc) (r1 : Iv) (x_low : I64) (x_high : I64) (q0 : -6746518853 ≤ x_low.val) (q1 : x_low.val ≤ x_high.val) (q2 : x_high.val ≤ 6746518853) (hm : (x_high.val - x_low.val).toNat < fu) (t : Array Value) (ht : maskA t [0,1,8,9,10,11,12,13,14,15,16,17,18,19,20,21,22,23,24,25,26,27,28,29,30,31,32,33,34,35,36,37,38,39,40,41,42,43,44,45,46,47,48,49,50,51,52,53,54,55,56,57,58,59] = #[undef,undef,.pointer (some ⟨0,0,none⟩),.pointer (some ⟨1,0,none⟩),.pointer (some ⟨2,0,none⟩),.pointer (some ⟨3,0,none⟩),.int .i64 x_low.val,.int .i64 x_high.val,undef,undef,undef,undef,undef,undef,undef,undef,undef,undef,undef,undef,undef,undef,undef,undef,undef,undef,undef,undef,undef,undef,undef,undef,undef,undef,undef,undef,undef,undef,undef,undef,undef,undef,undef,undef,undef,undef,undef,undef,undef,undef,undef,undef,undef,undef,undef,undef,undef,undef,undef,undef]),Cfg Tryz.prog 148 (loopAt Tryz.f148 0) t [(#[.int .i64 a0.a.val,.int .i64 a0.num.val,.int .i64 a0.den.val],44),(#[.int .i64 a1.x.lo.val,.int .i64 a1.x.hi.val,.int .i64 a1.y.lo.val,.int .i64 a1.y.hi.val,.int .i64 a1.z.lo.val,.int .i64 a1.z.hi.val],85),(#[.int .i64 0,.int .i64 0],31),(#[.int .i64 r1.lo.val,.int .i64 r1.hi.val],31)] (RvH [] (vIv (S_l14Lat_L0 fu a0 a1 r1 x_low x_high))):=by
 intro fu
 induction fu with
 | zero=>intro a0 a1 r1 x_low x_high q0 q1 q2 hm; exact absurd hm (Nat.not_lt_zero _)
 | succ fu ih=>
  intro a0 a1 r1 x_low x_high q0 q1 q2 hm t ht
  refine Cfg.round E_ok mixed Tryz.func148 ht fun g=>?_
  unfold S_l14Lat_L0
  refine Run.y (gv:=vIv) (fun h4=>?_) (fun h4=>?_)
  ·refine Run.z [true] ?_
   refine Run.q (e:=vIv) (gv:=vIv) (os_l14Side _ _ _ _) fun r5 hr5=>?_
   refine Run.y (gv:=vIv) (fun h6=>?_) (fun h6=>?_)
   ·exact Run.l (by kernel_rfl) (by kernel_rfl) (by kernel_rfl) (by kernel_rfl) (ih a0 a1 r1 (ishr (w64 (x_low.val + x_high.val)) 1) x_high (by first | exact Nat.lt_succ_self _ | (simp only [shr1_val,w64_val,c64_val,decide_eq_true_eq,decide_eq_false_iff_not,cond_true,cond_false] at *; omega)) (by first | exact Nat.lt_succ_self _ | (simp only [shr1_val,w64_val,c64_val,decide_eq_true_eq,decide_eq_false_iff_not,cond_true,cond_false] at *; omega)) (by first | exact Nat.lt_succ_self _ | (simp only [shr1_val,w64_val,c64_val,decide_eq_true_eq,decide_eq_false_iff_not,cond_true,cond_false] at *; omega)) (by first | exact Nat.lt_succ_self _ | (simp only [shr1_val,w64_val,c64_val,decide_eq_true_eq,decide_eq_false_iff_not,cond_true,cond_false] at *; omega)))
   ·exact Run.l (by kernel_rfl) (by kernel_rfl) (by kernel_rfl) (by kernel_rfl) (ih a0 a1 r1 x_low (ishr (w64 (x_low.val + x_high.val)) 1) (by first | exact Nat.lt_succ_self _ | (simp only [shr1_val,w64_val,c64_val,decide_eq_true_eq,decide_eq_false_iff_not,cond_true,cond_false] at *; omega)) (by first | exact Nat.lt_succ_self _ | (simp only [shr1_val,w64_val,c64_val,decide_eq_true_eq,decide_eq_false_iff_not,cond_true,cond_false] at *; omega)) (by first | exact Nat.lt_succ_self _ | (simp only [shr1_val,w64_val,c64_val,decide_eq_true_eq,decide_eq_false_iff_not,cond_true,cond_false] at *; omega)) (by first | exact Nat.lt_succ_self _ | (simp only [shr1_val,w64_val,c64_val,decide_eq_true_eq,decide_eq_false_iff_not,cond_true,cond_false] at *; omega)))
  ·refine Run.q (e:=vIv) (gv:=vIv) (os_l05Turn _ (by decide)) fun r7 hr7=>?_
   exact Run.l (by kernel_rfl) (by kernel_rfl) (by kernel_rfl) (by kernel_rfl) (os_l14Lat_L1 ((r7.hi.val - x_low.val).toNat + 1) a0 a1 r1 x_low x_low r7.hi (by first | exact Nat.lt_succ_self _ | (have z:=spec_turn1; rw [← hr7] at z; omega) | (have z:=spec_turn1; (try simp only [w64_val]); subst_vars; (try simp only [w64_val]); omega)) (by first | exact Nat.lt_succ_self _ | (have z:=spec_turn1; rw [← hr7] at z; omega) | (have z:=spec_turn1; (try simp only [w64_val]); subst_vars; (try simp only [w64_val]); omega)) (by first | exact Nat.lt_succ_self _ | (have z:=spec_turn1; rw [← hr7] at z; omega) | (have z:=spec_turn1; (try simp only [w64_val]); subst_vars; (try simp only [w64_val]); omega)) (by first | exact Nat.lt_succ_self _ | (have z:=spec_turn1; rw [← hr7] at z; omega) | (have z:=spec_turn1; (try simp only [w64_val]); subst_vars; (try simp only [w64_val]); omega)))
theorem os_l14Lat (a0 : El) (a1 : Vc) : Fun Tryz.prog 148 [] #[vEl a0,vVc a1] (vIv (S_l14Lat a0 a1)) []:=by
 refine Fun.ofH 400 E_ok mixed Tryz.func148 (by kernel_rfl) (by kernel_rfl) ?_
 unfold S_l14Lat
 refine Run.q (e:=vIv) (gv:=vIv) (os_l15Flat _) fun r1 hr1=>?_
 refine Run.q (e:=vIv) (gv:=vIv) (os_l05Turn _ (by decide)) fun r2 hr2=>?_
 refine Run.q (e:=vIv) (gv:=vIv) (os_l05Turn _ (by decide)) fun r3 hr3=>?_
 exact Run.l (by kernel_rfl) (by kernel_rfl) (by kernel_rfl) (by kernel_rfl) (os_l14Lat_L0 ((r3.hi.val - (w64 (0 - r2.hi.val)).val).toNat + 1) a0 a1 r1 (w64 (0 - r2.hi.val)) r3.hi (by first | exact Nat.lt_succ_self _ | (have z:=spec_turn1; rw [← hr7] at z; omega) | (have z:=spec_turn1; (try simp only [w64_val]); subst_vars; (try simp only [w64_val]); omega)) (by first | exact Nat.lt_succ_self _ | (have z:=spec_turn1; rw [← hr7] at z; omega) | (have z:=spec_turn1; (try simp only [w64_val]); subst_vars; (try simp only [w64_val]); omega)) (by first | exact Nat.lt_succ_self _ | (have z:=spec_turn1; rw [← hr7] at z; omega) | (have z:=spec_turn1; (try simp only [w64_val]); subst_vars; (try simp only [w64_val]); omega)) (by first | exact Nat.lt_succ_self _ | (have z:=spec_turn1; rw [← hr7] at z; omega) | (have z:=spec_turn1; (try simp only [w64_val]); subst_vars; (try simp only [w64_val]); omega)))
theorem os_HasI (a0 : Iv) (a1 : I64) : Fun Tryz.prog 16 [] #[vIv a0,vI a1] (vB (S_HasI a0 a1)) []:=by
 refine Fun.ofH 400 E_ok mixed Tryz.func16 (by kernel_rfl) (by kernel_rfl) ?_
 unfold S_HasI
 refine Run.q (e:=vB) (gv:=vB) (os_l04Ok _) fun r1 _=>?_
 refine Run.y (gv:=vB) (fun _=>?_) (fun _=>?_)
 ·refine Run.z [true,true,true] ?_
  exact Run.x 0
 ·refine Run.z [false,false] ?_
  refine Run.q (e:=vB) (gv:=vB) (os_l04Has _ _) fun r2 _=>?_
  refine Run.z [false] ?_
  exact Run.x 0
theorem os_l07Fix (a0 : I64) : Fun Tryz.prog 266 [] #[vI a0] (vB (S_l07Fix a0)) []:=by
 refine Fun.ofH 400 E_ok mixed Tryz.func266 (by kernel_rfl) (by kernel_rfl) ?_
 unfold S_l07Fix
 refine Run.y (gv:=vB) (fun _=>?_) (fun _=>?_)
 ·refine Run.z [true,true] ?_
  exact Run.x 0
 ·refine Run.z [false,false] ?_
  exact Run.x 0
theorem os_l07Quarter : Fun Tryz.prog 298 [] #[] (vIv (S_l07Quarter)) []:=by
 refine Fun.ofH 400 E_ok mixed Tryz.func298 (by kernel_rfl) (by kernel_rfl) ?_
 unfold S_l07Quarter
 refine Run.q (e:=vIv) (gv:=vIv) (os_l05Turn _ (by simp only [w64_val,wu64_val,c64_val,cu64_val,decide_eq_true_eq,decide_eq_false_iff_not,cond_true,cond_false] at *; omega)) fun r1 hr1=>?_
 refine Run.q (e:=vIv) (gv:=vIv) (os_l05Turn _ (by simp only [w64_val,wu64_val,c64_val,cu64_val,decide_eq_true_eq,decide_eq_false_iff_not,cond_true,cond_false] at *; omega)) fun r2 hr2=>?_
 exact Run.x 0
theorem os_l07Halve (a0 : Iv) : Fun Tryz.prog 321 [] #[vIv a0] (vIv (S_l07Halve a0)) []:=by
 refine Fun.ofH 400 E_ok mixed Tryz.func321 (by kernel_rfl) (by kernel_rfl) ?_
 unfold S_l07Halve
 refine Run.q (e:=vIv) (gv:=vIv) (os_Integer _) fun r1 _=>?_
 refine Run.q (e:=vIv) (gv:=vIv) (os_Integer _) fun r2 _=>?_
 refine Run.q (e:=vIv) (gv:=vIv) (os_SqrI _) fun r3 _=>?_
 refine Run.q (e:=vIv) (gv:=vIv) (os_AddI _ _) fun r4 _=>?_
 refine Run.q (e:=vIv) (gv:=vIv) (os_SqrtI _) fun r5 _=>?_
 refine Run.q (e:=vIv) (gv:=vIv) (os_AddI _ _) fun r6 _=>?_
 refine Run.q (e:=vIv) (gv:=vIv) (os_DivI _ _) fun r7 _=>?_
 exact Run.x 0
theorem os_ArcSeries (a0 : Iv) : Fun Tryz.prog 320 [] #[vIv a0] (vIv (S_ArcSeries a0)) []:=by
 refine Fun.ofH 400 E_ok mixed Tryz.func320 (by kernel_rfl) (by kernel_rfl) ?_
 unfold S_ArcSeries
 refine Run.q (e:=vB) (gv:=vIv) (os_InsideI _ _) fun r1 _=>?_
 refine Run.y (gv:=vIv) (fun _=>?_) (fun _=>?_)
 ·refine Run.q (e:=vIv) (gv:=vIv) (os_Whole) fun r2 _=>?_
  exact Run.x 0
 ·refine Run.q (e:=vIv) (gv:=vIv) (os_SqrI _) fun r3 _=>?_
  refine Run.q (e:=vIv) (gv:=vIv) (os_Quotient _ _) fun r4 _=>?_
  refine Run.u 400 E_ok mixed Tryz.func320 ?_
  refine Run.z [true] ?_
  refine Run.q (e:=vIv) (gv:=vIv) (os_Quotient _ _) fun r5 _=>?_
  refine Run.q (e:=vIv) (gv:=vIv) (os_MulI _ _) fun r6 _=>?_
  refine Run.q (e:=vIv) (gv:=vIv) (os_SubI _ _) fun r7 _=>?_
  refine Run.u 400 E_ok mixed Tryz.func320 ?_
  refine Run.z [true] ?_
  refine Run.q (e:=vIv) (gv:=vIv) (os_Quotient _ _) fun r8 _=>?_
  refine Run.q (e:=vIv) (gv:=vIv) (os_MulI _ _) fun r9 _=>?_
  refine Run.q (e:=vIv) (gv:=vIv) (os_SubI _ _) fun r10 _=>?_
  refine Run.u 400 E_ok mixed Tryz.func320 ?_
  refine Run.z [true] ?_
  refine Run.q (e:=vIv) (gv:=vIv) (os_Quotient _ _) fun r11 _=>?_
  refine Run.q (e:=vIv) (gv:=vIv) (os_MulI _ _) fun r12 _=>?_
  refine Run.q (e:=vIv) (gv:=vIv) (os_SubI _ _) fun r13 _=>?_
  refine Run.u 400 E_ok mixed Tryz.func320 ?_
  refine Run.z [true] ?_
  refine Run.q (e:=vIv) (gv:=vIv) (os_Quotient _ _) fun r14 _=>?_
  refine Run.q (e:=vIv) (gv:=vIv) (os_MulI _ _) fun r15 _=>?_
  refine Run.q (e:=vIv) (gv:=vIv) (os_SubI _ _) fun r16 _=>?_
  refine Run.u 400 E_ok mixed Tryz.func320 ?_
  refine Run.z [true] ?_
  refine Run.q (e:=vIv) (gv:=vIv) (os_Quotient _ _) fun r17 _=>?_
  refine Run.q (e:=vIv) (gv:=vIv) (os_MulI _ _) fun r18 _=>?_
  refine Run.q (e:=vIv) (gv:=vIv) (os_SubI _ _) fun r19 _=>?_
  refine Run.u 400 E_ok mixed Tryz.func320 ?_
  refine Run.z [true] ?_
  refine Run.q (e:=vIv) (gv:=vIv) (os_Quotient _ _) fun r20 _=>?_
  refine Run.q (e:=vIv) (gv:=vIv) (os_MulI _ _) fun r21 _=>?_
  refine Run.q (e:=vIv) (gv:=vIv) (os_SubI _ _) fun r22 _=>?_
  refine Run.u 400 E_ok mixed Tryz.func320 ?_
  refine Run.z [true] ?_
  refine Run.q (e:=vIv) (gv:=vIv) (os_Quotient _ _) fun r23 _=>?_
  refine Run.q (e:=vIv) (gv:=vIv) (os_MulI _ _) fun r24 _=>?_
  refine Run.q (e:=vIv) (gv:=vIv) (os_SubI _ _) fun r25 _=>?_
  refine Run.u 400 E_ok mixed Tryz.func320 ?_
  refine Run.z [true] ?_
  refine Run.q (e:=vIv) (gv:=vIv) (os_Quotient _ _) fun r26 _=>?_
  refine Run.q (e:=vIv) (gv:=vIv) (os_MulI _ _) fun r27 _=>?_
  refine Run.q (e:=vIv) (gv:=vIv) (os_SubI _ _) fun r28 _=>?_
  refine Run.u 400 E_ok mixed Tryz.func320 ?_
  refine Run.z [true] ?_
  refine Run.q (e:=vIv) (gv:=vIv) (os_Quotient _ _) fun r29 _=>?_
  refine Run.q (e:=vIv) (gv:=vIv) (os_MulI _ _) fun r30 _=>?_
  refine Run.q (e:=vIv) (gv:=vIv) (os_SubI _ _) fun r31 _=>?_
  refine Run.u 400 E_ok mixed Tryz.func320 ?_
  refine Run.z [true] ?_
  refine Run.q (e:=vIv) (gv:=vIv) (os_Quotient _ _) fun r32 _=>?_
  refine Run.q (e:=vIv) (gv:=vIv) (os_MulI _ _) fun r33 _=>?_
  refine Run.q (e:=vIv) (gv:=vIv) (os_SubI _ _) fun r34 _=>?_
  refine Run.u 400 E_ok mixed Tryz.func320 ?_
  refine Run.z [false] ?_
  refine Run.q (e:=vIv) (gv:=vIv) (os_MulI _ _) fun r35 _=>?_
  refine Run.q (e:=vIv) (gv:=vIv) (os_l06Tiny) fun r36 _=>?_
  refine Run.q (e:=vIv) (gv:=vIv) (os_AddI _ _) fun r37 _=>?_
  exact Run.x 0
theorem os_DoubleI (a0 : Iv) : Fun Tryz.prog 319 [] #[vIv a0] (vIv (S_DoubleI a0)) []:=by
 refine Fun.ofH 400 E_ok mixed Tryz.func319 (by kernel_rfl) (by kernel_rfl) ?_
 unfold S_DoubleI
 refine Run.q (e:=vB) (gv:=vIv) (os_l04Ok _) fun r1 _=>?_
 refine Run.y (gv:=vIv) (fun _=>?_) (fun _=>?_)
 ·refine Run.q (e:=vIv) (gv:=vIv) (os_l04Whole) fun r2 _=>?_
  exact Run.x 0
 ·refine Run.q (e:=vIv) (gv:=vIv) (os_l04Make _ _) fun r3 _=>?_
  exact Run.x 0
theorem os_l07Core (a0 : Iv) : Fun Tryz.prog 316 [] #[vIv a0] (vIv (S_l07Core a0)) []:=by
 refine Fun.ofH 400 E_ok mixed Tryz.func316 (by kernel_rfl) (by kernel_rfl) ?_
 unfold S_l07Core
 refine Run.q (e:=vIv) (gv:=vIv) (os_l07Halve _) fun r1 _=>?_
 refine Run.q (e:=vIv) (gv:=vIv) (os_l07Halve _) fun r2 _=>?_
 refine Run.q (e:=vIv) (gv:=vIv) (os_ArcSeries _) fun r3 _=>?_
 refine Run.q (e:=vIv) (gv:=vIv) (os_DoubleI _) fun r4 _=>?_
 refine Run.q (e:=vIv) (gv:=vIv) (os_DoubleI _) fun r5 _=>?_
 exact Run.x 0
theorem os_AtanAt_r : ∀ (fu : Nat) (a0 : I64) (hm : min (0 - a0.val).toNat 1 < fu),Fun Tryz.prog 299 [] #[vI a0] (vIv (S_AtanAt_r fu a0)) []:=by
 intro fu
 induction fu with
 | zero=>intro a0 hm; exact absurd hm (Nat.not_lt_zero _)
 | succ fu ih=>
  intro a0 hm
  refine Fun.ofH 400 E_ok mixed Tryz.func299 (by kernel_rfl) (by kernel_rfl) ?_
  unfold S_AtanAt_r
  unfold S_AtanAt_b
  refine Run.q (e:=vB) (gv:=vIv) (os_l07Fix _) fun r1 hr1=>?_
  refine Run.y (gv:=vIv) (fun h2=>?_) (fun h2=>?_)
  ·refine Run.q (e:=vIv) (gv:=vIv) (os_l07Quarter) fun r3 hr3=>?_
   exact Run.x 0
  ·refine Run.y (gv:=vIv) (fun h4=>?_) (fun h4=>?_)
   ·refine Run.q (e:=vIv) (gv:=vIv) (ih (w64 (0 - a0.val)) (by rw [hr1] at h2; simp [S_l07Fix,c64_val] at h2; simp only [w64_val,decide_eq_true_eq,decide_eq_false_iff_not] at *; omega)) fun r5 hr5=>?_
    refine Run.q (e:=vIv) (gv:=vIv) (os_NegI _) fun r6 hr6=>?_
    exact Run.x 0
   ·refine Run.y (gv:=vIv) (fun h7=>?_) (fun h7=>?_)
    ·refine Run.q (e:=vIv) (gv:=vIv) (os_TurnI _) fun r8 hr8=>?_
     refine Run.q (e:=vIv) (gv:=vIv) (os_Integer _) fun r9 hr9=>?_
     refine Run.q (e:=vIv) (gv:=vIv) (os_l05At _) fun r10 hr10=>?_
     refine Run.q (e:=vIv) (gv:=vIv) (os_DivI _ _) fun r11 hr11=>?_
     refine Run.q (e:=vIv) (gv:=vIv) (os_l07Core _) fun r12 hr12=>?_
     refine Run.q (e:=vIv) (gv:=vIv) (os_SubI _ _) fun r13 hr13=>?_
     exact Run.x 0
    ·refine Run.q (e:=vIv) (gv:=vIv) (os_l05At _) fun r14 hr14=>?_
     refine Run.q (e:=vIv) (gv:=vIv) (os_l07Core _) fun r15 hr15=>?_
     exact Run.x 0
theorem os_AtanAt (a0 : I64) : Fun Tryz.prog 299 [] #[vI a0] (vIv (S_AtanAt a0)) []:=os_AtanAt_r 2 a0 (by omega)
theorem os_AtanI (a0 : Iv) : Fun Tryz.prog 267 [] #[vIv a0] (vIv (S_AtanI a0)) []:=by
 refine Fun.ofH 400 E_ok mixed Tryz.func267 (by kernel_rfl) (by kernel_rfl) ?_
 unfold S_AtanI
 refine Run.q (e:=vB) (gv:=vIv) (os_IsWhole _) fun r1 _=>?_
 refine Run.y (gv:=vIv) (fun _=>?_) (fun _=>?_)
 ·refine Run.q (e:=vIv) (gv:=vIv) (os_l07Quarter) fun r2 _=>?_
  exact Run.x 0
 ·refine Run.q (e:=vIv) (gv:=vIv) (os_AtanAt _) fun r3 _=>?_
  refine Run.q (e:=vIv) (gv:=vIv) (os_AtanAt _) fun r4 _=>?_
  refine Run.q (e:=vIv) (gv:=vIv) (os_HullI _ _) fun r5 _=>?_
  exact Run.x 0
end Go.Proofs.YtfhnlkinjbakgaaGreat.Abs
