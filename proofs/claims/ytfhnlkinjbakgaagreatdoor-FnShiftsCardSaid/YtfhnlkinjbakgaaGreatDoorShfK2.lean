/- The program's functions are these; part 2 (written by w.py). -/
import Derived.Test.YtfhnlkinjbakgaaGreatDoorShfE
import Derived.Test.YtfhnlkinjbakgaaGreatDoorShfFa
import Derived.Test.YtfhnlkinjbakgaaGreatDoorShfShM
import Derived.Test.YtfhnlkinjbakgaaGreatDoorShfQpre
import Derived.Test.YtfhnlkinjbakgaaGreatDoorShfK1
set_option linter.unusedVariables false
set_option linter.unusedSimpArgs false
namespace Go.Proofs.YtfhnlkinjbakgaaGreatDoor.Abs
open Go Go.RowKit
theorem os_DivI (a0 : Iv) (a1 : Iv) : Fun Tryz.prog 77 [] #[vIv a0,vIv a1] (vIv (S_DivI a0 a1)) []:=by
 refine Fun.ofH 400 E_ok mixed Tryz.func77 (by kernel_rfl) (by kernel_rfl) ?_
 unfold S_DivI
 refine Run.q (e:=vB) (gv:=vIv) (os_l04Ok _) fun r1 _=>?_
 refine Run.y (gv:=vIv) (fun _=>?_) (fun _=>?_)
 ·refine Run.z [true,true,true,true,true,true,true] ?_
  refine Run.q (e:=vIv) (gv:=vIv) (os_l04Whole) fun r2 _=>?_
  exact Run.x 0
 ·refine Run.z [false] ?_
  refine Run.q (e:=vB) (gv:=vIv) (os_l04Ok _) fun r3 _=>?_
  refine Run.z [false,false] ?_
  refine Run.y (gv:=vIv) (fun _=>?_) (fun _=>?_)
  ·refine Run.z [true,true,true] ?_
   refine Run.q (e:=vIv) (gv:=vIv) (os_l04Whole) fun r4 _=>?_
   exact Run.x 0
  ·refine Run.z [false] ?_
   refine Run.q (e:=vB) (gv:=vIv) (os_l04Has _ _) fun r5 _=>?_
   refine Run.z [false] ?_
   refine Run.y (gv:=vIv) (fun _=>?_) (fun _=>?_)
   ·refine Run.q (e:=vIv) (gv:=vIv) (os_l04Whole) fun r6 _=>?_
    exact Run.x 0
   ·refine Run.u 400 E_ok mixed Tryz.func77 ?_
    refine Run.z [true] ?_
    refine Run.u 400 E_ok mixed Tryz.func77 ?_
    refine Run.z [true,true,true] ?_
    refine Run.q (e:=vT_I_B) (gv:=vIv) (os_l03DivDown _ _) fun r7 _=>?_
    refine Run.z [true,true] ?_
    refine Run.q (e:=vT_I_B) (gv:=vIv) (os_l03DivUp _ _) fun r8 _=>?_
    refine Run.y (gv:=vIv) (fun _=>?_) (fun _=>?_)
    ·refine Run.z [true,true,true] ?_
     refine Run.q (e:=vIv) (gv:=vIv) (os_l04Whole) fun r9 _=>?_
     exact Run.x 0
    ·refine Run.z [false,false] ?_
     refine Run.y (gv:=vIv) (fun _=>?_) (fun _=>?_)
     ·refine Run.q (e:=vIv) (gv:=vIv) (os_l04Whole) fun r10 _=>?_
      exact Run.x 0
     ·refine Run.q (e:=vI) (gv:=vIv) (os_l00Min _ _) fun r11 _=>?_
      refine Run.q (e:=vI) (gv:=vIv) (os_l00Max _ _) fun r12 _=>?_
      refine Run.u 400 E_ok mixed Tryz.func77 ?_
      refine Run.z [true,true,true] ?_
      refine Run.q (e:=vT_I_B) (gv:=vIv) (os_l03DivDown _ _) fun r13 _=>?_
      refine Run.z [true,true] ?_
      refine Run.q (e:=vT_I_B) (gv:=vIv) (os_l03DivUp _ _) fun r14 _=>?_
      refine Run.y (gv:=vIv) (fun _=>?_) (fun _=>?_)
      ·refine Run.z [true,true,true] ?_
       refine Run.q (e:=vIv) (gv:=vIv) (os_l04Whole) fun r15 _=>?_
       exact Run.x 0
      ·refine Run.z [false,false] ?_
       refine Run.y (gv:=vIv) (fun _=>?_) (fun _=>?_)
       ·refine Run.q (e:=vIv) (gv:=vIv) (os_l04Whole) fun r16 _=>?_
        exact Run.x 0
       ·refine Run.q (e:=vI) (gv:=vIv) (os_l00Min _ _) fun r17 _=>?_
        refine Run.q (e:=vI) (gv:=vIv) (os_l00Max _ _) fun r18 _=>?_
        refine Run.u 400 E_ok mixed Tryz.func77 ?_
        refine Run.z [false] ?_
        refine Run.u 400 E_ok mixed Tryz.func77 ?_
        refine Run.z [true] ?_
        refine Run.u 400 E_ok mixed Tryz.func77 ?_
        refine Run.z [true,true,true] ?_
        refine Run.q (e:=vT_I_B) (gv:=vIv) (os_l03DivDown _ _) fun r19 _=>?_
        refine Run.z [true,true] ?_
        refine Run.q (e:=vT_I_B) (gv:=vIv) (os_l03DivUp _ _) fun r20 _=>?_
        refine Run.y (gv:=vIv) (fun _=>?_) (fun _=>?_)
        ·refine Run.z [true,true,true] ?_
         refine Run.q (e:=vIv) (gv:=vIv) (os_l04Whole) fun r21 _=>?_
         exact Run.x 0
        ·refine Run.z [false,false] ?_
         refine Run.y (gv:=vIv) (fun _=>?_) (fun _=>?_)
         ·refine Run.q (e:=vIv) (gv:=vIv) (os_l04Whole) fun r22 _=>?_
          exact Run.x 0
         ·refine Run.q (e:=vI) (gv:=vIv) (os_l00Min _ _) fun r23 _=>?_
          refine Run.q (e:=vI) (gv:=vIv) (os_l00Max _ _) fun r24 _=>?_
          refine Run.u 400 E_ok mixed Tryz.func77 ?_
          refine Run.z [true,true,true] ?_
          refine Run.q (e:=vT_I_B) (gv:=vIv) (os_l03DivDown _ _) fun r25 _=>?_
          refine Run.z [true,true] ?_
          refine Run.q (e:=vT_I_B) (gv:=vIv) (os_l03DivUp _ _) fun r26 _=>?_
          refine Run.y (gv:=vIv) (fun _=>?_) (fun _=>?_)
          ·refine Run.z [true,true,true] ?_
           refine Run.q (e:=vIv) (gv:=vIv) (os_l04Whole) fun r27 _=>?_
           exact Run.x 0
          ·refine Run.z [false,false] ?_
           refine Run.y (gv:=vIv) (fun _=>?_) (fun _=>?_)
           ·refine Run.q (e:=vIv) (gv:=vIv) (os_l04Whole) fun r28 _=>?_
            exact Run.x 0
           ·refine Run.q (e:=vI) (gv:=vIv) (os_l00Min _ _) fun r29 _=>?_
            refine Run.q (e:=vI) (gv:=vIv) (os_l00Max _ _) fun r30 _=>?_
            refine Run.u 400 E_ok mixed Tryz.func77 ?_
            refine Run.z [false] ?_
            refine Run.u 400 E_ok mixed Tryz.func77 ?_
            refine Run.z [false] ?_
            refine Run.q (e:=vIv) (gv:=vIv) (os_l04Make _ _) fun r31 _=>?_
            exact Run.x 0
theorem os_l06Series (a0 : Iv) (a1 : I64) : Fun Tryz.prog 190 [] #[vIv a0,vI a1] (vIv (S_l06Series a0 a1)) []:=by
 refine Fun.ofH 400 E_ok mixed Tryz.func190 (by kernel_rfl) (by kernel_rfl) ?_
 unfold S_l06Series
 refine Run.q (e:=vIv) (gv:=vIv) (os_Integer _) fun r1 _=>?_
 refine Run.u 400 E_ok mixed Tryz.func190 ?_
 refine Run.z [true] ?_
 refine Run.q (e:=vIv) (gv:=vIv) (os_Integer _) fun r2 _=>?_
 refine Run.q (e:=vIv) (gv:=vIv) (os_Integer _) fun r3 _=>?_
 refine Run.q (e:=vIv) (gv:=vIv) (os_DivI _ _) fun r4 _=>?_
 refine Run.q (e:=vIv) (gv:=vIv) (os_MulI _ _) fun r5 _=>?_
 refine Run.q (e:=vIv) (gv:=vIv) (os_SubI _ _) fun r6 _=>?_
 refine Run.u 400 E_ok mixed Tryz.func190 ?_
 refine Run.z [true] ?_
 refine Run.q (e:=vIv) (gv:=vIv) (os_Integer _) fun r7 _=>?_
 refine Run.q (e:=vIv) (gv:=vIv) (os_Integer _) fun r8 _=>?_
 refine Run.q (e:=vIv) (gv:=vIv) (os_DivI _ _) fun r9 _=>?_
 refine Run.q (e:=vIv) (gv:=vIv) (os_MulI _ _) fun r10 _=>?_
 refine Run.q (e:=vIv) (gv:=vIv) (os_SubI _ _) fun r11 _=>?_
 refine Run.u 400 E_ok mixed Tryz.func190 ?_
 refine Run.z [true] ?_
 refine Run.q (e:=vIv) (gv:=vIv) (os_Integer _) fun r12 _=>?_
 refine Run.q (e:=vIv) (gv:=vIv) (os_Integer _) fun r13 _=>?_
 refine Run.q (e:=vIv) (gv:=vIv) (os_DivI _ _) fun r14 _=>?_
 refine Run.q (e:=vIv) (gv:=vIv) (os_MulI _ _) fun r15 _=>?_
 refine Run.q (e:=vIv) (gv:=vIv) (os_SubI _ _) fun r16 _=>?_
 refine Run.u 400 E_ok mixed Tryz.func190 ?_
 refine Run.z [true] ?_
 refine Run.q (e:=vIv) (gv:=vIv) (os_Integer _) fun r17 _=>?_
 refine Run.q (e:=vIv) (gv:=vIv) (os_Integer _) fun r18 _=>?_
 refine Run.q (e:=vIv) (gv:=vIv) (os_DivI _ _) fun r19 _=>?_
 refine Run.q (e:=vIv) (gv:=vIv) (os_MulI _ _) fun r20 _=>?_
 refine Run.q (e:=vIv) (gv:=vIv) (os_SubI _ _) fun r21 _=>?_
 refine Run.u 400 E_ok mixed Tryz.func190 ?_
 refine Run.z [true] ?_
 refine Run.q (e:=vIv) (gv:=vIv) (os_Integer _) fun r22 _=>?_
 refine Run.q (e:=vIv) (gv:=vIv) (os_Integer _) fun r23 _=>?_
 refine Run.q (e:=vIv) (gv:=vIv) (os_DivI _ _) fun r24 _=>?_
 refine Run.q (e:=vIv) (gv:=vIv) (os_MulI _ _) fun r25 _=>?_
 refine Run.q (e:=vIv) (gv:=vIv) (os_SubI _ _) fun r26 _=>?_
 refine Run.u 400 E_ok mixed Tryz.func190 ?_
 refine Run.z [true] ?_
 refine Run.q (e:=vIv) (gv:=vIv) (os_Integer _) fun r27 _=>?_
 refine Run.q (e:=vIv) (gv:=vIv) (os_Integer _) fun r28 _=>?_
 refine Run.q (e:=vIv) (gv:=vIv) (os_DivI _ _) fun r29 _=>?_
 refine Run.q (e:=vIv) (gv:=vIv) (os_MulI _ _) fun r30 _=>?_
 refine Run.q (e:=vIv) (gv:=vIv) (os_SubI _ _) fun r31 _=>?_
 refine Run.u 400 E_ok mixed Tryz.func190 ?_
 refine Run.z [true] ?_
 refine Run.q (e:=vIv) (gv:=vIv) (os_Integer _) fun r32 _=>?_
 refine Run.q (e:=vIv) (gv:=vIv) (os_Integer _) fun r33 _=>?_
 refine Run.q (e:=vIv) (gv:=vIv) (os_DivI _ _) fun r34 _=>?_
 refine Run.q (e:=vIv) (gv:=vIv) (os_MulI _ _) fun r35 _=>?_
 refine Run.q (e:=vIv) (gv:=vIv) (os_SubI _ _) fun r36 _=>?_
 refine Run.u 400 E_ok mixed Tryz.func190 ?_
 refine Run.z [true] ?_
 refine Run.q (e:=vIv) (gv:=vIv) (os_Integer _) fun r37 _=>?_
 refine Run.q (e:=vIv) (gv:=vIv) (os_Integer _) fun r38 _=>?_
 refine Run.q (e:=vIv) (gv:=vIv) (os_DivI _ _) fun r39 _=>?_
 refine Run.q (e:=vIv) (gv:=vIv) (os_MulI _ _) fun r40 _=>?_
 refine Run.q (e:=vIv) (gv:=vIv) (os_SubI _ _) fun r41 _=>?_
 refine Run.u 400 E_ok mixed Tryz.func190 ?_
 refine Run.z [false] ?_
 exact Run.x 0
theorem os_l06Tiny : Fun Tryz.prog 191 [] #[] (vIv (S_l06Tiny)) []:=by
 refine Fun.ofH 400 E_ok mixed Tryz.func191 (by kernel_rfl) (by kernel_rfl) ?_
 unfold S_l06Tiny
 exact Run.x 0
theorem os_AddI (a0 : Iv) (a1 : Iv) : Fun Tryz.prog 46 [] #[vIv a0,vIv a1] (vIv (S_AddI a0 a1)) []:=by
 refine Fun.ofH 400 E_ok mixed Tryz.func46 (by kernel_rfl) (by kernel_rfl) ?_
 unfold S_AddI
 refine Run.q (e:=vB) (gv:=vIv) (os_l04Ok _) fun r1 _=>?_
 refine Run.y (gv:=vIv) (fun _=>?_) (fun _=>?_)
 ·refine Run.z [true,true,true,true] ?_
  refine Run.q (e:=vIv) (gv:=vIv) (os_l04Whole) fun r2 _=>?_
  exact Run.x 0
 ·refine Run.z [false] ?_
  refine Run.q (e:=vB) (gv:=vIv) (os_l04Ok _) fun r3 _=>?_
  refine Run.z [false,false] ?_
  refine Run.y (gv:=vIv) (fun _=>?_) (fun _=>?_)
  ·refine Run.q (e:=vIv) (gv:=vIv) (os_l04Whole) fun r4 _=>?_
   exact Run.x 0
  ·refine Run.q (e:=vIv) (gv:=vIv) (os_l04Make _ _) fun r5 _=>?_
   exact Run.x 0
theorem os_SinSeries (a0 : Iv) : Fun Tryz.prog 164 [] #[vIv a0] (vIv (S_SinSeries a0)) []:=by
 refine Fun.ofH 400 E_ok mixed Tryz.func164 (by kernel_rfl) (by kernel_rfl) ?_
 unfold S_SinSeries
 refine Run.q (e:=vIv) (gv:=vIv) (os_l06Ring) fun r1 _=>?_
 refine Run.q (e:=vB) (gv:=vIv) (os_InsideI _ _) fun r2 _=>?_
 refine Run.y (gv:=vIv) (fun _=>?_) (fun _=>?_)
 ·refine Run.q (e:=vIv) (gv:=vIv) (os_Whole) fun r3 _=>?_
  exact Run.x 0
 ·refine Run.q (e:=vIv) (gv:=vIv) (os_SqrI _) fun r4 _=>?_
  refine Run.q (e:=vIv) (gv:=vIv) (os_l06Series _ _) fun r5 _=>?_
  refine Run.q (e:=vIv) (gv:=vIv) (os_MulI _ _) fun r6 _=>?_
  refine Run.q (e:=vIv) (gv:=vIv) (os_l06Tiny) fun r7 _=>?_
  refine Run.q (e:=vIv) (gv:=vIv) (os_AddI _ _) fun r8 _=>?_
  exact Run.x 0
theorem os_MeetI (a0 : Iv) (a1 : Iv) : Fun Tryz.prog 73 [] #[vIv a0,vIv a1] (vT_Iv_B (S_MeetI a0 a1)) []:=by
 refine Fun.ofH 400 E_ok mixed Tryz.func73 (by kernel_rfl) (by kernel_rfl) ?_
 unfold S_MeetI
 refine Run.q (e:=vB) (gv:=vT_Iv_B) (os_l04Ok _) fun r1 _=>?_
 refine Run.y (gv:=vT_Iv_B) (fun _=>?_) (fun _=>?_)
 ·refine Run.z [true] ?_
  refine Run.q (e:=vB) (gv:=vT_Iv_B) (os_l04Ok _) fun r2 _=>?_
  refine Run.z [true,true] ?_
  refine Run.y (gv:=vT_Iv_B) (fun _=>?_) (fun _=>?_)
  ·refine Run.q (e:=vIv) (gv:=vT_Iv_B) (os_l04Whole) fun r3 _=>?_
   exact Run.x 0
  ·refine Run.q (e:=vB) (gv:=vT_Iv_B) (os_l04Ok _) fun r4 _=>?_
   refine Run.y (gv:=vT_Iv_B) (fun _=>?_) (fun _=>?_)
   ·exact Run.x 0
   ·refine Run.q (e:=vB) (gv:=vT_Iv_B) (os_l04Ok _) fun r5 _=>?_
    refine Run.y (gv:=vT_Iv_B) (fun _=>?_) (fun _=>?_)
    ·exact Run.x 0
    ·refine Run.q (e:=vI) (gv:=vT_Iv_B) (os_l00Max _ _) fun r6 _=>?_
     refine Run.q (e:=vI) (gv:=vT_Iv_B) (os_l00Min _ _) fun r7 _=>?_
     refine Run.y (gv:=vT_Iv_B) (fun _=>?_) (fun _=>?_)
     ·exact Run.x 0
     ·exact Run.x 0
 ·refine Run.z [false,false,false,false] ?_
  refine Run.q (e:=vB) (gv:=vT_Iv_B) (os_l04Ok _) fun r8 _=>?_
  refine Run.y (gv:=vT_Iv_B) (fun _=>?_) (fun _=>?_)
  ·exact Run.x 0
  ·refine Run.q (e:=vB) (gv:=vT_Iv_B) (os_l04Ok _) fun r9 _=>?_
   refine Run.y (gv:=vT_Iv_B) (fun _=>?_) (fun _=>?_)
   ·exact Run.x 0
   ·refine Run.q (e:=vI) (gv:=vT_Iv_B) (os_l00Max _ _) fun r10 _=>?_
    refine Run.q (e:=vI) (gv:=vT_Iv_B) (os_l00Min _ _) fun r11 _=>?_
    refine Run.y (gv:=vT_Iv_B) (fun _=>?_) (fun _=>?_)
    ·exact Run.x 0
    ·exact Run.x 0
theorem os_l06Meet (a0 : Iv) : Fun Tryz.prog 163 [] #[vIv a0] (vIv (S_l06Meet a0)) []:=by
 refine Fun.ofH 400 E_ok mixed Tryz.func163 (by kernel_rfl) (by kernel_rfl) ?_
 unfold S_l06Meet
 refine Run.q (e:=vIv) (gv:=vIv) (os_l06Ring) fun r1 _=>?_
 refine Run.q (e:=vT_Iv_B) (gv:=vIv) (os_MeetI _ _) fun r2 _=>?_
 refine Run.y (gv:=vIv) (fun _=>?_) (fun _=>?_)
 ·refine Run.q (e:=vIv) (gv:=vIv) (os_l06Ring) fun r3 _=>?_
  exact Run.x 0
 ·exact Run.x 0
theorem os_CosSeries (a0 : Iv) : Fun Tryz.prog 165 [] #[vIv a0] (vIv (S_CosSeries a0)) []:=by
 refine Fun.ofH 400 E_ok mixed Tryz.func165 (by kernel_rfl) (by kernel_rfl) ?_
 unfold S_CosSeries
 refine Run.q (e:=vIv) (gv:=vIv) (os_l06Ring) fun r1 _=>?_
 refine Run.q (e:=vB) (gv:=vIv) (os_InsideI _ _) fun r2 _=>?_
 refine Run.y (gv:=vIv) (fun _=>?_) (fun _=>?_)
 ·refine Run.q (e:=vIv) (gv:=vIv) (os_Whole) fun r3 _=>?_
  exact Run.x 0
 ·refine Run.q (e:=vIv) (gv:=vIv) (os_SqrI _) fun r4 _=>?_
  refine Run.q (e:=vIv) (gv:=vIv) (os_l06Series _ _) fun r5 _=>?_
  refine Run.q (e:=vIv) (gv:=vIv) (os_l06Tiny) fun r6 _=>?_
  refine Run.q (e:=vIv) (gv:=vIv) (os_AddI _ _) fun r7 _=>?_
  exact Run.x 0
theorem os_l06At (a0 : I64) (a1 : I64) : Fun Tryz.prog 127 [] #[vI a0,vI a1] (vIv (S_l06At a0 a1)) []:=by
 refine Fun.ofH 400 E_ok mixed Tryz.func127 (by kernel_rfl) (by kernel_rfl) ?_
 unfold S_l06At
 refine Run.q (e:=vB) (gv:=vIv) (os_l06Angle _) fun r1 _=>?_
 refine Run.y (gv:=vIv) (fun _=>?_) (fun _=>?_)
 ·refine Run.q (e:=vIv) (gv:=vIv) (os_l06Ring) fun r2 _=>?_
  exact Run.x 0
 ·refine Run.q (e:=vI) (gv:=vIv) (os_QuarterOf _) fun r3 _=>?_
  refine Run.q (e:=vIv) (gv:=vIv) (os_l05At _) fun r4 _=>?_
  refine Run.q (e:=vIv) (gv:=vIv) (os_TurnI _) fun r5 _=>?_
  refine Run.q (e:=vIv) (gv:=vIv) (os_SubI _ _) fun r6 _=>?_
  refine Run.y (gv:=vIv) (fun _=>?_) (fun _=>?_)
  ·refine Run.q (e:=vIv) (gv:=vIv) (os_SinSeries _) fun r7 _=>?_
   refine Run.q (e:=vIv) (gv:=vIv) (os_l06Meet _) fun r8 _=>?_
   exact Run.x 0
  ·refine Run.y (gv:=vIv) (fun _=>?_) (fun _=>?_)
   ·refine Run.q (e:=vIv) (gv:=vIv) (os_CosSeries _) fun r9 _=>?_
    refine Run.q (e:=vIv) (gv:=vIv) (os_l06Meet _) fun r10 _=>?_
    exact Run.x 0
   ·refine Run.y (gv:=vIv) (fun _=>?_) (fun _=>?_)
    ·refine Run.q (e:=vIv) (gv:=vIv) (os_SinSeries _) fun r11 _=>?_
     refine Run.q (e:=vIv) (gv:=vIv) (os_NegI _) fun r12 _=>?_
     refine Run.q (e:=vIv) (gv:=vIv) (os_l06Meet _) fun r13 _=>?_
     exact Run.x 0
    ·refine Run.q (e:=vIv) (gv:=vIv) (os_CosSeries _) fun r14 _=>?_
     refine Run.q (e:=vIv) (gv:=vIv) (os_NegI _) fun r15 _=>?_
     refine Run.q (e:=vIv) (gv:=vIv) (os_l06Meet _) fun r16 _=>?_
     exact Run.x 0
theorem os_HullI (a0 : Iv) (a1 : Iv) : Fun Tryz.prog 126 [] #[vIv a0,vIv a1] (vIv (S_HullI a0 a1)) []:=by
 refine Fun.ofH 400 E_ok mixed Tryz.func126 (by kernel_rfl) (by kernel_rfl) ?_
 unfold S_HullI
 refine Run.q (e:=vB) (gv:=vIv) (os_l04Ok _) fun r1 _=>?_
 refine Run.y (gv:=vIv) (fun _=>?_) (fun _=>?_)
 ·refine Run.z [true,true,true,true] ?_
  refine Run.q (e:=vIv) (gv:=vIv) (os_l04Whole) fun r2 _=>?_
  exact Run.x 0
 ·refine Run.z [false] ?_
  refine Run.q (e:=vB) (gv:=vIv) (os_l04Ok _) fun r3 _=>?_
  refine Run.z [false,false] ?_
  refine Run.y (gv:=vIv) (fun _=>?_) (fun _=>?_)
  ·refine Run.q (e:=vIv) (gv:=vIv) (os_l04Whole) fun r4 _=>?_
   exact Run.x 0
  ·refine Run.q (e:=vI) (gv:=vIv) (os_l00Min _ _) fun r5 _=>?_
   refine Run.q (e:=vI) (gv:=vIv) (os_l00Max _ _) fun r6 _=>?_
   refine Run.q (e:=vIv) (gv:=vIv) (os_l04Make _ _) fun r7 _=>?_
   exact Run.x 0
theorem os_OverlapI (a0 : Iv) (a1 : Iv) : Fun Tryz.prog 35 [] #[vIv a0,vIv a1] (vB (S_OverlapI a0 a1)) []:=by
 refine Fun.ofH 400 E_ok mixed Tryz.func35 (by kernel_rfl) (by kernel_rfl) ?_
 unfold S_OverlapI
 refine Run.q (e:=vT_Iv_B) (gv:=vB) (os_MeetI _ _) fun r1 _=>?_
 exact Run.x 0
theorem os_l06Over_L0 : ∀ (fu : Nat) (a1 : I64) (a0 : Iv) (x_k : I64) (y_2 : Iv) (hm : (2000 - x_k.val).toNat < fu) (t : Array Value) (ht : maskA t [0,3,7,8,9,10,11,12,13,14,15,16,17,18,19,20,21,22,23,24,25,26,27,28,29,30,31,32,33,34,35,36,37,38,39,40,41,42,43,44,45,46,47,48,49,50,51] = #[undef,.int .i64 a1.val,.pointer (some ⟨0,0,none⟩),undef,.pointer (some ⟨1,0,none⟩),.pointer (some ⟨2,0,none⟩),.int .i64 x_k.val,undef,undef,undef,undef,undef,undef,undef,undef,undef,undef,undef,undef,undef,undef,undef,undef,undef,undef,undef,undef,undef,undef,undef,undef,undef,undef,undef,undef,undef,undef,undef,undef,undef,undef,undef,undef,undef,undef,undef,undef,undef,undef,undef,undef,undef]),Cfg Tryz.prog 90 (loopAt Tryz.f90 0) t [(#[.int .i64 a0.lo.val,.int .i64 a0.hi.val],31),(#[.int .i64 0,.int .i64 0],31),(#[.int .i64 y_2.lo.val,.int .i64 y_2.hi.val],31)] (RvH [] (vIv (S_l06Over_L0 fu a1 a0 x_k y_2))):=by
 intro fu
 induction fu with
 | zero=>intro a1 a0 x_k y_2 hm; exact absurd hm (Nat.not_lt_zero _)
 | succ fu ih=>
  intro a1 a0 x_k y_2 hm t ht
  refine Cfg.round E_ok mixed Tryz.func90 ht fun g=>?_
  unfold S_l06Over_L0
  refine Run.q (e:=vI) (gv:=vIv) (os_QuarterOf _) fun r8 hr8=>?_
  refine Run.y (gv:=vIv) (fun h9=>?_) (fun h9=>?_)
  ·refine Run.q (e:=vIv) (gv:=vIv) (os_TurnI _) fun r10 hr10=>?_
   refine Run.q (e:=vB) (gv:=vIv) (os_OverlapI _ _) fun r11 hr11=>?_
   refine Run.y (gv:=vIv) (fun h12=>?_) (fun h12=>?_)
   ·exact Run.l (by kernel_rfl) (by kernel_rfl) (by kernel_rfl) (by kernel_rfl) (ih a1 a0 (w64 (x_k.val + 1)) y_2 (by have q1:=x_k.lo; first | exact Nat.lt_succ_self _ | (have q2:=spec_quarter_le a0.hi; have q3:=spec_quarter_ge a0.hi; simp only [w64_val,decide_eq_true_eq,decide_eq_false_iff_not, *] at *; omega)))
   ·refine Run.y (gv:=vIv) (fun h13=>?_) (fun h13=>?_)
    ·refine Run.q (e:=vIv) (gv:=vIv) (os_Integer _) fun r14 hr14=>?_
     refine Run.q (e:=vIv) (gv:=vIv) (os_HullI _ _) fun r15 hr15=>?_
     exact Run.l (by kernel_rfl) (by kernel_rfl) (by kernel_rfl) (by kernel_rfl) (ih a1 a0 (w64 (x_k.val + 1)) r15 (by have q1:=x_k.lo; first | exact Nat.lt_succ_self _ | (have q2:=spec_quarter_le a0.hi; have q3:=spec_quarter_ge a0.hi; simp only [w64_val,decide_eq_true_eq,decide_eq_false_iff_not, *] at *; omega)))
    ·refine Run.y (gv:=vIv) (fun h16=>?_) (fun h16=>?_)
     ·refine Run.q (e:=vIv) (gv:=vIv) (os_Integer _) fun r17 hr17=>?_
      refine Run.q (e:=vIv) (gv:=vIv) (os_HullI _ _) fun r18 hr18=>?_
      exact Run.l (by kernel_rfl) (by kernel_rfl) (by kernel_rfl) (by kernel_rfl) (ih a1 a0 (w64 (x_k.val + 1)) r18 (by have q1:=x_k.lo; first | exact Nat.lt_succ_self _ | (have q2:=spec_quarter_le a0.hi; have q3:=spec_quarter_ge a0.hi; simp only [w64_val,decide_eq_true_eq,decide_eq_false_iff_not, *] at *; omega)))
     ·exact Run.l (by kernel_rfl) (by kernel_rfl) (by kernel_rfl) (by kernel_rfl) (ih a1 a0 (w64 (x_k.val + 1)) y_2 (by have q1:=x_k.lo; first | exact Nat.lt_succ_self _ | (have q2:=spec_quarter_le a0.hi; have q3:=spec_quarter_ge a0.hi; simp only [w64_val,decide_eq_true_eq,decide_eq_false_iff_not, *] at *; omega)))
  ·exact Run.x 0
theorem os_l06Over (a0 : Iv) (a1 : I64) : Fun Tryz.prog 90 [] #[vIv a0,vI a1] (vIv (S_l06Over a0 a1)) []:=by
 refine Fun.ofH 400 E_ok mixed Tryz.func90 (by kernel_rfl) (by kernel_rfl) ?_
 unfold S_l06Over
 refine Run.q (e:=vB) (gv:=vIv) (os_l06Fits _) fun r1 hr1=>?_
 refine Run.y (gv:=vIv) (fun h2=>?_) (fun h2=>?_)
 ·refine Run.q (e:=vIv) (gv:=vIv) (os_l06Ring) fun r3 hr3=>?_
  exact Run.x 0
 ·refine Run.q (e:=vIv) (gv:=vIv) (os_l06At _ _) fun r4 hr4=>?_
  refine Run.q (e:=vIv) (gv:=vIv) (os_l06At _ _) fun r5 hr5=>?_
  refine Run.q (e:=vIv) (gv:=vIv) (os_HullI _ _) fun r6 hr6=>?_
  refine Run.q (e:=vI) (gv:=vIv) (os_QuarterOf _) fun r7 hr7=>?_
  exact Run.l (by kernel_rfl) (by kernel_rfl) (by kernel_rfl) (by kernel_rfl) (os_l06Over_L0 ((2000 - (w64 (r7.val - 1)).val).toNat + 1) a1 a0 (w64 (r7.val - 1)) r6 (by exact Nat.lt_succ_self _))
theorem os_SinI (a0 : Iv) : Fun Tryz.prog 51 [] #[vIv a0] (vIv (S_SinI a0)) []:=by
 refine Fun.ofH 400 E_ok mixed Tryz.func51 (by kernel_rfl) (by kernel_rfl) ?_
 unfold S_SinI
 refine Run.q (e:=vIv) (gv:=vIv) (os_l06Over _ _) fun r1 _=>?_
 exact Run.x 0
theorem os_l12W (a0 : El) (a1 : Iv) : Fun Tryz.prog 80 [] #[vEl a0,vIv a1] (vIv (S_l12W a0 a1)) []:=by
 refine Fun.ofH 400 E_ok mixed Tryz.func80 (by kernel_rfl) (by kernel_rfl) ?_
 unfold S_l12W
 refine Run.q (e:=vIv) (gv:=vIv) (os_Integer _) fun r1 _=>?_
 refine Run.q (e:=vIv) (gv:=vIv) (os_EccI _) fun r2 _=>?_
 refine Run.q (e:=vIv) (gv:=vIv) (os_SinI _) fun r3 _=>?_
 refine Run.q (e:=vIv) (gv:=vIv) (os_SqrI _) fun r4 _=>?_
 refine Run.q (e:=vIv) (gv:=vIv) (os_MulI _ _) fun r5 _=>?_
 refine Run.q (e:=vIv) (gv:=vIv) (os_SubI _ _) fun r6 _=>?_
 exact Run.x 0
theorem os_l02Root_L0 : ∀ (fu : Nat) (a0 : Wd) (x_out : U64) (x_i : I64) (q0 : x_i.val ≤ 63) (hm : (x_i.val + 1).toNat < fu) (t : Array Value) (ht : maskA t [0,5,6,7,8,9,10,11,12,13,14,15,16,17,18,19,20,21,22,23,24,25,26,27,28,29,30,31,32,33,34,35,36,37,38,39,40,41,42] = #[undef,.pointer (some ⟨0,0,none⟩),.int .u64 0,.int .u64 x_out.val,.int .i64 x_i.val,undef,undef,undef,undef,undef,undef,undef,undef,undef,undef,undef,undef,undef,undef,undef,undef,undef,undef,undef,undef,undef,undef,undef,undef,undef,undef,undef,undef,undef,undef,undef,undef,undef,undef,undef,undef,undef,undef]),Cfg Tryz.prog 188 (loopAt Tryz.f188 0) t [(#[.int .i64 a0.hi.val,.int .u64 a0.lo.val],126)] (RvH [] (vU (S_l02Root_L0 fu a0 x_out x_i))):=by
 intro fu
 induction fu with
 | zero=>intro a0 x_out x_i q0 hm; exact absurd hm (Nat.not_lt_zero _)
 | succ fu ih=>
  intro a0 x_out x_i q0 hm t ht
  refine Cfg.round E_ok mixed Tryz.func188 ht fun g=>?_
  unfold S_l02Root_L0
  refine Run.y (gv:=vU) (fun h1=>?_) (fun h1=>?_)
  ·refine Run.k (c:=(decide (0 ≤ (wu64 x_i.val).val))) (by kernel_rfl) (by simp only [w64_val,wu64_val,c64_val,cu64_val,decide_eq_true_eq] at *; omega) ?_
   refine Run.q (e:=vT_U_U) (gv:=vU) (os_l02Times _ _) fun r2 hr2=>?_
   refine Run.y (gv:=vU) (fun h3=>?_) (fun h3=>?_)
   ·refine Run.z [true,true,true,true,true,true,true,true] ?_
    exact Run.l (by kernel_rfl) (by kernel_rfl) (by kernel_rfl) (by kernel_rfl) (ih a0 (ior .u64 x_out.val (ishl .u64 1 (wu64 x_i.val).val).val) (w64 (x_i.val - 1)) (by have q1:=x_i.lo; simp only [w64_val,wu64_val,c64_val,cu64_val,decide_eq_true_eq] at *; omega) (by have q1:=x_i.lo; simp only [w64_val,wu64_val,c64_val,cu64_val,decide_eq_true_eq] at *; omega))
   ·refine Run.z [false,false,false,false,false] ?_
    refine Run.y (gv:=vU) (fun h4=>?_) (fun h4=>?_)
    ·refine Run.z [true,true,true,false,true,false] ?_
     refine Run.y (gv:=vU) (fun h5=>?_) (fun h5=>?_)
     ·exact Run.l (by kernel_rfl) (by kernel_rfl) (by kernel_rfl) (by kernel_rfl) (ih a0 (ior .u64 x_out.val (ishl .u64 1 (wu64 x_i.val).val).val) (w64 (x_i.val - 1)) (by have q1:=x_i.lo; simp only [w64_val,wu64_val,c64_val,cu64_val,decide_eq_true_eq] at *; omega) (by have q1:=x_i.lo; simp only [w64_val,wu64_val,c64_val,cu64_val,decide_eq_true_eq] at *; omega))
     ·exact Run.l (by kernel_rfl) (by kernel_rfl) (by kernel_rfl) (by kernel_rfl) (ih a0 x_out (w64 (x_i.val - 1)) (by have q1:=x_i.lo; simp only [w64_val,wu64_val,c64_val,cu64_val,decide_eq_true_eq] at *; omega) (by have q1:=x_i.lo; simp only [w64_val,wu64_val,c64_val,cu64_val,decide_eq_true_eq] at *; omega))
    ·refine Run.z [false,false,false,false,false,false,false] ?_
     exact Run.l (by kernel_rfl) (by kernel_rfl) (by kernel_rfl) (by kernel_rfl) (ih a0 x_out (w64 (x_i.val - 1)) (by have q1:=x_i.lo; simp only [w64_val,wu64_val,c64_val,cu64_val,decide_eq_true_eq] at *; omega) (by have q1:=x_i.lo; simp only [w64_val,wu64_val,c64_val,cu64_val,decide_eq_true_eq] at *; omega))
  ·exact Run.x 0
theorem os_l02Root (a0 : Wd) : Fun Tryz.prog 188 [] #[vWd a0] (vU (S_l02Root a0)) []:=by
 refine Fun.ofH 400 E_ok mixed Tryz.func188 (by kernel_rfl) (by kernel_rfl) ?_
 unfold S_l02Root
 exact Run.l (by kernel_rfl) (by kernel_rfl) (by kernel_rfl) (by kernel_rfl) (os_l02Root_L0 65 a0 (cu64 0) (c64 63) (by decide) (by decide))
theorem os_SqrtFloor (a0 : I64) (a1 : I64) : Fun Tryz.prog 157 [] #[vI a0,vI a1] (vT_I_B (S_SqrtFloor a0 a1)) []:=by
 refine Fun.ofH 400 E_ok mixed Tryz.func157 (by kernel_rfl) (by kernel_rfl) ?_
 unfold S_SqrtFloor
 refine Run.y (gv:=vT_I_B) (fun _=>?_) (fun _=>?_)
 ·refine Run.z [true,true,true] ?_
  exact Run.x 0
 ·refine Run.z [false,false] ?_
  refine Run.y (gv:=vT_I_B) (fun _=>?_) (fun _=>?_)
  ·exact Run.x 0
  ·refine Run.q (e:=vWd) (gv:=vT_I_B) (os_l02Mul _ _) fun r1 _=>?_
   refine Run.q (e:=vU) (gv:=vT_I_B) (os_l02Root _) fun r2 _=>?_
   exact Run.x 0
theorem os_l03SqrtDown (a0 : I64) : Fun Tryz.prog 118 [] #[vI a0] (vT_I_B (S_l03SqrtDown a0)) []:=by
 refine Fun.ofH 400 E_ok mixed Tryz.func118 (by kernel_rfl) (by kernel_rfl) ?_
 unfold S_l03SqrtDown
 refine Run.q (e:=vB) (gv:=vT_I_B) (os_l00In _ _ _) fun r1 _=>?_
 refine Run.y (gv:=vT_I_B) (fun _=>?_) (fun _=>?_)
 ·exact Run.x 0
 ·refine Run.q (e:=vT_I_B) (gv:=vT_I_B) (os_SqrtFloor _ _) fun r2 _=>?_
  exact Run.x 0
theorem os_l03SqrtUp (a0 : I64) : Fun Tryz.prog 119 [] #[vI a0] (vT_I_B (S_l03SqrtUp a0)) []:=by
 refine Fun.ofH 400 E_ok mixed Tryz.func119 (by kernel_rfl) (by kernel_rfl) ?_
 unfold S_l03SqrtUp
 refine Run.q (e:=vT_I_B) (gv:=vT_I_B) (os_l03SqrtDown _) fun r1 _=>?_
 refine Run.y (gv:=vT_I_B) (fun _=>?_) (fun _=>?_)
 ·exact Run.x 0
 ·refine Run.q (e:=vT_I_B) (gv:=vT_I_B) (os_MulFloor _ _ _) fun r2 _=>?_
  refine Run.y (gv:=vT_I_B) (fun _=>?_) (fun _=>?_)
  ·refine Run.z [true,true,true,true,true,true] ?_
   exact Run.x 0
  ·refine Run.z [false,false,false,false,false] ?_
   refine Run.y (gv:=vT_I_B) (fun _=>?_) (fun _=>?_)
   ·exact Run.x 0
   ·exact Run.x 0
theorem os_SqrtI (a0 : Iv) : Fun Tryz.prog 79 [] #[vIv a0] (vIv (S_SqrtI a0)) []:=by
 refine Fun.ofH 400 E_ok mixed Tryz.func79 (by kernel_rfl) (by kernel_rfl) ?_
 unfold S_SqrtI
 refine Run.q (e:=vB) (gv:=vIv) (os_l04Ok _) fun r1 _=>?_
 refine Run.y (gv:=vIv) (fun _=>?_) (fun _=>?_)
 ·refine Run.z [true,true,true,true] ?_
  refine Run.q (e:=vIv) (gv:=vIv) (os_l04Whole) fun r2 _=>?_
  exact Run.x 0
 ·refine Run.z [false,false,false] ?_
  refine Run.y (gv:=vIv) (fun _=>?_) (fun _=>?_)
  ·refine Run.q (e:=vIv) (gv:=vIv) (os_l04Whole) fun r3 _=>?_
   exact Run.x 0
  ·refine Run.q (e:=vT_I_B) (gv:=vIv) (os_l03SqrtDown _) fun r4 _=>?_
   refine Run.q (e:=vT_I_B) (gv:=vIv) (os_l03SqrtUp _) fun r5 _=>?_
   refine Run.q (e:=vIv) (gv:=vIv) (os_l04Make _ _) fun r6 _=>?_
   exact Run.x 0
theorem os_RadiusN (a0 : El) (a1 : Iv) : Fun Tryz.prog 43 [] #[vEl a0,vIv a1] (vIv (S_RadiusN a0 a1)) []:=by
 refine Fun.ofH 400 E_ok mixed Tryz.func43 (by kernel_rfl) (by kernel_rfl) ?_
 unfold S_RadiusN
 refine Run.q (e:=vIv) (gv:=vIv) (os_MajorI _) fun r1 _=>?_
 refine Run.q (e:=vIv) (gv:=vIv) (os_l12W _ _) fun r2 _=>?_
 refine Run.q (e:=vIv) (gv:=vIv) (os_SqrtI _) fun r3 _=>?_
 refine Run.q (e:=vIv) (gv:=vIv) (os_DivI _ _) fun r4 _=>?_
 exact Run.x 0
theorem os_CosI (a0 : Iv) : Fun Tryz.prog 47 [] #[vIv a0] (vIv (S_CosI a0)) []:=by
 refine Fun.ofH 400 E_ok mixed Tryz.func47 (by kernel_rfl) (by kernel_rfl) ?_
 unfold S_CosI
 refine Run.q (e:=vIv) (gv:=vIv) (os_l06Over _ _) fun r1 _=>?_
 exact Run.x 0
theorem os_l14To__pPl (b0 : Pl) (a0 : El) : Fun Tryz.prog 23 [(#[.int .i64 b0.point.lat.val,.int .i64 b0.point.lon.val,.int .i64 b0.height.val],39)] #[vEl a0,.pointer (some ⟨0,0,none⟩)] (vVc (S_l14To__pPl b0 a0)) [(#[.int .i64 b0.point.lat.val,.int .i64 b0.point.lon.val,.int .i64 b0.height.val],39)]:=by
 refine Fun.ofH 400 E_ok mixed Tryz.func23 (by kernel_rfl) (by kernel_rfl) ?_
 unfold S_l14To__pPl
 refine Run.q (e:=vIv) (gv:=vVc) (os_RadiansOf _) fun r1 _=>?_
 refine Run.q (e:=vIv) (gv:=vVc) (os_RadiansOf _) fun r2 _=>?_
 refine Run.q (e:=vIv) (gv:=vVc) (os_RadiusN _ _) fun r3 _=>?_
 refine Run.q (e:=vIv) (gv:=vVc) (os_Quotient _ _) fun r4 _=>?_
 refine Run.q (e:=vIv) (gv:=vVc) (os_AddI _ _) fun r5 _=>?_
 refine Run.q (e:=vIv) (gv:=vVc) (os_CosI _) fun r6 _=>?_
 refine Run.q (e:=vIv) (gv:=vVc) (os_MulI _ _) fun r7 _=>?_
 refine Run.q (e:=vIv) (gv:=vVc) (os_Integer _) fun r8 _=>?_
 refine Run.q (e:=vIv) (gv:=vVc) (os_EccI _) fun r9 _=>?_
 refine Run.q (e:=vIv) (gv:=vVc) (os_SubI _ _) fun r10 _=>?_
 refine Run.q (e:=vIv) (gv:=vVc) (os_MulI _ _) fun r11 _=>?_
 refine Run.q (e:=vIv) (gv:=vVc) (os_AddI _ _) fun r12 _=>?_
 refine Run.q (e:=vIv) (gv:=vVc) (os_SinI _) fun r13 _=>?_
 refine Run.q (e:=vIv) (gv:=vVc) (os_MulI _ _) fun r14 _=>?_
 refine Run.q (e:=vIv) (gv:=vVc) (os_CosI _) fun r15 _=>?_
 refine Run.q (e:=vIv) (gv:=vVc) (os_MulI _ _) fun r16 _=>?_
 refine Run.q (e:=vIv) (gv:=vVc) (os_SinI _) fun r17 _=>?_
 refine Run.q (e:=vIv) (gv:=vVc) (os_MulI _ _) fun r18 _=>?_
 exact Run.x 1
theorem os_ToCartesian (a0 : El) (a1 : Pl) : Fun Tryz.prog 7 [] #[vEl a0,vPl a1] (vT_Vc_I (S_ToCartesian a0 a1)) []:=by
 refine Fun.ofH 400 E_ok mixed Tryz.func7 (by kernel_rfl) (by kernel_rfl) ?_
 unfold S_ToCartesian
 refine Run.q (e:=vB) (gv:=vT_Vc_I) (os_ValidEllipsoid _) fun r1 _=>?_
 refine Run.y (gv:=vT_Vc_I) (fun _=>?_) (fun _=>?_)
 ·refine Run.z [true,true,true] ?_
  exact Run.x 0
 ·refine Run.w (e:=vB) (gv:=vT_Vc_I) [1] (os_l14Ok__pPl _) fun r2 _=>?_
  refine Run.z [false,false] ?_
  refine Run.y (gv:=vT_Vc_I) (fun _=>?_) (fun _=>?_)
  ·exact Run.x 0
  ·refine Run.w (e:=vVc) (gv:=vT_Vc_I) [1] (os_l14To__pPl _ _) fun r3 _=>?_
   exact Run.x 0
theorem os_OverlapV (a0 : Vc) (a1 : Vc) : Fun Tryz.prog 14 [] #[vVc a0,vVc a1] (vB (S_OverlapV a0 a1)) []:=by
 refine Fun.ofH 400 E_ok mixed Tryz.func14 (by kernel_rfl) (by kernel_rfl) ?_
 unfold S_OverlapV
 refine Run.q (e:=vB) (gv:=vB) (os_OverlapI _ _) fun r1 _=>?_
 refine Run.y (gv:=vB) (fun _=>?_) (fun _=>?_)
 ·refine Run.z [true,true,true,true] ?_
  refine Run.q (e:=vB) (gv:=vB) (os_OverlapI _ _) fun r2 _=>?_
  refine Run.z [true] ?_
  refine Run.y (gv:=vB) (fun _=>?_) (fun _=>?_)
  ·refine Run.z [true,true,true,true] ?_
   refine Run.q (e:=vB) (gv:=vB) (os_OverlapI _ _) fun r3 _=>?_
   refine Run.z [true] ?_
   exact Run.x 0
  ·refine Run.z [false,false,false,false,false] ?_
   exact Run.x 0
 ·refine Run.z [false,false,false,false,false,false,false,false,false,false,false] ?_
  exact Run.x 0
theorem os_l00From_n : FunS Tryz.prog 17 [] [] #[(.slice none 0 0)] (fun v Y=>v = .pointer (some ⟨0,0,none⟩) ∧ Y = [srcB 84 (.slice none 0 0) (c64 0) (cu64 0)]):=Sourced.none (by decide) os_l00Sourced
theorem os_l00Src_next__src_n (b1 : Src) (ps : 0 ≤ b1.ix.val ∧ b1.ix.val + 1 ≤ 1000000000) : FunS Tryz.prog 38 [] [srcB 84 (.slice none 0 0) b1.ix b1.sd] #[.pointer (some ⟨0,0,none⟩)] (Drew vI 84 (.slice none 0 0) b1.ix.val (b1.ix.val + 1) (S_l00Src_next__src Cd.nil b1)):=by
 refine FunS.drew (fun _ _=>rfl) rfl (by kernel_rfl) (FunR.of 400 E_ok mixed Tryz.func38 (by kernel_rfl) ?_)
 show Run _ _ ((RD [] vI 84 (.slice none 0 0) b1.ix.val (b1.ix.val + 1)) (S_l00Src_next__src Cd.nil b1)) _
 unfold S_l00Src_next__src
 refine Run.gn (Rg:=(RD [] vI 84 (.slice none 0 0) b1.ix.val (b1.ix.val + 1))) (c:=(decide (b1.ix.val < (((Cd.nil.L.length : Nat) : Int))))) (by kernel_rfl) (by refine decide_eq_false ?_; show ¬ (b1.ix.val < 0); omega) ?_
 refine Run.gy (Rg:=(RD [] vI 84 (.slice none 0 0) b1.ix.val (b1.ix.val + 1))) (fun h1=>?_) (fun h1=>?_)
 ·exact Run.dr (by kernel_rfl) (by kernel_rfl) (by first | omega | (simp only [w64_val,c64_val] at *; omega))
 ·refine Run.z [true] ?_
  exact Run.dr (by kernel_rfl) (by kernel_rfl) (by first | omega | (simp only [w64_val,c64_val] at *; omega))
theorem os_l00Src_pick__src_n (b1 : Src) (a0 : I64) (ps : 0 ≤ b1.ix.val ∧ b1.ix.val + 2 ≤ 1000000000) : FunS Tryz.prog 19 [] [srcB 84 (.slice none 0 0) b1.ix b1.sd] #[.pointer (some ⟨0,0,none⟩),vI a0] (Drew vI 84 (.slice none 0 0) b1.ix.val (b1.ix.val + 2) (S_l00Src_pick__src Cd.nil b1 a0)):=by
 refine FunS.drew (fun _ _=>rfl) rfl (by kernel_rfl) (FunR.of 400 E_ok mixed Tryz.func19 (by kernel_rfl) ?_)
 show Run _ _ ((RD [] vI 84 (.slice none 0 0) b1.ix.val (b1.ix.val + 2)) (S_l00Src_pick__src Cd.nil b1 a0)) _
 unfold S_l00Src_pick__src
 refine Run.gy (Rg:=(RD [] vI 84 (.slice none 0 0) b1.ix.val (b1.ix.val + 2))) (fun h1=>?_) (fun h1=>?_)
 ·exact Run.dr (by kernel_rfl) (by kernel_rfl) (by first | omega | (simp only [w64_val,c64_val] at *; omega))
 ·refine Run.cw (e:=vI) (Rg:=(RD [] vI 84 (.slice none 0 0) b1.ix.val (b1.ix.val + 2))) [] 0 (os_l00Src_next__src_n _ (by first | omega | (simp only [w64_val,c64_val] at *; omega))) rfl fun r2 hr2 kr2=>?_
  refine Run.gy (Rg:=(RD [] vI 84 (.slice none 0 0) b1.ix.val (b1.ix.val + 2))) (fun h3=>?_) (fun h3=>?_)
  ·refine Run.cw (e:=vI) (Rg:=(RD [] vI 84 (.slice none 0 0) b1.ix.val (b1.ix.val + 2))) [] 0 (os_l00Src_next__src_n _ (by first | omega | (simp only [w64_val,c64_val] at *; omega))) rfl fun r4 hr4 kr4=>?_
   refine Run.k (c:=(decide (a0.val ≠ 0))) (by kernel_rfl) (by simp only [w64_val,wu64_val,c64_val,cu64_val,decide_eq_true_eq,decide_eq_false_iff_not,cond_true,cond_false] at *; omega) ?_
   exact Run.dr (by kernel_rfl) (by kernel_rfl) (by first | omega | (simp only [w64_val,c64_val] at *; omega))
  ·refine Run.k (c:=(decide (a0.val ≠ 0))) (by kernel_rfl) (by simp only [w64_val,wu64_val,c64_val,cu64_val,decide_eq_true_eq,decide_eq_false_iff_not,cond_true,cond_false] at *; omega) ?_
   exact Run.dr (by kernel_rfl) (by kernel_rfl) (by first | omega | (simp only [w64_val,c64_val] at *; omega))
theorem os_E8Ellipsoid_n : Fun Tryz.prog 6 [] #[.slice none 0 0] (vEl (S_E8Ellipsoid Cd.nil)) []:=by
 refine Fun.ofH 400 E_ok mixed Tryz.func6 (by kernel_rfl) (by kernel_rfl) ?_
 unfold S_E8Ellipsoid
 refine Run.cf [] os_l00From_n rfl ?_
 refine Run.cw (e:=vI) (Rg:=(fun b=>RvH [] (vEl b))) [] 1 (os_l00Src_pick__src_n _ _ (by first | omega | (simp only [w64_val,c64_val] at *; omega))) rfl fun r1 hr1 kr1=>?_
 refine Run.y (gv:=vEl) (fun h2=>?_) (fun h2=>?_)
 ·exact Run.x 0
 ·refine Run.y (gv:=vEl) (fun h3=>?_) (fun h3=>?_)
  ·exact Run.x 0
  ·refine Run.y (gv:=vEl) (fun h4=>?_) (fun h4=>?_)
   ·refine Run.cw (e:=vI) (Rg:=(fun b=>RvH [] (vEl b))) [] 1 (os_l00Src_pick__src_n _ _ (by first | omega | (simp only [w64_val,c64_val] at *; omega))) rfl fun r5 hr5 kr5=>?_
    refine Run.cw (e:=vI) (Rg:=(fun b=>RvH [] (vEl b))) [] 1 (os_l00Src_pick__src_n _ _ (by first | omega | (simp only [w64_val,c64_val] at *; omega))) rfl fun r6 hr6 kr6=>?_
    refine Run.cw (e:=vI) (Rg:=(fun b=>RvH [] (vEl b))) [] 1 (os_l00Src_pick__src_n _ _ (by first | omega | (simp only [w64_val,c64_val] at *; omega))) rfl fun r7 hr7 kr7=>?_
    exact Run.x 0
   ·refine Run.q (e:=vEl) (gv:=vEl) (os_l12Wgs) fun r8 hr8=>?_
    exact Run.x 0
theorem os_l00Src_one__src_n (b1 : Src) (a0 : I64) (ps : 0 ≤ b1.ix.val ∧ b1.ix.val + 2 ≤ 1000000000) : FunS Tryz.prog 53 [] [srcB 84 (.slice none 0 0) b1.ix b1.sd] #[.pointer (some ⟨0,0,none⟩),vI a0] (Drew vB 84 (.slice none 0 0) b1.ix.val (b1.ix.val + 2) (S_l00Src_one__src Cd.nil b1 a0)):=by
 refine FunS.drew (fun _ _=>rfl) rfl (by kernel_rfl) (FunR.of 400 E_ok mixed Tryz.func53 (by kernel_rfl) ?_)
 show Run _ _ ((RD [] vB 84 (.slice none 0 0) b1.ix.val (b1.ix.val + 2)) (S_l00Src_one__src Cd.nil b1 a0)) _
 unfold S_l00Src_one__src
 refine Run.cw (e:=vI) (Rg:=(RD [] vB 84 (.slice none 0 0) b1.ix.val (b1.ix.val + 2))) [] 0 (os_l00Src_pick__src_n _ _ (by first | omega | (simp only [w64_val,c64_val] at *; omega))) rfl fun r1 hr1 kr1=>?_
 exact Run.dr (by kernel_rfl) (by kernel_rfl) (by first | omega | (simp only [w64_val,c64_val] at *; omega))
theorem os_l00Src_among__src__s4_n (b1_0 : I64) (b1_1 : I64) (b1_2 : I64) (b1_3 : I64) (b2 : Src) (ps : 0 ≤ b2.ix.val ∧ b2.ix.val + 2 ≤ 1000000000) : FunS Tryz.prog 37 [(#[.int .i64 b1_0.val,.int .i64 b1_1.val,.int .i64 b1_2.val,.int .i64 b1_3.val],2)] [srcB 84 (.slice none 0 0) b2.ix b2.sd] #[.pointer (some ⟨1,0,none⟩),.slice (some ⟨0,0,none⟩) 4 4] (Drew vI 84 (.slice none 0 0) b2.ix.val (b2.ix.val + 2) (S_l00Src_among__src__s4 Cd.nil b1_0 b1_1 b1_2 b1_3 b2)):=by
 refine FunS.marks (args:=#[.pointer (some ⟨1,0,none⟩),.slice (some ⟨0,0,some 0⟩) 4 4]) (by kernel_rfl) ?_
 refine FunS.drew (fun _ _=>rfl) (allc (by kernel_rfl) rfl) (by kernel_rfl) (FunR.of 400 E_ok mixed Tryz.func37 (by kernel_rfl) ?_)
 show Run _ _ ((RD [(#[.int .i64 b1_0.val,.int .i64 b1_1.val,.int .i64 b1_2.val,.int .i64 b1_3.val],2)] vI 84 (.slice none 0 0) b2.ix.val (b2.ix.val + 2)) (S_l00Src_among__src__s4 Cd.nil b1_0 b1_1 b1_2 b1_3 b2)) _
 unfold S_l00Src_among__src__s4
 refine Run.cw (e:=vI) (Rg:=(RD [(#[.int .i64 b1_0.val,.int .i64 b1_1.val,.int .i64 b1_2.val,.int .i64 b1_3.val],2)] vI 84 (.slice none 0 0) b2.ix.val (b2.ix.val + 2))) [] 1 (os_l00Src_pick__src_n _ _ (by first | omega | (simp only [w64_val,c64_val] at *; omega))) rfl fun r1 hr1 kr1=>?_
 refine Run.k (c:=(decide (0 ≤ r1.1.val ∧ r1.1.val < 4))) (by kernel_rfl) (by rw [hr1]; first | exact decide_eq_true ⟨(pick_range _ _ _).1,(pick_range _ _ _).2 (by decide)⟩ | exact ⟨(pick_range _ _ _).1,(pick_range _ _ _).2 (by decide)⟩) ?_
 refine Run.ld (by kernel_rfl) (listAt_ok (L:=[b1_0,b1_1,b1_2,b1_3]) (pad:=[]) (i:=r1.1) (by rw [hr1]; first | exact decide_eq_true ⟨(pick_range _ _ _).1,(pick_range _ _ _).2 (by decide)⟩ | exact ⟨(pick_range _ _ _).1,(pick_range _ _ _).2 (by decide)⟩)) ?_
 exact Run.dr (by kernel_rfl) (by kernel_rfl) (by first | omega | (simp only [w64_val,c64_val] at *; omega))
theorem os_l05Number__src_n (b1 : Src) (a0 : I64) (p0 : 0 ≤ a0.val) (p1 : a0.val < 9223372036854775807) (ps : 0 ≤ b1.ix.val ∧ b1.ix.val + 13 ≤ 1000000000) : FunS Tryz.prog 25 [] [srcB 84 (.slice none 0 0) b1.ix b1.sd] #[.pointer (some ⟨0,0,none⟩),vI a0] (Drew vI 84 (.slice none 0 0) b1.ix.val (b1.ix.val + 13) (S_l05Number__src Cd.nil b1 a0)):=by
 refine FunS.drew (fun _ _=>rfl) rfl (by kernel_rfl) (FunR.of 400 E_ok mixed Tryz.func25 (by kernel_rfl) ?_)
 show Run _ _ ((RD [] vI 84 (.slice none 0 0) b1.ix.val (b1.ix.val + 13)) (S_l05Number__src Cd.nil b1 a0)) _
 unfold S_l05Number__src
 refine Run.u 400 E_ok mixed Tryz.func25 ?_
 refine Run.z [true,true] ?_
 refine Run.cw (e:=vI) (Rg:=(RD [] vI 84 (.slice none 0 0) b1.ix.val (b1.ix.val + 13))) [] 0 (os_l00Src_next__src_n _ (by first | omega | (simp only [w64_val,c64_val] at *; omega))) rfl fun r1 hr1 kr1=>?_
 refine Run.u 400 E_ok mixed Tryz.func25 ?_
 refine Run.z [true,true] ?_
 refine Run.cw (e:=vI) (Rg:=(RD [] vI 84 (.slice none 0 0) b1.ix.val (b1.ix.val + 13))) [] 0 (os_l00Src_next__src_n _ (by first | omega | (simp only [w64_val,c64_val] at *; omega))) rfl fun r2 hr2 kr2=>?_
 refine Run.u 400 E_ok mixed Tryz.func25 ?_
 refine Run.z [true,true] ?_
 refine Run.cw (e:=vI) (Rg:=(RD [] vI 84 (.slice none 0 0) b1.ix.val (b1.ix.val + 13))) [] 0 (os_l00Src_next__src_n _ (by first | omega | (simp only [w64_val,c64_val] at *; omega))) rfl fun r3 hr3 kr3=>?_
 refine Run.u 400 E_ok mixed Tryz.func25 ?_
 refine Run.z [true,true] ?_
 refine Run.cw (e:=vI) (Rg:=(RD [] vI 84 (.slice none 0 0) b1.ix.val (b1.ix.val + 13))) [] 0 (os_l00Src_next__src_n _ (by first | omega | (simp only [w64_val,c64_val] at *; omega))) rfl fun r4 hr4 kr4=>?_
 refine Run.u 400 E_ok mixed Tryz.func25 ?_
 refine Run.z [true,true] ?_
 refine Run.cw (e:=vI) (Rg:=(RD [] vI 84 (.slice none 0 0) b1.ix.val (b1.ix.val + 13))) [] 0 (os_l00Src_next__src_n _ (by first | omega | (simp only [w64_val,c64_val] at *; omega))) rfl fun r5 hr5 kr5=>?_
 refine Run.u 400 E_ok mixed Tryz.func25 ?_
 refine Run.z [true,true] ?_
 refine Run.cw (e:=vI) (Rg:=(RD [] vI 84 (.slice none 0 0) b1.ix.val (b1.ix.val + 13))) [] 0 (os_l00Src_next__src_n _ (by first | omega | (simp only [w64_val,c64_val] at *; omega))) rfl fun r6 hr6 kr6=>?_
 refine Run.u 400 E_ok mixed Tryz.func25 ?_
 refine Run.z [true,true] ?_
 refine Run.cw (e:=vI) (Rg:=(RD [] vI 84 (.slice none 0 0) b1.ix.val (b1.ix.val + 13))) [] 0 (os_l00Src_next__src_n _ (by first | omega | (simp only [w64_val,c64_val] at *; omega))) rfl fun r7 hr7 kr7=>?_
 refine Run.u 400 E_ok mixed Tryz.func25 ?_
 refine Run.z [false] ?_
 refine Run.k (c:=(decide ((w64 (a0.val + 1)).val ≠ 0))) (by kernel_rfl) (by simp only [w64_val,wu64_val,c64_val,cu64_val,decide_eq_true_eq,decide_eq_false_iff_not,cond_true,cond_false] at *; omega) ?_
 refine Run.cw (e:=vI) (Rg:=(RD [] vI 84 (.slice none 0 0) b1.ix.val (b1.ix.val + 13))) [] 0 (os_l00Src_pick__src_n _ _ (by first | omega | (simp only [w64_val,c64_val] at *; omega))) rfl fun r8 hr8 kr8=>?_
 refine Run.gy (Rg:=(RD [] vI 84 (.slice none 0 0) b1.ix.val (b1.ix.val + 13))) (fun h9=>?_) (fun h9=>?_)
 ·refine Run.cw (e:=vI) (Rg:=(RD [] vI 84 (.slice none 0 0) b1.ix.val (b1.ix.val + 13))) [] 0 (os_l00Src_pick__src_n _ _ (by first | omega | (simp only [w64_val,c64_val] at *; omega))) rfl fun r10 hr10 kr10=>?_
  refine Run.k (c:=(decide (0 ≤ (wu64 r10.1.val).val))) (by kernel_rfl) (by simp only [w64_val,wu64_val,c64_val,cu64_val,decide_eq_true_eq,decide_eq_false_iff_not,cond_true,cond_false] at *; omega) ?_
  refine Run.cw (e:=vB) (Rg:=(RD [] vI 84 (.slice none 0 0) b1.ix.val (b1.ix.val + 13))) [] 0 (os_l00Src_one__src_n _ _ (by first | omega | (simp only [w64_val,c64_val] at *; omega))) rfl fun r11 hr11 kr11=>?_
  refine Run.gy (Rg:=(RD [] vI 84 (.slice none 0 0) b1.ix.val (b1.ix.val + 13))) (fun h12=>?_) (fun h12=>?_)
  ·exact Run.dr (by kernel_rfl) (by kernel_rfl) (by first | omega | (simp only [w64_val,c64_val] at *; omega))
  ·exact Run.dr (by kernel_rfl) (by kernel_rfl) (by first | omega | (simp only [w64_val,c64_val] at *; omega))
 ·refine Run.gy (Rg:=(RD [] vI 84 (.slice none 0 0) b1.ix.val (b1.ix.val + 13))) (fun h13=>?_) (fun h13=>?_)
  ·refine Run.z [true] ?_
   refine Run.cw (e:=vI) (Rg:=(RD [] vI 84 (.slice none 0 0) b1.ix.val (b1.ix.val + 13))) [1] 0 (os_l00Src_among__src__s4_n _ _ _ _ _ (by first | omega | (simp only [w64_val,c64_val] at *; omega))) (allc (by kernel_rfl) rfl) fun r14 hr14 kr14=>?_
   refine Run.cw (e:=vB) (Rg:=(RD [] vI 84 (.slice none 0 0) b1.ix.val (b1.ix.val + 13))) [] 0 (os_l00Src_one__src_n _ _ (by first | omega | (simp only [w64_val,c64_val] at *; omega))) rfl fun r15 hr15 kr15=>?_
   refine Run.gy (Rg:=(RD [] vI 84 (.slice none 0 0) b1.ix.val (b1.ix.val + 13))) (fun h16=>?_) (fun h16=>?_)
   ·exact Run.dr (by kernel_rfl) (by kernel_rfl) (by first | omega | (simp only [w64_val,c64_val] at *; omega))
   ·exact Run.dr (by kernel_rfl) (by kernel_rfl) (by first | omega | (simp only [w64_val,c64_val] at *; omega))
  ·refine Run.cw (e:=vB) (Rg:=(RD [] vI 84 (.slice none 0 0) b1.ix.val (b1.ix.val + 13))) [] 0 (os_l00Src_one__src_n _ _ (by first | omega | (simp only [w64_val,c64_val] at *; omega))) rfl fun r17 hr17 kr17=>?_
   refine Run.gy (Rg:=(RD [] vI 84 (.slice none 0 0) b1.ix.val (b1.ix.val + 13))) (fun h18=>?_) (fun h18=>?_)
   ·exact Run.dr (by kernel_rfl) (by kernel_rfl) (by first | omega | (simp only [w64_val,c64_val] at *; omega))
   ·exact Run.dr (by kernel_rfl) (by kernel_rfl) (by first | omega | (simp only [w64_val,c64_val] at *; omega))
theorem os_l00Src_among__src__s5_n (b1_0 : I64) (b1_1 : I64) (b1_2 : I64) (b1_3 : I64) (b1_4 : I64) (b2 : Src) (ps : 0 ≤ b2.ix.val ∧ b2.ix.val + 2 ≤ 1000000000) : FunS Tryz.prog 37 [(#[.int .i64 b1_0.val,.int .i64 b1_1.val,.int .i64 b1_2.val,.int .i64 b1_3.val,.int .i64 b1_4.val],2)] [srcB 84 (.slice none 0 0) b2.ix b2.sd] #[.pointer (some ⟨1,0,none⟩),.slice (some ⟨0,0,none⟩) 5 5] (Drew vI 84 (.slice none 0 0) b2.ix.val (b2.ix.val + 2) (S_l00Src_among__src__s5 Cd.nil b1_0 b1_1 b1_2 b1_3 b1_4 b2)):=by
 refine FunS.marks (args:=#[.pointer (some ⟨1,0,none⟩),.slice (some ⟨0,0,some 0⟩) 5 5]) (by kernel_rfl) ?_
 refine FunS.drew (fun _ _=>rfl) (allc (by kernel_rfl) rfl) (by kernel_rfl) (FunR.of 400 E_ok mixed Tryz.func37 (by kernel_rfl) ?_)
 show Run _ _ ((RD [(#[.int .i64 b1_0.val,.int .i64 b1_1.val,.int .i64 b1_2.val,.int .i64 b1_3.val,.int .i64 b1_4.val],2)] vI 84 (.slice none 0 0) b2.ix.val (b2.ix.val + 2)) (S_l00Src_among__src__s5 Cd.nil b1_0 b1_1 b1_2 b1_3 b1_4 b2)) _
 unfold S_l00Src_among__src__s5
 refine Run.cw (e:=vI) (Rg:=(RD [(#[.int .i64 b1_0.val,.int .i64 b1_1.val,.int .i64 b1_2.val,.int .i64 b1_3.val,.int .i64 b1_4.val],2)] vI 84 (.slice none 0 0) b2.ix.val (b2.ix.val + 2))) [] 1 (os_l00Src_pick__src_n _ _ (by first | omega | (simp only [w64_val,c64_val] at *; omega))) rfl fun r1 hr1 kr1=>?_
 refine Run.k (c:=(decide (0 ≤ r1.1.val ∧ r1.1.val < 5))) (by kernel_rfl) (by rw [hr1]; first | exact decide_eq_true ⟨(pick_range _ _ _).1,(pick_range _ _ _).2 (by decide)⟩ | exact ⟨(pick_range _ _ _).1,(pick_range _ _ _).2 (by decide)⟩) ?_
 refine Run.ld (by kernel_rfl) (listAt_ok (L:=[b1_0,b1_1,b1_2,b1_3,b1_4]) (pad:=[]) (i:=r1.1) (by rw [hr1]; first | exact decide_eq_true ⟨(pick_range _ _ _).1,(pick_range _ _ _).2 (by decide)⟩ | exact ⟨(pick_range _ _ _).1,(pick_range _ _ _).2 (by decide)⟩)) ?_
 exact Run.dr (by kernel_rfl) (by kernel_rfl) (by first | omega | (simp only [w64_val,c64_val] at *; omega))
theorem os_l11Draw__src_n (b1 : Src) (ps : 0 ≤ b1.ix.val ∧ b1.ix.val + 30 ≤ 1000000000) : FunS Tryz.prog 24 [] [srcB 84 (.slice none 0 0) b1.ix b1.sd] #[.pointer (some ⟨0,0,none⟩)] (Drew vPt 84 (.slice none 0 0) b1.ix.val (b1.ix.val + 30) (S_l11Draw__src Cd.nil b1)):=by
 refine FunS.drew (fun _ _=>rfl) rfl (by kernel_rfl) (FunR.of 400 E_ok mixed Tryz.func24 (by kernel_rfl) ?_)
 show Run _ _ ((RD [] vPt 84 (.slice none 0 0) b1.ix.val (b1.ix.val + 30)) (S_l11Draw__src Cd.nil b1)) _
 unfold S_l11Draw__src
 refine Run.cw (e:=vI) (Rg:=(RD [] vPt 84 (.slice none 0 0) b1.ix.val (b1.ix.val + 30))) [] 0 (os_l05Number__src_n _ _ (by simp only [w64_val,wu64_val,c64_val,cu64_val,decide_eq_true_eq,decide_eq_false_iff_not,cond_true,cond_false] at *; omega) (by simp only [w64_val,wu64_val,c64_val,cu64_val,decide_eq_true_eq,decide_eq_false_iff_not,cond_true,cond_false] at *; omega) (by first | omega | (simp only [w64_val,c64_val] at *; omega))) rfl fun r1 hr1 kr1=>?_
 refine Run.cw (e:=vI) (Rg:=(RD [] vPt 84 (.slice none 0 0) b1.ix.val (b1.ix.val + 30))) [] 0 (os_l05Number__src_n _ _ (by simp only [w64_val,wu64_val,c64_val,cu64_val,decide_eq_true_eq,decide_eq_false_iff_not,cond_true,cond_false] at *; omega) (by simp only [w64_val,wu64_val,c64_val,cu64_val,decide_eq_true_eq,decide_eq_false_iff_not,cond_true,cond_false] at *; omega) (by first | omega | (simp only [w64_val,c64_val] at *; omega))) rfl fun r2 hr2 kr2=>?_
 refine Run.gq (Rg:=(RD [] vPt 84 (.slice none 0 0) b1.ix.val (b1.ix.val + 30))) (e:=vI) (os_l11Wrap _) fun r3 hr3=>?_
 refine Run.cw (e:=vI) (Rg:=(RD [] vPt 84 (.slice none 0 0) b1.ix.val (b1.ix.val + 30))) [] 0 (os_l00Src_pick__src_n _ _ (by first | omega | (simp only [w64_val,c64_val] at *; omega))) rfl fun r4 hr4 kr4=>?_
 refine Run.gy (Rg:=(RD [] vPt 84 (.slice none 0 0) b1.ix.val (b1.ix.val + 30))) (fun h5=>?_) (fun h5=>?_)
 ·refine Run.cw (e:=vI) (Rg:=(RD [] vPt 84 (.slice none 0 0) b1.ix.val (b1.ix.val + 30))) [3] 0 (os_l00Src_among__src__s4_n _ _ _ _ _ (by first | omega | (simp only [w64_val,c64_val] at *; omega))) (allc (by kernel_rfl) rfl) fun r6 hr6 kr6=>?_
  exact Run.dr (by kernel_rfl) (by kernel_rfl) (by first | omega | (simp only [w64_val,c64_val] at *; omega))
 ·refine Run.gy (Rg:=(RD [] vPt 84 (.slice none 0 0) b1.ix.val (b1.ix.val + 30))) (fun h7=>?_) (fun h7=>?_)
  ·refine Run.cw (e:=vI) (Rg:=(RD [] vPt 84 (.slice none 0 0) b1.ix.val (b1.ix.val + 30))) [3] 0 (os_l00Src_among__src__s5_n _ _ _ _ _ _ (by first | omega | (simp only [w64_val,c64_val] at *; omega))) (allc (by kernel_rfl) rfl) fun r8 hr8 kr8=>?_
   exact Run.dr (by kernel_rfl) (by kernel_rfl) (by first | omega | (simp only [w64_val,c64_val] at *; omega))
  ·exact Run.dr (by kernel_rfl) (by kernel_rfl) (by first | omega | (simp only [w64_val,c64_val] at *; omega))
theorem os_E8Place_n : Fun Tryz.prog 8 [] #[.slice none 0 0] (vPl (S_E8Place Cd.nil)) []:=by
 refine Fun.ofH 400 E_ok mixed Tryz.func8 (by kernel_rfl) (by kernel_rfl) ?_
 unfold S_E8Place
 refine Run.cf [] os_l00From_n rfl ?_
 refine Run.cw (e:=vPt) (Rg:=(fun b=>RvH [] (vPl b))) [] 1 (os_l11Draw__src_n _ (by first | omega | (simp only [w64_val,c64_val] at *; omega))) rfl fun r1 hr1 kr1=>?_
 refine Run.cw (e:=vI) (Rg:=(fun b=>RvH [] (vPl b))) [] 1 (os_l05Number__src_n _ _ (by simp only [w64_val,wu64_val,c64_val,cu64_val,decide_eq_true_eq,decide_eq_false_iff_not,cond_true,cond_false] at *; omega) (by simp only [w64_val,wu64_val,c64_val,cu64_val,decide_eq_true_eq,decide_eq_false_iff_not,cond_true,cond_false] at *; omega) (by first | omega | (simp only [w64_val,c64_val] at *; omega))) rfl fun r2 hr2 kr2=>?_
 refine Run.y (gv:=vPl) (fun h3=>?_) (fun h3=>?_)
 ·exact Run.x 0
 ·exact Run.x 0
theorem os_l00Src_among__src__s2_n (b1_0 : I64) (b1_1 : I64) (b2 : Src) (ps : 0 ≤ b2.ix.val ∧ b2.ix.val + 2 ≤ 1000000000) : FunS Tryz.prog 37 [(#[.int .i64 b1_0.val,.int .i64 b1_1.val],2)] [srcB 84 (.slice none 0 0) b2.ix b2.sd] #[.pointer (some ⟨1,0,none⟩),.slice (some ⟨0,0,none⟩) 2 2] (Drew vI 84 (.slice none 0 0) b2.ix.val (b2.ix.val + 2) (S_l00Src_among__src__s2 Cd.nil b1_0 b1_1 b2)):=by
 refine FunS.marks (args:=#[.pointer (some ⟨1,0,none⟩),.slice (some ⟨0,0,some 0⟩) 2 2]) (by kernel_rfl) ?_
 refine FunS.drew (fun _ _=>rfl) (allc (by kernel_rfl) rfl) (by kernel_rfl) (FunR.of 400 E_ok mixed Tryz.func37 (by kernel_rfl) ?_)
 show Run _ _ ((RD [(#[.int .i64 b1_0.val,.int .i64 b1_1.val],2)] vI 84 (.slice none 0 0) b2.ix.val (b2.ix.val + 2)) (S_l00Src_among__src__s2 Cd.nil b1_0 b1_1 b2)) _
 unfold S_l00Src_among__src__s2
 refine Run.cw (e:=vI) (Rg:=(RD [(#[.int .i64 b1_0.val,.int .i64 b1_1.val],2)] vI 84 (.slice none 0 0) b2.ix.val (b2.ix.val + 2))) [] 1 (os_l00Src_pick__src_n _ _ (by first | omega | (simp only [w64_val,c64_val] at *; omega))) rfl fun r1 hr1 kr1=>?_
 refine Run.k (c:=(decide (0 ≤ r1.1.val ∧ r1.1.val < 2))) (by kernel_rfl) (by rw [hr1]; first | exact decide_eq_true ⟨(pick_range _ _ _).1,(pick_range _ _ _).2 (by decide)⟩ | exact ⟨(pick_range _ _ _).1,(pick_range _ _ _).2 (by decide)⟩) ?_
 refine Run.ld (by kernel_rfl) (listAt_ok (L:=[b1_0,b1_1]) (pad:=[]) (i:=r1.1) (by rw [hr1]; first | exact decide_eq_true ⟨(pick_range _ _ _).1,(pick_range _ _ _).2 (by decide)⟩ | exact ⟨(pick_range _ _ _).1,(pick_range _ _ _).2 (by decide)⟩)) ?_
 exact Run.dr (by kernel_rfl) (by kernel_rfl) (by first | omega | (simp only [w64_val,c64_val] at *; omega))
theorem os_l23Draw__src_n (b1 : Src) (ps : 0 ≤ b1.ix.val ∧ b1.ix.val + 93 ≤ 1000000000) : FunS Tryz.prog 18 [] [srcB 84 (.slice none 0 0) b1.ix b1.sd] #[.pointer (some ⟨0,0,none⟩)] (Drew vSf 84 (.slice none 0 0) b1.ix.val (b1.ix.val + 93) (S_l23Draw__src Cd.nil b1)):=by
 refine FunS.drew (fun _ _=>rfl) rfl (by kernel_rfl) (FunR.of 400 E_ok mixed Tryz.func18 (by kernel_rfl) ?_)
 show Run _ _ ((RD [] vSf 84 (.slice none 0 0) b1.ix.val (b1.ix.val + 93)) (S_l23Draw__src Cd.nil b1)) _
 unfold S_l23Draw__src
 refine Run.cw (e:=vI) (Rg:=(RD [] vSf 84 (.slice none 0 0) b1.ix.val (b1.ix.val + 93))) [] 0 (os_l05Number__src_n _ _ (by first | (simp only [w64_val,wu64_val,c64_val,cu64_val,decide_eq_true_eq,decide_eq_false_iff_not,cond_true,cond_false] at *; omega) | (have z:=among_scale c0 r6.2; rw [← hr7] at z; omega) | (have z:=among_scale Cd.nil r6.2; rw [← hr7] at z; omega)) (by first | (simp only [w64_val,wu64_val,c64_val,cu64_val,decide_eq_true_eq,decide_eq_false_iff_not,cond_true,cond_false] at *; omega) | (have z:=among_scale c0 r6.2; rw [← hr7] at z; omega) | (have z:=among_scale Cd.nil r6.2; rw [← hr7] at z; omega)) (by first | omega | (simp only [w64_val,c64_val] at *; omega))) rfl fun r1 hr1 kr1=>?_
 refine Run.cw (e:=vI) (Rg:=(RD [] vSf 84 (.slice none 0 0) b1.ix.val (b1.ix.val + 93))) [] 0 (os_l05Number__src_n _ _ (by first | (simp only [w64_val,wu64_val,c64_val,cu64_val,decide_eq_true_eq,decide_eq_false_iff_not,cond_true,cond_false] at *; omega) | (have z:=among_scale c0 r6.2; rw [← hr7] at z; omega) | (have z:=among_scale Cd.nil r6.2; rw [← hr7] at z; omega)) (by first | (simp only [w64_val,wu64_val,c64_val,cu64_val,decide_eq_true_eq,decide_eq_false_iff_not,cond_true,cond_false] at *; omega) | (have z:=among_scale c0 r6.2; rw [← hr7] at z; omega) | (have z:=among_scale Cd.nil r6.2; rw [← hr7] at z; omega)) (by first | omega | (simp only [w64_val,c64_val] at *; omega))) rfl fun r2 hr2 kr2=>?_
 refine Run.cw (e:=vI) (Rg:=(RD [] vSf 84 (.slice none 0 0) b1.ix.val (b1.ix.val + 93))) [] 0 (os_l05Number__src_n _ _ (by first | (simp only [w64_val,wu64_val,c64_val,cu64_val,decide_eq_true_eq,decide_eq_false_iff_not,cond_true,cond_false] at *; omega) | (have z:=among_scale c0 r6.2; rw [← hr7] at z; omega) | (have z:=among_scale Cd.nil r6.2; rw [← hr7] at z; omega)) (by first | (simp only [w64_val,wu64_val,c64_val,cu64_val,decide_eq_true_eq,decide_eq_false_iff_not,cond_true,cond_false] at *; omega) | (have z:=among_scale c0 r6.2; rw [← hr7] at z; omega) | (have z:=among_scale Cd.nil r6.2; rw [← hr7] at z; omega)) (by first | omega | (simp only [w64_val,c64_val] at *; omega))) rfl fun r3 hr3 kr3=>?_
 refine Run.cw (e:=vI) (Rg:=(RD [] vSf 84 (.slice none 0 0) b1.ix.val (b1.ix.val + 93))) [] 0 (os_l05Number__src_n _ _ (by first | (simp only [w64_val,wu64_val,c64_val,cu64_val,decide_eq_true_eq,decide_eq_false_iff_not,cond_true,cond_false] at *; omega) | (have z:=among_scale c0 r6.2; rw [← hr7] at z; omega) | (have z:=among_scale Cd.nil r6.2; rw [← hr7] at z; omega)) (by first | (simp only [w64_val,wu64_val,c64_val,cu64_val,decide_eq_true_eq,decide_eq_false_iff_not,cond_true,cond_false] at *; omega) | (have z:=among_scale c0 r6.2; rw [← hr7] at z; omega) | (have z:=among_scale Cd.nil r6.2; rw [← hr7] at z; omega)) (by first | omega | (simp only [w64_val,c64_val] at *; omega))) rfl fun r4 hr4 kr4=>?_
 refine Run.cw (e:=vI) (Rg:=(RD [] vSf 84 (.slice none 0 0) b1.ix.val (b1.ix.val + 93))) [] 0 (os_l05Number__src_n _ _ (by first | (simp only [w64_val,wu64_val,c64_val,cu64_val,decide_eq_true_eq,decide_eq_false_iff_not,cond_true,cond_false] at *; omega) | (have z:=among_scale c0 r6.2; rw [← hr7] at z; omega) | (have z:=among_scale Cd.nil r6.2; rw [← hr7] at z; omega)) (by first | (simp only [w64_val,wu64_val,c64_val,cu64_val,decide_eq_true_eq,decide_eq_false_iff_not,cond_true,cond_false] at *; omega) | (have z:=among_scale c0 r6.2; rw [← hr7] at z; omega) | (have z:=among_scale Cd.nil r6.2; rw [← hr7] at z; omega)) (by first | omega | (simp only [w64_val,c64_val] at *; omega))) rfl fun r5 hr5 kr5=>?_
 refine Run.cw (e:=vI) (Rg:=(RD [] vSf 84 (.slice none 0 0) b1.ix.val (b1.ix.val + 93))) [] 0 (os_l05Number__src_n _ _ (by first | (simp only [w64_val,wu64_val,c64_val,cu64_val,decide_eq_true_eq,decide_eq_false_iff_not,cond_true,cond_false] at *; omega) | (have z:=among_scale c0 r6.2; rw [← hr7] at z; omega) | (have z:=among_scale Cd.nil r6.2; rw [← hr7] at z; omega)) (by first | (simp only [w64_val,wu64_val,c64_val,cu64_val,decide_eq_true_eq,decide_eq_false_iff_not,cond_true,cond_false] at *; omega) | (have z:=among_scale c0 r6.2; rw [← hr7] at z; omega) | (have z:=among_scale Cd.nil r6.2; rw [← hr7] at z; omega)) (by first | omega | (simp only [w64_val,c64_val] at *; omega))) rfl fun r6 hr6 kr6=>?_
 refine Run.cw (e:=vI) (Rg:=(RD [] vSf 84 (.slice none 0 0) b1.ix.val (b1.ix.val + 93))) [3] 0 (os_l00Src_among__src__s2_n _ _ _ (by first | omega | (simp only [w64_val,c64_val] at *; omega))) (allc (by kernel_rfl) rfl) fun r7 hr7 kr7=>?_
 refine Run.cw (e:=vI) (Rg:=(RD [] vSf 84 (.slice none 0 0) b1.ix.val (b1.ix.val + 93))) [] 0 (os_l05Number__src_n _ _ (by first | (simp only [w64_val,wu64_val,c64_val,cu64_val,decide_eq_true_eq,decide_eq_false_iff_not,cond_true,cond_false] at *; omega) | (have z:=among_scale c0 r6.2; rw [← hr7] at z; omega) | (have z:=among_scale Cd.nil r6.2; rw [← hr7] at z; omega)) (by first | (simp only [w64_val,wu64_val,c64_val,cu64_val,decide_eq_true_eq,decide_eq_false_iff_not,cond_true,cond_false] at *; omega) | (have z:=among_scale c0 r6.2; rw [← hr7] at z; omega) | (have z:=among_scale Cd.nil r6.2; rw [← hr7] at z; omega)) (by first | omega | (simp only [w64_val,c64_val] at *; omega))) rfl fun r8 hr8 kr8=>?_
 exact Run.dr (by kernel_rfl) (by kernel_rfl) (by first | omega | (simp only [w64_val,c64_val] at *; omega))
theorem os_E8Shift_n : Fun Tryz.prog 5 [] #[.slice none 0 0] (vSf (S_E8Shift Cd.nil)) []:=by
 refine Fun.ofH 400 E_ok mixed Tryz.func5 (by kernel_rfl) (by kernel_rfl) ?_
 unfold S_E8Shift
 refine Run.cf [] os_l00From_n rfl ?_
 refine Run.cw (e:=vSf) (Rg:=(fun b=>RvH [] (vSf b))) [] 1 (os_l23Draw__src_n _ (by first | omega | (simp only [w64_val,c64_val] at *; omega))) rfl fun r1 hr1 kr1=>?_
 exact Run.x 0
end Go.Proofs.YtfhnlkinjbakgaaGreatDoor.Abs
