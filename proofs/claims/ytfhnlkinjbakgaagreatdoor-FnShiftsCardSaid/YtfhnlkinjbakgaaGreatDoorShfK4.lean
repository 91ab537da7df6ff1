/- The program's functions are these; part 4 (written by w.py). -/
import Derived.Test.YtfhnlkinjbakgaaGreatDoorShfE
import Derived.Test.YtfhnlkinjbakgaaGreatDoorShfFa
import Derived.Test.YtfhnlkinjbakgaaGreatDoorShfShM
import Derived.Test.YtfhnlkinjbakgaaGreatDoorShfQpre
import Derived.Test.YtfhnlkinjbakgaaGreatDoorShfK1
import Derived.Test.YtfhnlkinjbakgaaGreatDoorShfK2
import Derived.Test.YtfhnlkinjbakgaaGreatDoorShfK3
set_option linter.unusedVariables false
set_option linter.unusedSimpArgs false
namespace Go.Proofs.YtfhnlkinjbakgaaGreatDoor.Abs
open Go Go.RowKit
theorem ol_d8Long (c0 : Cd) (c1 : Cd) : Fun Tryz.prog 4 [(c0.row,c0.ty),(c1.row,c1.ty)] #[c0.sl 0,c1.sl 1] (vB (L_d8Long c0 c1)) [(c0.row,c0.ty),(c1.row,c1.ty)]:=by
 refine Fun.ofH 400 E_ok mixed Tryz.func4 (by kernel_rfl) (by kernel_rfl) ?_
 unfold L_d8Long
 refine Run.y (gv:=vB) (fun _=>?_) (fun _=>?_)
 ·refine Run.z [true,true,true] ?_
  exact Run.x 2
 ·refine Run.z [false,false,false] ?_
  exact Run.x 2
theorem ol_FnShifts (c0 : Cd) (c1 : Cd) : Fun Tryz.prog 3 [(c0.row,c0.ty),(c1.row,c1.ty)] #[c0.sl 0,c1.sl 1] (vB (L_FnShifts c0 c1)) [(c0.row,c0.ty),(c1.row,c1.ty)]:=by
 refine Fun.ofH 400 E_ok mixed Tryz.func3 (by kernel_rfl) (by kernel_rfl) ?_
 unfold L_FnShifts
 refine Run.vl (e:=vB) (gv:=vB) [0,1] (ol_d8Long _ _) (allc (c0.calm) (allc (c1.calm) rfl)) fun r1 _=>?_
 refine Run.y (gv:=vB) (fun _=>?_) (fun _=>?_)
 ·exact Run.x 2
 ·refine Run.vl (e:=vSf) (gv:=vB) [0] (os_E8Shift _) (allc (c0.calm) rfl) fun r2 _=>?_
  refine Run.vl (e:=vEl) (gv:=vB) [1] (os_E8Ellipsoid _) (allc (c1.calm) rfl) fun r3 _=>?_
  refine Run.vq (e:=vPl) (gv:=vB) [1] (os_E8Place _) (allc (c1.calm) rfl) fun r4 _=>?_
  refine Run.q (e:=vT_Vc_I) (gv:=vB) (os_ToCartesian _ _) fun r5 _=>?_
  refine Run.q (e:=vT_Af_I) (gv:=vB) (oi_AffineOf _) fun r6 _=>?_
  refine Run.vl (e:=vSf) (gv:=vB) [1] (os_E8Shift _) (allc (c1.calm) rfl) fun r7 _=>?_
  refine Run.q (e:=vT_Af_I) (gv:=vB) (oi_AffineOf _) fun r8 _=>?_
  refine Run.q (e:=vT_Af_B) (gv:=vB) (oi_InvertAffine _) fun r9 _=>?_
  refine Run.q (e:=vSh) (gv:=vB) (oi_ShiftText _) fun r10 _=>?_
  refine Run.q (e:=vT_Sf_B) (gv:=vB) (oi_ReadShift _) fun r11 _=>?_
  refine Run.y (gv:=vB) (fun _=>?_) (fun _=>?_)
  ·refine Run.z [true,true,true,true,true,true,true,true,true,true,true,true,true] ?_
   exact Run.x 2
  ·refine Run.z [false,false] ?_
   refine Run.y (gv:=vB) (fun _=>?_) (fun _=>?_)
   ·refine Run.z [true,true,true,true,true,true,true,true,true,true] ?_
    exact Run.x 2
   ·refine Run.z [false,false] ?_
    refine Run.y (gv:=vB) (fun _=>?_) (fun _=>?_)
    ·refine Run.z [true,true,true,true,true,true,true] ?_
     exact Run.x 2
    ·refine Run.z [false,false] ?_
     refine Run.y (gv:=vB) (fun _=>?_) (fun _=>?_)
     ·refine Run.z [true,true,true,true] ?_
      exact Run.x 2
     ·refine Run.z [false,false,false] ?_
      refine Run.y (gv:=vB) (fun _=>?_) (fun _=>?_)
      ·exact Run.x 2
      ·refine Run.q (e:=vVc) (gv:=vB) (oi_ApplyAffine _ _) fun r12 _=>?_
       refine Run.q (e:=vVc) (gv:=vB) (oi_ApplyAffine _ _) fun r13 _=>?_
       refine Run.q (e:=vB) (gv:=vB) (os_OverlapV _ _) fun r14 _=>?_
       refine Run.y (gv:=vB) (fun _=>?_) (fun _=>?_)
       ·refine Run.z [true,true,true,true,true,true,true,true,true,true,true] ?_
        exact Run.x 2
       ·refine Run.z [false,false] ?_
        refine Run.q (e:=vAf) (gv:=vB) (oi_ThenAffine _ _) fun r15 _=>?_
        refine Run.z [false,false] ?_
        refine Run.q (e:=vVc) (gv:=vB) (oi_ApplyAffine _ _) fun r16 _=>?_
        refine Run.z [false,false,false] ?_
        refine Run.q (e:=vVc) (gv:=vB) (oi_ApplyAffine _ _) fun r17 _=>?_
        refine Run.z [false] ?_
        refine Run.q (e:=vB) (gv:=vB) (os_OverlapV _ _) fun r18 _=>?_
        refine Run.z [false,false] ?_
        refine Run.y (gv:=vB) (fun _=>?_) (fun _=>?_)
        ·exact Run.x 2
        ·refine Run.q (e:=vT_Sf_I) (gv:=vB) (oi_OppositeShift _) fun r19 _=>?_
         refine Run.q (e:=vT_Sf_I) (gv:=vB) (oi_OppositeShift _) fun r20 _=>?_
         refine Run.y (gv:=vB) (fun _=>?_) (fun _=>?_)
         ·refine Run.z [true,true] ?_
          refine Run.y (gv:=vB) (fun _=>?_) (fun _=>?_)
          ·refine Run.z [true,true,true] ?_
           exact Run.x 2
          ·refine Run.z [false,false,false] ?_
           exact Run.x 2
         ·refine Run.z [false,false,false,false,false,false] ?_
          exact Run.x 2
theorem ol_d8Long_ln (c0 : Cd) : Fun Tryz.prog 4 [(c0.row,c0.ty)] #[c0.sl 0,.slice none 0 0] (vB (L_d8Long c0 Cd.nil)) [(c0.row,c0.ty)]:=by
 refine Fun.ofH 400 E_ok mixed Tryz.func4 (by kernel_rfl) (by kernel_rfl) ?_
 unfold L_d8Long
 refine Run.y (gv:=vB) (fun _=>?_) (fun _=>?_)
 ·refine Run.z [true,true,true] ?_
  exact Run.x 1
 ·refine Run.z [false,false,false] ?_
  exact Run.x 1
theorem ol_FnShifts_ln (c0 : Cd) : Fun Tryz.prog 3 [(c0.row,c0.ty)] #[c0.sl 0,.slice none 0 0] (vB (L_FnShifts c0 Cd.nil)) [(c0.row,c0.ty)]:=by
 refine Fun.ofH 400 E_ok mixed Tryz.func3 (by kernel_rfl) (by kernel_rfl) ?_
 unfold L_FnShifts
 refine Run.vl (e:=vB) (gv:=vB) [0] (ol_d8Long_ln _) (allc (c0.calm) rfl) fun r1 _=>?_
 refine Run.y (gv:=vB) (fun _=>?_) (fun _=>?_)
 ·exact Run.x 1
 ·refine Run.vl (e:=vSf) (gv:=vB) [0] (os_E8Shift _) (allc (c0.calm) rfl) fun r2 _=>?_
  refine Run.q (e:=vEl) (gv:=vB) (os_E8Ellipsoid_n) fun r3 _=>?_
  refine Run.q (e:=vPl) (gv:=vB) (os_E8Place_n) fun r4 _=>?_
  refine Run.q (e:=vT_Vc_I) (gv:=vB) (os_ToCartesian _ _) fun r5 _=>?_
  refine Run.q (e:=vT_Af_I) (gv:=vB) (oi_AffineOf _) fun r6 _=>?_
  refine Run.q (e:=vSf) (gv:=vB) (os_E8Shift_n) fun r7 _=>?_
  refine Run.q (e:=vT_Af_I) (gv:=vB) (oi_AffineOf _) fun r8 _=>?_
  refine Run.q (e:=vT_Af_B) (gv:=vB) (oi_InvertAffine _) fun r9 _=>?_
  refine Run.q (e:=vSh) (gv:=vB) (oi_ShiftText _) fun r10 _=>?_
  refine Run.q (e:=vT_Sf_B) (gv:=vB) (oi_ReadShift _) fun r11 _=>?_
  refine Run.y (gv:=vB) (fun _=>?_) (fun _=>?_)
  ·refine Run.z [true,true,true,true,true,true,true,true,true,true,true,true,true] ?_
   exact Run.x 1
  ·refine Run.z [false,false] ?_
   refine Run.y (gv:=vB) (fun _=>?_) (fun _=>?_)
   ·refine Run.z [true,true,true,true,true,true,true,true,true,true] ?_
    exact Run.x 1
   ·refine Run.z [false,false] ?_
    refine Run.y (gv:=vB) (fun _=>?_) (fun _=>?_)
    ·refine Run.z [true,true,true,true,true,true,true] ?_
     exact Run.x 1
    ·refine Run.z [false,false] ?_
     refine Run.y (gv:=vB) (fun _=>?_) (fun _=>?_)
     ·refine Run.z [true,true,true,true] ?_
      exact Run.x 1
     ·refine Run.z [false,false,false] ?_
      refine Run.y (gv:=vB) (fun _=>?_) (fun _=>?_)
      ·exact Run.x 1
      ·refine Run.q (e:=vVc) (gv:=vB) (oi_ApplyAffine _ _) fun r12 _=>?_
       refine Run.q (e:=vVc) (gv:=vB) (oi_ApplyAffine _ _) fun r13 _=>?_
       refine Run.q (e:=vB) (gv:=vB) (os_OverlapV _ _) fun r14 _=>?_
       refine Run.y (gv:=vB) (fun _=>?_) (fun _=>?_)
       ·refine Run.z [true,true,true,true,true,true,true,true,true,true,true] ?_
        exact Run.x 1
       ·refine Run.z [false,false] ?_
        refine Run.q (e:=vAf) (gv:=vB) (oi_ThenAffine _ _) fun r15 _=>?_
        refine Run.z [false,false] ?_
        refine Run.q (e:=vVc) (gv:=vB) (oi_ApplyAffine _ _) fun r16 _=>?_
        refine Run.z [false,false,false] ?_
        refine Run.q (e:=vVc) (gv:=vB) (oi_ApplyAffine _ _) fun r17 _=>?_
        refine Run.z [false] ?_
        refine Run.q (e:=vB) (gv:=vB) (os_OverlapV _ _) fun r18 _=>?_
        refine Run.z [false,false] ?_
        refine Run.y (gv:=vB) (fun _=>?_) (fun _=>?_)
        ·exact Run.x 1
        ·refine Run.q (e:=vT_Sf_I) (gv:=vB) (oi_OppositeShift _) fun r19 _=>?_
         refine Run.q (e:=vT_Sf_I) (gv:=vB) (oi_OppositeShift _) fun r20 _=>?_
         refine Run.y (gv:=vB) (fun _=>?_) (fun _=>?_)
         ·refine Run.z [true,true] ?_
          refine Run.y (gv:=vB) (fun _=>?_) (fun _=>?_)
          ·refine Run.z [true,true,true] ?_
           exact Run.x 1
          ·refine Run.z [false,false,false] ?_
           exact Run.x 1
         ·refine Run.z [false,false,false,false,false,false] ?_
          exact Run.x 1
theorem ol_d8Long_nl (c0 : Cd) : Fun Tryz.prog 4 [(c0.row,c0.ty)] #[.slice none 0 0,c0.sl 0] (vB (L_d8Long Cd.nil c0)) [(c0.row,c0.ty)]:=by
 refine Fun.ofH 400 E_ok mixed Tryz.func4 (by kernel_rfl) (by kernel_rfl) ?_
 unfold L_d8Long
 refine Run.y (gv:=vB) (fun _=>?_) (fun _=>?_)
 ·refine Run.z [true,true,true] ?_
  exact Run.x 1
 ·refine Run.z [false,false,false] ?_
  exact Run.x 1
theorem ol_FnShifts_nl (c0 : Cd) : Fun Tryz.prog 3 [(c0.row,c0.ty)] #[.slice none 0 0,c0.sl 0] (vB (L_FnShifts Cd.nil c0)) [(c0.row,c0.ty)]:=by
 refine Fun.ofH 400 E_ok mixed Tryz.func3 (by kernel_rfl) (by kernel_rfl) ?_
 unfold L_FnShifts
 refine Run.vl (e:=vB) (gv:=vB) [0] (ol_d8Long_nl _) (allc (c0.calm) rfl) fun r1 _=>?_
 refine Run.y (gv:=vB) (fun _=>?_) (fun _=>?_)
 ·exact Run.x 1
 ·refine Run.q (e:=vSf) (gv:=vB) (os_E8Shift_n) fun r2 _=>?_
  refine Run.vl (e:=vEl) (gv:=vB) [0] (os_E8Ellipsoid _) (allc (c0.calm) rfl) fun r3 _=>?_
  refine Run.vq (e:=vPl) (gv:=vB) [0] (os_E8Place _) (allc (c0.calm) rfl) fun r4 _=>?_
  refine Run.q (e:=vT_Vc_I) (gv:=vB) (os_ToCartesian _ _) fun r5 _=>?_
  refine Run.q (e:=vT_Af_I) (gv:=vB) (oi_AffineOf _) fun r6 _=>?_
  refine Run.vl (e:=vSf) (gv:=vB) [0] (os_E8Shift _) (allc (c0.calm) rfl) fun r7 _=>?_
  refine Run.q (e:=vT_Af_I) (gv:=vB) (oi_AffineOf _) fun r8 _=>?_
  refine Run.q (e:=vT_Af_B) (gv:=vB) (oi_InvertAffine _) fun r9 _=>?_
  refine Run.q (e:=vSh) (gv:=vB) (oi_ShiftText _) fun r10 _=>?_
  refine Run.q (e:=vT_Sf_B) (gv:=vB) (oi_ReadShift _) fun r11 _=>?_
  refine Run.y (gv:=vB) (fun _=>?_) (fun _=>?_)
  ·refine Run.z [true,true,true,true,true,true,true,true,true,true,true,true,true] ?_
   exact Run.x 1
  ·refine Run.z [false,false] ?_
   refine Run.y (gv:=vB) (fun _=>?_) (fun _=>?_)
   ·refine Run.z [true,true,true,true,true,true,true,true,true,true] ?_
    exact Run.x 1
   ·refine Run.z [false,false] ?_
    refine Run.y (gv:=vB) (fun _=>?_) (fun _=>?_)
    ·refine Run.z [true,true,true,true,true,true,true] ?_
     exact Run.x 1
    ·refine Run.z [false,false] ?_
     refine Run.y (gv:=vB) (fun _=>?_) (fun _=>?_)
     ·refine Run.z [true,true,true,true] ?_
      exact Run.x 1
     ·refine Run.z [false,false,false] ?_
      refine Run.y (gv:=vB) (fun _=>?_) (fun _=>?_)
      ·exact Run.x 1
      ·refine Run.q (e:=vVc) (gv:=vB) (oi_ApplyAffine _ _) fun r12 _=>?_
       refine Run.q (e:=vVc) (gv:=vB) (oi_ApplyAffine _ _) fun r13 _=>?_
       refine Run.q (e:=vB) (gv:=vB) (os_OverlapV _ _) fun r14 _=>?_
       refine Run.y (gv:=vB) (fun _=>?_) (fun _=>?_)
       ·refine Run.z [true,true,true,true,true,true,true,true,true,true,true] ?_
        exact Run.x 1
       ·refine Run.z [false,false] ?_
        refine Run.q (e:=vAf) (gv:=vB) (oi_ThenAffine _ _) fun r15 _=>?_
        refine Run.z [false,false] ?_
        refine Run.q (e:=vVc) (gv:=vB) (oi_ApplyAffine _ _) fun r16 _=>?_
        refine Run.z [false,false,false] ?_
        refine Run.q (e:=vVc) (gv:=vB) (oi_ApplyAffine _ _) fun r17 _=>?_
        refine Run.z [false] ?_
        refine Run.q (e:=vB) (gv:=vB) (os_OverlapV _ _) fun r18 _=>?_
        refine Run.z [false,false] ?_
        refine Run.y (gv:=vB) (fun _=>?_) (fun _=>?_)
        ·exact Run.x 1
        ·refine Run.q (e:=vT_Sf_I) (gv:=vB) (oi_OppositeShift _) fun r19 _=>?_
         refine Run.q (e:=vT_Sf_I) (gv:=vB) (oi_OppositeShift _) fun r20 _=>?_
         refine Run.y (gv:=vB) (fun _=>?_) (fun _=>?_)
         ·refine Run.z [true,true] ?_
          refine Run.y (gv:=vB) (fun _=>?_) (fun _=>?_)
          ·refine Run.z [true,true,true] ?_
           exact Run.x 1
          ·refine Run.z [false,false,false] ?_
           exact Run.x 1
         ·refine Run.z [false,false,false,false,false,false] ?_
          exact Run.x 1
theorem ol_d8Long_nn : Fun Tryz.prog 4 [] #[.slice none 0 0,.slice none 0 0] (vB (L_d8Long Cd.nil Cd.nil)) []:=by
 refine Fun.ofH 400 E_ok mixed Tryz.func4 (by kernel_rfl) (by kernel_rfl) ?_
 unfold L_d8Long
 refine Run.y (gv:=vB) (fun _=>?_) (fun _=>?_)
 ·refine Run.z [true,true,true] ?_
  exact Run.x 0
 ·refine Run.z [false,false,false] ?_
  exact Run.x 0
theorem ol_FnShifts_nn : Fun Tryz.prog 3 [] #[.slice none 0 0,.slice none 0 0] (vB (L_FnShifts Cd.nil Cd.nil)) []:=by
 refine Fun.ofH 400 E_ok mixed Tryz.func3 (by kernel_rfl) (by kernel_rfl) ?_
 unfold L_FnShifts
 refine Run.q (e:=vB) (gv:=vB) (ol_d8Long_nn) fun r1 _=>?_
 refine Run.y (gv:=vB) (fun _=>?_) (fun _=>?_)
 ·exact Run.x 0
 ·refine Run.q (e:=vSf) (gv:=vB) (os_E8Shift_n) fun r2 _=>?_
  refine Run.q (e:=vEl) (gv:=vB) (os_E8Ellipsoid_n) fun r3 _=>?_
  refine Run.q (e:=vPl) (gv:=vB) (os_E8Place_n) fun r4 _=>?_
  refine Run.q (e:=vT_Vc_I) (gv:=vB) (os_ToCartesian _ _) fun r5 _=>?_
  refine Run.q (e:=vT_Af_I) (gv:=vB) (oi_AffineOf _) fun r6 _=>?_
  refine Run.q (e:=vSf) (gv:=vB) (os_E8Shift_n) fun r7 _=>?_
  refine Run.q (e:=vT_Af_I) (gv:=vB) (oi_AffineOf _) fun r8 _=>?_
  refine Run.q (e:=vT_Af_B) (gv:=vB) (oi_InvertAffine _) fun r9 _=>?_
  refine Run.q (e:=vSh) (gv:=vB) (oi_ShiftText _) fun r10 _=>?_
  refine Run.q (e:=vT_Sf_B) (gv:=vB) (oi_ReadShift _) fun r11 _=>?_
  refine Run.y (gv:=vB) (fun _=>?_) (fun _=>?_)
  ·refine Run.z [true,true,true,true,true,true,true,true,true,true,true,true,true] ?_
   exact Run.x 0
  ·refine Run.z [false,false] ?_
   refine Run.y (gv:=vB) (fun _=>?_) (fun _=>?_)
   ·refine Run.z [true,true,true,true,true,true,true,true,true,true] ?_
    exact Run.x 0
   ·refine Run.z [false,false] ?_
    refine Run.y (gv:=vB) (fun _=>?_) (fun _=>?_)
    ·refine Run.z [true,true,true,true,true,true,true] ?_
     exact Run.x 0
    ·refine Run.z [false,false] ?_
     refine Run.y (gv:=vB) (fun _=>?_) (fun _=>?_)
     ·refine Run.z [true,true,true,true] ?_
      exact Run.x 0
     ·refine Run.z [false,false,false] ?_
      refine Run.y (gv:=vB) (fun _=>?_) (fun _=>?_)
      ·exact Run.x 0
      ·refine Run.q (e:=vVc) (gv:=vB) (oi_ApplyAffine _ _) fun r12 _=>?_
       refine Run.q (e:=vVc) (gv:=vB) (oi_ApplyAffine _ _) fun r13 _=>?_
       refine Run.q (e:=vB) (gv:=vB) (os_OverlapV _ _) fun r14 _=>?_
       refine Run.y (gv:=vB) (fun _=>?_) (fun _=>?_)
       ·refine Run.z [true,true,true,true,true,true,true,true,true,true,true] ?_
        exact Run.x 0
       ·refine Run.z [false,false] ?_
        refine Run.q (e:=vAf) (gv:=vB) (oi_ThenAffine _ _) fun r15 _=>?_
        refine Run.z [false,false] ?_
        refine Run.q (e:=vVc) (gv:=vB) (oi_ApplyAffine _ _) fun r16 _=>?_
        refine Run.z [false,false,false] ?_
        refine Run.q (e:=vVc) (gv:=vB) (oi_ApplyAffine _ _) fun r17 _=>?_
        refine Run.z [false] ?_
        refine Run.q (e:=vB) (gv:=vB) (os_OverlapV _ _) fun r18 _=>?_
        refine Run.z [false,false] ?_
        refine Run.y (gv:=vB) (fun _=>?_) (fun _=>?_)
        ·exact Run.x 0
        ·refine Run.q (e:=vT_Sf_I) (gv:=vB) (oi_OppositeShift _) fun r19 _=>?_
         refine Run.q (e:=vT_Sf_I) (gv:=vB) (oi_OppositeShift _) fun r20 _=>?_
         refine Run.y (gv:=vB) (fun _=>?_) (fun _=>?_)
         ·refine Run.z [true,true] ?_
          refine Run.y (gv:=vB) (fun _=>?_) (fun _=>?_)
          ·refine Run.z [true,true,true] ?_
           exact Run.x 0
          ·refine Run.z [false,false,false] ?_
           exact Run.x 0
         ·refine Run.z [false,false,false,false,false,false] ?_
          exact Run.x 0
theorem ol_d8Long_lv (c0 : Cd) (c1 : Cv c0.row) : Fun Tryz.prog 4 [(c0.row,c0.ty)] #[c0.sl 0,(c0.vw c1).sl 0] (vB (L_d8Long c0 (c0.vw c1))) [(c0.row,c0.ty)]:=by
 refine Fun.ofH 400 E_ok mixed Tryz.func4 (by kernel_rfl) (by kernel_rfl) ?_
 unfold L_d8Long
 refine Run.y (gv:=vB) (fun _=>?_) (fun _=>?_)
 ·refine Run.z [true,true,true] ?_
  exact Run.x 1
 ·refine Run.z [false,false,false] ?_
  exact Run.x 1
theorem ol_FnShifts_lv (c0 : Cd) (c1 : Cv c0.row) : Fun Tryz.prog 3 [(c0.row,c0.ty)] #[c0.sl 0,(c0.vw c1).sl 0] (vB (L_FnShifts c0 (c0.vw c1))) [(c0.row,c0.ty)]:=by
 refine Fun.ofH 400 E_ok mixed Tryz.func3 (by kernel_rfl) (by kernel_rfl) ?_
 unfold L_FnShifts
 refine Run.vl (e:=vB) (gv:=vB) [0] (ol_d8Long_lv _ _) (allc (c0.calm) rfl) fun r1 _=>?_
 refine Run.y (gv:=vB) (fun _=>?_) (fun _=>?_)
 ·exact Run.x 1
 ·refine Run.vl (e:=vSf) (gv:=vB) [0] (os_E8Shift _) (allc (c0.calm) rfl) fun r2 _=>?_
  refine Run.vl (e:=vEl) (gv:=vB) [0] (os_E8Ellipsoid _) (allc (c0.calm) rfl) fun r3 _=>?_
  refine Run.vq (e:=vPl) (gv:=vB) [0] (os_E8Place _) (allc (c0.calm) rfl) fun r4 _=>?_
  refine Run.q (e:=vT_Vc_I) (gv:=vB) (os_ToCartesian _ _) fun r5 _=>?_
  refine Run.q (e:=vT_Af_I) (gv:=vB) (oi_AffineOf _) fun r6 _=>?_
  refine Run.vl (e:=vSf) (gv:=vB) [0] (os_E8Shift _) (allc (c0.calm) rfl) fun r7 _=>?_
  refine Run.q (e:=vT_Af_I) (gv:=vB) (oi_AffineOf _) fun r8 _=>?_
  refine Run.q (e:=vT_Af_B) (gv:=vB) (oi_InvertAffine _) fun r9 _=>?_
  refine Run.q (e:=vSh) (gv:=vB) (oi_ShiftText _) fun r10 _=>?_
  refine Run.q (e:=vT_Sf_B) (gv:=vB) (oi_ReadShift _) fun r11 _=>?_
  refine Run.y (gv:=vB) (fun _=>?_) (fun _=>?_)
  ·refine Run.z [true,true,true,true,true,true,true,true,true,true,true,true,true] ?_
   exact Run.x 1
  ·refine Run.z [false,false] ?_
   refine Run.y (gv:=vB) (fun _=>?_) (fun _=>?_)
   ·refine Run.z [true,true,true,true,true,true,true,true,true,true] ?_
    exact Run.x 1
   ·refine Run.z [false,false] ?_
    refine Run.y (gv:=vB) (fun _=>?_) (fun _=>?_)
    ·refine Run.z [true,true,true,true,true,true,true] ?_
     exact Run.x 1
    ·refine Run.z [false,false] ?_
     refine Run.y (gv:=vB) (fun _=>?_) (fun _=>?_)
     ·refine Run.z [true,true,true,true] ?_
      exact Run.x 1
     ·refine Run.z [false,false,false] ?_
      refine Run.y (gv:=vB) (fun _=>?_) (fun _=>?_)
      ·exact Run.x 1
      ·refine Run.q (e:=vVc) (gv:=vB) (oi_ApplyAffine _ _) fun r12 _=>?_
       refine Run.q (e:=vVc) (gv:=vB) (oi_ApplyAffine _ _) fun r13 _=>?_
       refine Run.q (e:=vB) (gv:=vB) (os_OverlapV _ _) fun r14 _=>?_
       refine Run.y (gv:=vB) (fun _=>?_) (fun _=>?_)
       ·refine Run.z [true,true,true,true,true,true,true,true,true,true,true] ?_
        exact Run.x 1
       ·refine Run.z [false,false] ?_
        refine Run.q (e:=vAf) (gv:=vB) (oi_ThenAffine _ _) fun r15 _=>?_
        refine Run.z [false,false] ?_
        refine Run.q (e:=vVc) (gv:=vB) (oi_ApplyAffine _ _) fun r16 _=>?_
        refine Run.z [false,false,false] ?_
        refine Run.q (e:=vVc) (gv:=vB) (oi_ApplyAffine _ _) fun r17 _=>?_
        refine Run.z [false] ?_
        refine Run.q (e:=vB) (gv:=vB) (os_OverlapV _ _) fun r18 _=>?_
        refine Run.z [false,false] ?_
        refine Run.y (gv:=vB) (fun _=>?_) (fun _=>?_)
        ·exact Run.x 1
        ·refine Run.q (e:=vT_Sf_I) (gv:=vB) (oi_OppositeShift _) fun r19 _=>?_
         refine Run.q (e:=vT_Sf_I) (gv:=vB) (oi_OppositeShift _) fun r20 _=>?_
         refine Run.y (gv:=vB) (fun _=>?_) (fun _=>?_)
         ·refine Run.z [true,true] ?_
          refine Run.y (gv:=vB) (fun _=>?_) (fun _=>?_)
          ·refine Run.z [true,true,true] ?_
           exact Run.x 1
          ·refine Run.z [false,false,false] ?_
           exact Run.x 1
         ·refine Run.z [false,false,false,false,false,false] ?_
          exact Run.x 1
end Go.Proofs.YtfhnlkinjbakgaaGreatDoor.Abs
