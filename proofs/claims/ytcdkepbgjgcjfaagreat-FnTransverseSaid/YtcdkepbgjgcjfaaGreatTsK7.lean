/- The program's functions are these; part 7 (written by w.py). -/
import Derived.Test.YtcdkepbgjgcjfaaGreatTsE
import Derived.Test.YtcdkepbgjgcjfaaGreatTsF4
import Derived.Test.YtcdkepbgjgcjfaaGreatTsQpre
import Derived.Test.YtcdkepbgjgcjfaaGreatTsK1
import Derived.Test.YtcdkepbgjgcjfaaGreatTsK2
import Derived.Test.YtcdkepbgjgcjfaaGreatTsK3
import Derived.Test.YtcdkepbgjgcjfaaGreatTsK5
import Derived.Test.YtcdkepbgjgcjfaaGreatTsK6
set_option linter.unusedVariables false
set_option linter.unusedSimpArgs false
namespace Go.Proofs.YtcdkepbgjgcjfaaGreat.Abs
open Go Go.RowKit
theorem ol_d8Long (c0 : Cd) (c1 : Cd) : Fun Tryz.prog 21 [(c0.row,c0.ty),(c1.row,c1.ty)] #[c0.sl 0,c1.sl 1] (vB (L_d8Long c0 c1)) [(c0.row,c0.ty),(c1.row,c1.ty)]:=by
 refine Fun.ofH 400 E_ok mixed Tryz.func21 (by kernel_rfl) (by kernel_rfl) ?_
 unfold L_d8Long
 refine Run.y (gv:=vB) (fun _=>?_) (fun _=>?_)
 ·refine Run.z [true,true,true] ?_
  exact Run.x 2
 ·refine Run.z [false,false,false] ?_
  exact Run.x 2
theorem ol_FnTransverse (c0 : Cd) (c1 : Cd) : Fun Tryz.prog 6 [(c0.row,c0.ty),(c1.row,c1.ty)] #[c0.sl 0,c1.sl 1] (vB (L_FnTransverse c0 c1)) [(c0.row,c0.ty),(c1.row,c1.ty)]:=by
 refine Fun.ofH 400 E_ok mixed Tryz.func6 (by kernel_rfl) (by kernel_rfl) ?_
 unfold L_FnTransverse
 refine Run.vl (e:=vB) (gv:=vB) [0,1] (ol_d8Long _ _) (allc (c0.calm) (allc (c1.calm) rfl)) fun r1 _=>?_
 refine Run.y (gv:=vB) (fun _=>?_) (fun _=>?_)
 ·exact Run.x 2
 ·refine Run.vl (e:=vPj) (gv:=vB) [0] (os_E8Transverse _) (allc (c0.calm) rfl) fun r2 _=>?_
  refine Run.vl (e:=vPt) (gv:=vB) [1] (os_E8Point _) (allc (c1.calm) rfl) fun r3 _=>?_
  refine Run.q (e:=vT_Pn_I) (gv:=vB) (oi_TransverseForward _ _) fun r4 _=>?_
  refine Run.q (e:=vT_Iv_I) (gv:=vB) (oi_TransverseScale _ _) fun r5 _=>?_
  refine Run.y (gv:=vB) (fun _=>?_) (fun _=>?_)
  ·refine Run.q (e:=vT_Pn_I) (gv:=vB) (os_TransverseForward _ _) fun r6 _=>?_
   exact Run.x 2
  ·refine Run.y (gv:=vB) (fun _=>?_) (fun _=>?_)
   ·refine Run.z [true] ?_
    refine Run.q (e:=vIv) (gv:=vB) (os_Integer _) fun r7 _=>?_
    refine Run.z [true] ?_
    refine Run.q (e:=vI) (gv:=vB) (os_LessI _ _) fun r8 _=>?_
    refine Run.z [true,true] ?_
    refine Run.y (gv:=vB) (fun _=>?_) (fun _=>?_)
    ·exact Run.x 2
    ·refine Run.q (e:=vT_Iv_Iv_I) (gv:=vB) (oi_TransverseInverse _ _) fun r9 _=>?_
     refine Run.y (gv:=vB) (fun _=>?_) (fun _=>?_)
     ·refine Run.z [true,true,true,true,true,true] ?_
      exact Run.x 2
     ·refine Run.z [false,false,false] ?_
      refine Run.q (e:=vB) (gv:=vB) (os_AtPoint _ _ _) fun r10 _=>?_
      refine Run.z [false,false] ?_
      refine Run.y (gv:=vB) (fun _=>?_) (fun _=>?_)
      ·exact Run.x 2
      ·refine Run.q (e:=vT_Pn_I) (gv:=vB) (oi_TransverseForward _ _) fun r11 _=>?_
       refine Run.q (e:=vT_Iv_I) (gv:=vB) (oi_TransverseTurn _ _) fun r12 _=>?_
       refine Run.y (gv:=vB) (fun _=>?_) (fun _=>?_)
       ·refine Run.z [true,true,true,true,true] ?_
        exact Run.x 2
       ·refine Run.z [false,false] ?_
        refine Run.q (e:=vB) (gv:=vB) (os_HasI _ _) fun r13 _=>?_
        refine Run.z [false] ?_
        refine Run.y (gv:=vB) (fun _=>?_) (fun _=>?_)
        ·refine Run.z [true,true] ?_
         refine Run.y (gv:=vB) (fun _=>?_) (fun _=>?_)
         ·refine Run.z [true,true,true,false,true,false] ?_
          exact Run.x 2
         ·refine Run.z [false] ?_
          refine Run.q (e:=vB) (gv:=vB) (os_HasI _ _) fun r14 _=>?_
          refine Run.z [true,false,false,true,false] ?_
          exact Run.x 2
        ·refine Run.z [false,false,false,false,false,false] ?_
         exact Run.x 2
   ·refine Run.z [false,false,false,false,false] ?_
    refine Run.q (e:=vT_Iv_Iv_I) (gv:=vB) (oi_TransverseInverse _ _) fun r15 _=>?_
    refine Run.y (gv:=vB) (fun _=>?_) (fun _=>?_)
    ·refine Run.z [true,true,true,true,true,true] ?_
     exact Run.x 2
    ·refine Run.z [false,false,false] ?_
     refine Run.q (e:=vB) (gv:=vB) (os_AtPoint _ _ _) fun r16 _=>?_
     refine Run.z [false,false] ?_
     refine Run.y (gv:=vB) (fun _=>?_) (fun _=>?_)
     ·exact Run.x 2
     ·refine Run.q (e:=vT_Pn_I) (gv:=vB) (oi_TransverseForward _ _) fun r17 _=>?_
      refine Run.q (e:=vT_Iv_I) (gv:=vB) (oi_TransverseTurn _ _) fun r18 _=>?_
      refine Run.y (gv:=vB) (fun _=>?_) (fun _=>?_)
      ·refine Run.z [true,true,true,true,true] ?_
       exact Run.x 2
      ·refine Run.z [false,false] ?_
       refine Run.q (e:=vB) (gv:=vB) (os_HasI _ _) fun r19 _=>?_
       refine Run.z [false] ?_
       refine Run.y (gv:=vB) (fun _=>?_) (fun _=>?_)
       ·refine Run.z [true,true] ?_
        refine Run.y (gv:=vB) (fun _=>?_) (fun _=>?_)
        ·refine Run.z [true,true,true,false,true,false] ?_
         exact Run.x 2
        ·refine Run.z [false] ?_
         refine Run.q (e:=vB) (gv:=vB) (os_HasI _ _) fun r20 _=>?_
         refine Run.z [true,false,false,true,false] ?_
         exact Run.x 2
       ·refine Run.z [false,false,false,false,false,false] ?_
        exact Run.x 2
theorem ol_d8Long_ln (c0 : Cd) : Fun Tryz.prog 21 [(c0.row,c0.ty)] #[c0.sl 0,.slice none 0 0] (vB (L_d8Long c0 Cd.nil)) [(c0.row,c0.ty)]:=by
 refine Fun.ofH 400 E_ok mixed Tryz.func21 (by kernel_rfl) (by kernel_rfl) ?_
 unfold L_d8Long
 refine Run.y (gv:=vB) (fun _=>?_) (fun _=>?_)
 ·refine Run.z [true,true,true] ?_
  exact Run.x 1
 ·refine Run.z [false,false,false] ?_
  exact Run.x 1
theorem ol_FnTransverse_ln (c0 : Cd) : Fun Tryz.prog 6 [(c0.row,c0.ty)] #[c0.sl 0,.slice none 0 0] (vB (L_FnTransverse c0 Cd.nil)) [(c0.row,c0.ty)]:=by
 refine Fun.ofH 400 E_ok mixed Tryz.func6 (by kernel_rfl) (by kernel_rfl) ?_
 unfold L_FnTransverse
 refine Run.vl (e:=vB) (gv:=vB) [0] (ol_d8Long_ln _) (allc (c0.calm) rfl) fun r1 _=>?_
 refine Run.y (gv:=vB) (fun _=>?_) (fun _=>?_)
 ·exact Run.x 1
 ·refine Run.vl (e:=vPj) (gv:=vB) [0] (os_E8Transverse _) (allc (c0.calm) rfl) fun r2 _=>?_
  refine Run.q (e:=vPt) (gv:=vB) (os_E8Point_n) fun r3 _=>?_
  refine Run.q (e:=vT_Pn_I) (gv:=vB) (oi_TransverseForward _ _) fun r4 _=>?_
  refine Run.q (e:=vT_Iv_I) (gv:=vB) (oi_TransverseScale _ _) fun r5 _=>?_
  refine Run.y (gv:=vB) (fun _=>?_) (fun _=>?_)
  ·refine Run.q (e:=vT_Pn_I) (gv:=vB) (os_TransverseForward _ _) fun r6 _=>?_
   exact Run.x 1
  ·refine Run.y (gv:=vB) (fun _=>?_) (fun _=>?_)
   ·refine Run.z [true] ?_
    refine Run.q (e:=vIv) (gv:=vB) (os_Integer _) fun r7 _=>?_
    refine Run.z [true] ?_
    refine Run.q (e:=vI) (gv:=vB) (os_LessI _ _) fun r8 _=>?_
    refine Run.z [true,true] ?_
    refine Run.y (gv:=vB) (fun _=>?_) (fun _=>?_)
    ·exact Run.x 1
    ·refine Run.q (e:=vT_Iv_Iv_I) (gv:=vB) (oi_TransverseInverse _ _) fun r9 _=>?_
     refine Run.y (gv:=vB) (fun _=>?_) (fun _=>?_)
     ·refine Run.z [true,true,true,true,true,true] ?_
      exact Run.x 1
     ·refine Run.z [false,false,false] ?_
      refine Run.q (e:=vB) (gv:=vB) (os_AtPoint _ _ _) fun r10 _=>?_
      refine Run.z [false,false] ?_
      refine Run.y (gv:=vB) (fun _=>?_) (fun _=>?_)
      ·exact Run.x 1
      ·refine Run.q (e:=vT_Pn_I) (gv:=vB) (oi_TransverseForward _ _) fun r11 _=>?_
       refine Run.q (e:=vT_Iv_I) (gv:=vB) (oi_TransverseTurn _ _) fun r12 _=>?_
       refine Run.y (gv:=vB) (fun _=>?_) (fun _=>?_)
       ·refine Run.z [true,true,true,true,true] ?_
        exact Run.x 1
       ·refine Run.z [false,false] ?_
        refine Run.q (e:=vB) (gv:=vB) (os_HasI _ _) fun r13 _=>?_
        refine Run.z [false] ?_
        refine Run.y (gv:=vB) (fun _=>?_) (fun _=>?_)
        ·refine Run.z [true,true] ?_
         refine Run.y (gv:=vB) (fun _=>?_) (fun _=>?_)
         ·refine Run.z [true,true,true,false,true,false] ?_
          exact Run.x 1
         ·refine Run.z [false] ?_
          refine Run.q (e:=vB) (gv:=vB) (os_HasI _ _) fun r14 _=>?_
          refine Run.z [true,false,false,true,false] ?_
          exact Run.x 1
        ·refine Run.z [false,false,false,false,false,false] ?_
         exact Run.x 1
   ·refine Run.z [false,false,false,false,false] ?_
    refine Run.q (e:=vT_Iv_Iv_I) (gv:=vB) (oi_TransverseInverse _ _) fun r15 _=>?_
    refine Run.y (gv:=vB) (fun _=>?_) (fun _=>?_)
    ·refine Run.z [true,true,true,true,true,true] ?_
     exact Run.x 1
    ·refine Run.z [false,false,false] ?_
     refine Run.q (e:=vB) (gv:=vB) (os_AtPoint _ _ _) fun r16 _=>?_
     refine Run.z [false,false] ?_
     refine Run.y (gv:=vB) (fun _=>?_) (fun _=>?_)
     ·exact Run.x 1
     ·refine Run.q (e:=vT_Pn_I) (gv:=vB) (oi_TransverseForward _ _) fun r17 _=>?_
      refine Run.q (e:=vT_Iv_I) (gv:=vB) (oi_TransverseTurn _ _) fun r18 _=>?_
      refine Run.y (gv:=vB) (fun _=>?_) (fun _=>?_)
      ·refine Run.z [true,true,true,true,true] ?_
       exact Run.x 1
      ·refine Run.z [false,false] ?_
       refine Run.q (e:=vB) (gv:=vB) (os_HasI _ _) fun r19 _=>?_
       refine Run.z [false] ?_
       refine Run.y (gv:=vB) (fun _=>?_) (fun _=>?_)
       ·refine Run.z [true,true] ?_
        refine Run.y (gv:=vB) (fun _=>?_) (fun _=>?_)
        ·refine Run.z [true,true,true,false,true,false] ?_
         exact Run.x 1
        ·refine Run.z [false] ?_
         refine Run.q (e:=vB) (gv:=vB) (os_HasI _ _) fun r20 _=>?_
         refine Run.z [true,false,false,true,false] ?_
         exact Run.x 1
       ·refine Run.z [false,false,false,false,false,false] ?_
        exact Run.x 1
theorem ol_d8Long_nl (c0 : Cd) : Fun Tryz.prog 21 [(c0.row,c0.ty)] #[.slice none 0 0,c0.sl 0] (vB (L_d8Long Cd.nil c0)) [(c0.row,c0.ty)]:=by
 refine Fun.ofH 400 E_ok mixed Tryz.func21 (by kernel_rfl) (by kernel_rfl) ?_
 unfold L_d8Long
 refine Run.y (gv:=vB) (fun _=>?_) (fun _=>?_)
 ·refine Run.z [true,true,true] ?_
  exact Run.x 1
 ·refine Run.z [false,false,false] ?_
  exact Run.x 1
theorem ol_FnTransverse_nl (c0 : Cd) : Fun Tryz.prog 6 [(c0.row,c0.ty)] #[.slice none 0 0,c0.sl 0] (vB (L_FnTransverse Cd.nil c0)) [(c0.row,c0.ty)]:=by
 refine Fun.ofH 400 E_ok mixed Tryz.func6 (by kernel_rfl) (by kernel_rfl) ?_
 unfold L_FnTransverse
 refine Run.vl (e:=vB) (gv:=vB) [0] (ol_d8Long_nl _) (allc (c0.calm) rfl) fun r1 _=>?_
 refine Run.y (gv:=vB) (fun _=>?_) (fun _=>?_)
 ·exact Run.x 1
 ·refine Run.q (e:=vPj) (gv:=vB) (os_E8Transverse_n) fun r2 _=>?_
  refine Run.vl (e:=vPt) (gv:=vB) [0] (os_E8Point _) (allc (c0.calm) rfl) fun r3 _=>?_
  refine Run.q (e:=vT_Pn_I) (gv:=vB) (oi_TransverseForward _ _) fun r4 _=>?_
  refine Run.q (e:=vT_Iv_I) (gv:=vB) (oi_TransverseScale _ _) fun r5 _=>?_
  refine Run.y (gv:=vB) (fun _=>?_) (fun _=>?_)
  ·refine Run.q (e:=vT_Pn_I) (gv:=vB) (os_TransverseForward _ _) fun r6 _=>?_
   exact Run.x 1
  ·refine Run.y (gv:=vB) (fun _=>?_) (fun _=>?_)
   ·refine Run.z [true] ?_
    refine Run.q (e:=vIv) (gv:=vB) (os_Integer _) fun r7 _=>?_
    refine Run.z [true] ?_
    refine Run.q (e:=vI) (gv:=vB) (os_LessI _ _) fun r8 _=>?_
    refine Run.z [true,true] ?_
    refine Run.y (gv:=vB) (fun _=>?_) (fun _=>?_)
    ·exact Run.x 1
    ·refine Run.q (e:=vT_Iv_Iv_I) (gv:=vB) (oi_TransverseInverse _ _) fun r9 _=>?_
     refine Run.y (gv:=vB) (fun _=>?_) (fun _=>?_)
     ·refine Run.z [true,true,true,true,true,true] ?_
      exact Run.x 1
     ·refine Run.z [false,false,false] ?_
      refine Run.q (e:=vB) (gv:=vB) (os_AtPoint _ _ _) fun r10 _=>?_
      refine Run.z [false,false] ?_
      refine Run.y (gv:=vB) (fun _=>?_) (fun _=>?_)
      ·exact Run.x 1
      ·refine Run.q (e:=vT_Pn_I) (gv:=vB) (oi_TransverseForward _ _) fun r11 _=>?_
       refine Run.q (e:=vT_Iv_I) (gv:=vB) (oi_TransverseTurn _ _) fun r12 _=>?_
       refine Run.y (gv:=vB) (fun _=>?_) (fun _=>?_)
       ·refine Run.z [true,true,true,true,true] ?_
        exact Run.x 1
       ·refine Run.z [false,false] ?_
        refine Run.q (e:=vB) (gv:=vB) (os_HasI _ _) fun r13 _=>?_
        refine Run.z [false] ?_
        refine Run.y (gv:=vB) (fun _=>?_) (fun _=>?_)
        ·refine Run.z [true,true] ?_
         refine Run.y (gv:=vB) (fun _=>?_) (fun _=>?_)
         ·refine Run.z [true,true,true,false,true,false] ?_
          exact Run.x 1
         ·refine Run.z [false] ?_
          refine Run.q (e:=vB) (gv:=vB) (os_HasI _ _) fun r14 _=>?_
          refine Run.z [true,false,false,true,false] ?_
          exact Run.x 1
        ·refine Run.z [false,false,false,false,false,false] ?_
         exact Run.x 1
   ·refine Run.z [false,false,false,false,false] ?_
    refine Run.q (e:=vT_Iv_Iv_I) (gv:=vB) (oi_TransverseInverse _ _) fun r15 _=>?_
    refine Run.y (gv:=vB) (fun _=>?_) (fun _=>?_)
    ·refine Run.z [true,true,true,true,true,true] ?_
     exact Run.x 1
    ·refine Run.z [false,false,false] ?_
     refine Run.q (e:=vB) (gv:=vB) (os_AtPoint _ _ _) fun r16 _=>?_
     refine Run.z [false,false] ?_
     refine Run.y (gv:=vB) (fun _=>?_) (fun _=>?_)
     ·exact Run.x 1
     ·refine Run.q (e:=vT_Pn_I) (gv:=vB) (oi_TransverseForward _ _) fun r17 _=>?_
      refine Run.q (e:=vT_Iv_I) (gv:=vB) (oi_TransverseTurn _ _) fun r18 _=>?_
      refine Run.y (gv:=vB) (fun _=>?_) (fun _=>?_)
      ·refine Run.z [true,true,true,true,true] ?_
       exact Run.x 1
      ·refine Run.z [false,false] ?_
       refine Run.q (e:=vB) (gv:=vB) (os_HasI _ _) fun r19 _=>?_
       refine Run.z [false] ?_
       refine Run.y (gv:=vB) (fun _=>?_) (fun _=>?_)
       ·refine Run.z [true,true] ?_
        refine Run.y (gv:=vB) (fun _=>?_) (fun _=>?_)
        ·refine Run.z [true,true,true,false,true,false] ?_
         exact Run.x 1
        ·refine Run.z [false] ?_
         refine Run.q (e:=vB) (gv:=vB) (os_HasI _ _) fun r20 _=>?_
         refine Run.z [true,false,false,true,false] ?_
         exact Run.x 1
       ·refine Run.z [false,false,false,false,false,false] ?_
        exact Run.x 1
theorem ol_d8Long_nn : Fun Tryz.prog 21 [] #[.slice none 0 0,.slice none 0 0] (vB (L_d8Long Cd.nil Cd.nil)) []:=by
 refine Fun.ofH 400 E_ok mixed Tryz.func21 (by kernel_rfl) (by kernel_rfl) ?_
 unfold L_d8Long
 refine Run.y (gv:=vB) (fun _=>?_) (fun _=>?_)
 ·refine Run.z [true,true,true] ?_
  exact Run.x 0
 ·refine Run.z [false,false,false] ?_
  exact Run.x 0
theorem ol_FnTransverse_nn : Fun Tryz.prog 6 [] #[.slice none 0 0,.slice none 0 0] (vB (L_FnTransverse Cd.nil Cd.nil)) []:=by
 refine Fun.ofH 400 E_ok mixed Tryz.func6 (by kernel_rfl) (by kernel_rfl) ?_
 unfold L_FnTransverse
 refine Run.q (e:=vB) (gv:=vB) (ol_d8Long_nn) fun r1 _=>?_
 refine Run.y (gv:=vB) (fun _=>?_) (fun _=>?_)
 ·exact Run.x 0
 ·refine Run.q (e:=vPj) (gv:=vB) (os_E8Transverse_n) fun r2 _=>?_
  refine Run.q (e:=vPt) (gv:=vB) (os_E8Point_n) fun r3 _=>?_
  refine Run.q (e:=vT_Pn_I) (gv:=vB) (oi_TransverseForward _ _) fun r4 _=>?_
  refine Run.q (e:=vT_Iv_I) (gv:=vB) (oi_TransverseScale _ _) fun r5 _=>?_
  refine Run.y (gv:=vB) (fun _=>?_) (fun _=>?_)
  ·refine Run.q (e:=vT_Pn_I) (gv:=vB) (os_TransverseForward _ _) fun r6 _=>?_
   exact Run.x 0
  ·refine Run.y (gv:=vB) (fun _=>?_) (fun _=>?_)
   ·refine Run.z [true] ?_
    refine Run.q (e:=vIv) (gv:=vB) (os_Integer _) fun r7 _=>?_
    refine Run.z [true] ?_
    refine Run.q (e:=vI) (gv:=vB) (os_LessI _ _) fun r8 _=>?_
    refine Run.z [true,true] ?_
    refine Run.y (gv:=vB) (fun _=>?_) (fun _=>?_)
    ·exact Run.x 0
    ·refine Run.q (e:=vT_Iv_Iv_I) (gv:=vB) (oi_TransverseInverse _ _) fun r9 _=>?_
     refine Run.y (gv:=vB) (fun _=>?_) (fun _=>?_)
     ·refine Run.z [true,true,true,true,true,true] ?_
      exact Run.x 0
     ·refine Run.z [false,false,false] ?_
      refine Run.q (e:=vB) (gv:=vB) (os_AtPoint _ _ _) fun r10 _=>?_
      refine Run.z [false,false] ?_
      refine Run.y (gv:=vB) (fun _=>?_) (fun _=>?_)
      ·exact Run.x 0
      ·refine Run.q (e:=vT_Pn_I) (gv:=vB) (oi_TransverseForward _ _) fun r11 _=>?_
       refine Run.q (e:=vT_Iv_I) (gv:=vB) (oi_TransverseTurn _ _) fun r12 _=>?_
       refine Run.y (gv:=vB) (fun _=>?_) (fun _=>?_)
       ·refine Run.z [true,true,true,true,true] ?_
        exact Run.x 0
       ·refine Run.z [false,false] ?_
        refine Run.q (e:=vB) (gv:=vB) (os_HasI _ _) fun r13 _=>?_
        refine Run.z [false] ?_
        refine Run.y (gv:=vB) (fun _=>?_) (fun _=>?_)
        ·refine Run.z [true,true] ?_
         refine Run.y (gv:=vB) (fun _=>?_) (fun _=>?_)
         ·refine Run.z [true,true,true,false,true,false] ?_
          exact Run.x 0
         ·refine Run.z [false] ?_
          refine Run.q (e:=vB) (gv:=vB) (os_HasI _ _) fun r14 _=>?_
          refine Run.z [true,false,false,true,false] ?_
          exact Run.x 0
        ·refine Run.z [false,false,false,false,false,false] ?_
         exact Run.x 0
   ·refine Run.z [false,false,false,false,false] ?_
    refine Run.q (e:=vT_Iv_Iv_I) (gv:=vB) (oi_TransverseInverse _ _) fun r15 _=>?_
    refine Run.y (gv:=vB) (fun _=>?_) (fun _=>?_)
    ·refine Run.z [true,true,true,true,true,true] ?_
     exact Run.x 0
    ·refine Run.z [false,false,false] ?_
     refine Run.q (e:=vB) (gv:=vB) (os_AtPoint _ _ _) fun r16 _=>?_
     refine Run.z [false,false] ?_
     refine Run.y (gv:=vB) (fun _=>?_) (fun _=>?_)
     ·exact Run.x 0
     ·refine Run.q (e:=vT_Pn_I) (gv:=vB) (oi_TransverseForward _ _) fun r17 _=>?_
      refine Run.q (e:=vT_Iv_I) (gv:=vB) (oi_TransverseTurn _ _) fun r18 _=>?_
      refine Run.y (gv:=vB) (fun _=>?_) (fun _=>?_)
      ·refine Run.z [true,true,true,true,true] ?_
       exact Run.x 0
      ·refine Run.z [false,false] ?_
       refine Run.q (e:=vB) (gv:=vB) (os_HasI _ _) fun r19 _=>?_
       refine Run.z [false] ?_
       refine Run.y (gv:=vB) (fun _=>?_) (fun _=>?_)
       ·refine Run.z [true,true] ?_
        refine Run.y (gv:=vB) (fun _=>?_) (fun _=>?_)
        ·refine Run.z [true,true,true,false,true,false] ?_
         exact Run.x 0
        ·refine Run.z [false] ?_
         refine Run.q (e:=vB) (gv:=vB) (os_HasI _ _) fun r20 _=>?_
         refine Run.z [true,false,false,true,false] ?_
         exact Run.x 0
       ·refine Run.z [false,false,false,false,false,false] ?_
        exact Run.x 0
theorem ol_d8Long_lv (c0 : Cd) (c1 : Cv c0.row) : Fun Tryz.prog 21 [(c0.row,c0.ty)] #[c0.sl 0,(c0.vw c1).sl 0] (vB (L_d8Long c0 (c0.vw c1))) [(c0.row,c0.ty)]:=by
 refine Fun.ofH 400 E_ok mixed Tryz.func21 (by kernel_rfl) (by kernel_rfl) ?_
 unfold L_d8Long
 refine Run.y (gv:=vB) (fun _=>?_) (fun _=>?_)
 ·refine Run.z [true,true,true] ?_
  exact Run.x 1
 ·refine Run.z [false,false,false] ?_
  exact Run.x 1
theorem ol_FnTransverse_lv (c0 : Cd) (c1 : Cv c0.row) : Fun Tryz.prog 6 [(c0.row,c0.ty)] #[c0.sl 0,(c0.vw c1).sl 0] (vB (L_FnTransverse c0 (c0.vw c1))) [(c0.row,c0.ty)]:=by
 refine Fun.ofH 400 E_ok mixed Tryz.func6 (by kernel_rfl) (by kernel_rfl) ?_
 unfold L_FnTransverse
 refine Run.vl (e:=vB) (gv:=vB) [0] (ol_d8Long_lv _ _) (allc (c0.calm) rfl) fun r1 _=>?_
 refine Run.y (gv:=vB) (fun _=>?_) (fun _=>?_)
 ·exact Run.x 1
 ·refine Run.vl (e:=vPj) (gv:=vB) [0] (os_E8Transverse _) (allc (c0.calm) rfl) fun r2 _=>?_
  refine Run.vl (e:=vPt) (gv:=vB) [0] (os_E8Point _) (allc (c0.calm) rfl) fun r3 _=>?_
  refine Run.q (e:=vT_Pn_I) (gv:=vB) (oi_TransverseForward _ _) fun r4 _=>?_
  refine Run.q (e:=vT_Iv_I) (gv:=vB) (oi_TransverseScale _ _) fun r5 _=>?_
  refine Run.y (gv:=vB) (fun _=>?_) (fun _=>?_)
  ·refine Run.q (e:=vT_Pn_I) (gv:=vB) (os_TransverseForward _ _) fun r6 _=>?_
   exact Run.x 1
  ·refine Run.y (gv:=vB) (fun _=>?_) (fun _=>?_)
   ·refine Run.z [true] ?_
    refine Run.q (e:=vIv) (gv:=vB) (os_Integer _) fun r7 _=>?_
    refine Run.z [true] ?_
    refine Run.q (e:=vI) (gv:=vB) (os_LessI _ _) fun r8 _=>?_
    refine Run.z [true,true] ?_
    refine Run.y (gv:=vB) (fun _=>?_) (fun _=>?_)
    ·exact Run.x 1
    ·refine Run.q (e:=vT_Iv_Iv_I) (gv:=vB) (oi_TransverseInverse _ _) fun r9 _=>?_
     refine Run.y (gv:=vB) (fun _=>?_) (fun _=>?_)
     ·refine Run.z [true,true,true,true,true,true] ?_
      exact Run.x 1
     ·refine Run.z [false,false,false] ?_
      refine Run.q (e:=vB) (gv:=vB) (os_AtPoint _ _ _) fun r10 _=>?_
      refine Run.z [false,false] ?_
      refine Run.y (gv:=vB) (fun _=>?_) (fun _=>?_)
      ·exact Run.x 1
      ·refine Run.q (e:=vT_Pn_I) (gv:=vB) (oi_TransverseForward _ _) fun r11 _=>?_
       refine Run.q (e:=vT_Iv_I) (gv:=vB) (oi_TransverseTurn _ _) fun r12 _=>?_
       refine Run.y (gv:=vB) (fun _=>?_) (fun _=>?_)
       ·refine Run.z [true,true,true,true,true] ?_
        exact Run.x 1
       ·refine Run.z [false,false] ?_
        refine Run.q (e:=vB) (gv:=vB) (os_HasI _ _) fun r13 _=>?_
        refine Run.z [false] ?_
        refine Run.y (gv:=vB) (fun _=>?_) (fun _=>?_)
        ·refine Run.z [true,true] ?_
         refine Run.y (gv:=vB) (fun _=>?_) (fun _=>?_)
         ·refine Run.z [true,true,true,false,true,false] ?_
          exact Run.x 1
         ·refine Run.z [false] ?_
          refine Run.q (e:=vB) (gv:=vB) (os_HasI _ _) fun r14 _=>?_
          refine Run.z [true,false,false,true,false] ?_
          exact Run.x 1
        ·refine Run.z [false,false,false,false,false,false] ?_
         exact Run.x 1
   ·refine Run.z [false,false,false,false,false] ?_
    refine Run.q (e:=vT_Iv_Iv_I) (gv:=vB) (oi_TransverseInverse _ _) fun r15 _=>?_
    refine Run.y (gv:=vB) (fun _=>?_) (fun _=>?_)
    ·refine Run.z [true,true,true,true,true,true] ?_
     exact Run.x 1
    ·refine Run.z [false,false,false] ?_
     refine Run.q (e:=vB) (gv:=vB) (os_AtPoint _ _ _) fun r16 _=>?_
     refine Run.z [false,false] ?_
     refine Run.y (gv:=vB) (fun _=>?_) (fun _=>?_)
     ·exact Run.x 1
     ·refine Run.q (e:=vT_Pn_I) (gv:=vB) (oi_TransverseForward _ _) fun r17 _=>?_
      refine Run.q (e:=vT_Iv_I) (gv:=vB) (oi_TransverseTurn _ _) fun r18 _=>?_
      refine Run.y (gv:=vB) (fun _=>?_) (fun _=>?_)
      ·refine Run.z [true,true,true,true,true] ?_
       exact Run.x 1
      ·refine Run.z [false,false] ?_
       refine Run.q (e:=vB) (gv:=vB) (os_HasI _ _) fun r19 _=>?_
       refine Run.z [false] ?_
       refine Run.y (gv:=vB) (fun _=>?_) (fun _=>?_)
       ·refine Run.z [true,true] ?_
        refine Run.y (gv:=vB) (fun _=>?_) (fun _=>?_)
        ·refine Run.z [true,true,true,false,true,false] ?_
         exact Run.x 1
        ·refine Run.z [false] ?_
         refine Run.q (e:=vB) (gv:=vB) (os_HasI _ _) fun r20 _=>?_
         refine Run.z [true,false,false,true,false] ?_
         exact Run.x 1
       ·refine Run.z [false,false,false,false,false,false] ?_
        exact Run.x 1
end Go.Proofs.YtcdkepbgjgcjfaaGreat.Abs
