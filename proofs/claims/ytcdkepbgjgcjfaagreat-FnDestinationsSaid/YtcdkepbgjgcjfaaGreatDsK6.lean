/- The program's functions are these; part 6 (written by w.py). -/
import Derived.Test.YtcdkepbgjgcjfaaGreatDsE
import Derived.Test.YtcdkepbgjgcjfaaGreatDsF3
import Derived.Test.YtcdkepbgjgcjfaaGreatDsQpre
import Derived.Test.YtcdkepbgjgcjfaaGreatDsK1
import Derived.Test.YtcdkepbgjgcjfaaGreatDsK2
import Derived.Test.YtcdkepbgjgcjfaaGreatDsK3
import Derived.Test.YtcdkepbgjgcjfaaGreatDsK5
set_option linter.unusedVariables false
set_option linter.unusedSimpArgs false
namespace Go.Proofs.YtcdkepbgjgcjfaaGreat.Abs
open Go Go.RowKit

theorem ok_laws_FnDestinations (c0 : Cd) : Fun Tryz.prog 5 [(c0.row, c0.ty)] #[c0.sl 0] (vB (F_laws_FnDestinations c0)) [(c0.row, c0.ty)] := by
 refine Fun.ofH 400 E_ok mixed Tryz.func5 (by kernel_rfl) (by kernel_rfl) ?_
 unfold F_laws_FnDestinations
 refine Run.y (gv := vB) (fun _ => ?_) (fun _ => ?_)
 ·exact Run.x 1
 ·refine Run.vl (e := vT_Pt_Pt_Pt) (gv := vB) [0] (ok_spec_E8Points _) (allc (c0.calm) rfl) fun r1 _ => ?_
  refine Run.q (e := vT_Iv_I) (gv := vB) (ok_impl_AzimuthTo _ _) fun r2 _ => ?_
  refine Run.q (e := vT_Iv_I) (gv := vB) (ok_impl_AngleBetween _ _) fun r3 _ => ?_
  refine Run.y (gv := vB) (fun _ => ?_) (fun _ => ?_)
  ·refine Run.z [true, true, true] ?_
   refine Run.q (e := vT_Iv_I) (gv := vB) (ok_spec_AzimuthTo _ _) fun r4 _ => ?_
   refine Run.q (e := vT_Iv_I) (gv := vB) (ok_spec_AngleBetween _ _) fun r5 _ => ?_
   refine Run.y (gv := vB) (fun _ => ?_) (fun _ => ?_)
   ·refine Run.z [true, true, true] ?_
    exact Run.x 1
   ·refine Run.z [false, false, false] ?_
    exact Run.x 1
  ·refine Run.z [false, false] ?_
   refine Run.y (gv := vB) (fun _ => ?_) (fun _ => ?_)
   ·refine Run.q (e := vT_Iv_I) (gv := vB) (ok_spec_AzimuthTo _ _) fun r6 _ => ?_
    refine Run.q (e := vT_Iv_I) (gv := vB) (ok_spec_AngleBetween _ _) fun r7 _ => ?_
    refine Run.y (gv := vB) (fun _ => ?_) (fun _ => ?_)
    ·refine Run.z [true, true, true] ?_
     exact Run.x 1
    ·refine Run.z [false, false, false] ?_
     exact Run.x 1
   ·refine Run.q (e := vT_Iv_Iv_I) (gv := vB) (ok_impl_Destination _ _ _) fun r8 _ => ?_
    refine Run.y (gv := vB) (fun _ => ?_) (fun _ => ?_)
    ·refine Run.q (e := vT_Iv_Iv_I) (gv := vB) (ok_spec_Destination _ _ _) fun r9 _ => ?_
     exact Run.x 1
    ·refine Run.q (e := vB) (gv := vB) (ok_spec_AtPoint _ _ _) fun r10 _ => ?_
     exact Run.x 1

theorem ok_laws_FnDestinations_n : Fun Tryz.prog 5 [] #[.slice none 0 0] (vB (F_laws_FnDestinations Cd.nil)) [] := by
 refine Fun.ofH 400 E_ok mixed Tryz.func5 (by kernel_rfl) (by kernel_rfl) ?_
 unfold F_laws_FnDestinations
 refine Run.y (gv := vB) (fun _ => ?_) (fun _ => ?_)
 ·exact Run.x 0
 ·refine Run.q (e := vT_Pt_Pt_Pt) (gv := vB) (ok_spec_E8Points_n) fun r1 _ => ?_
  refine Run.q (e := vT_Iv_I) (gv := vB) (ok_impl_AzimuthTo _ _) fun r2 _ => ?_
  refine Run.q (e := vT_Iv_I) (gv := vB) (ok_impl_AngleBetween _ _) fun r3 _ => ?_
  refine Run.y (gv := vB) (fun _ => ?_) (fun _ => ?_)
  ·refine Run.z [true, true, true] ?_
   refine Run.q (e := vT_Iv_I) (gv := vB) (ok_spec_AzimuthTo _ _) fun r4 _ => ?_
   refine Run.q (e := vT_Iv_I) (gv := vB) (ok_spec_AngleBetween _ _) fun r5 _ => ?_
   refine Run.y (gv := vB) (fun _ => ?_) (fun _ => ?_)
   ·refine Run.z [true, true, true] ?_
    exact Run.x 0
   ·refine Run.z [false, false, false] ?_
    exact Run.x 0
  ·refine Run.z [false, false] ?_
   refine Run.y (gv := vB) (fun _ => ?_) (fun _ => ?_)
   ·refine Run.q (e := vT_Iv_I) (gv := vB) (ok_spec_AzimuthTo _ _) fun r6 _ => ?_
    refine Run.q (e := vT_Iv_I) (gv := vB) (ok_spec_AngleBetween _ _) fun r7 _ => ?_
    refine Run.y (gv := vB) (fun _ => ?_) (fun _ => ?_)
    ·refine Run.z [true, true, true] ?_
     exact Run.x 0
    ·refine Run.z [false, false, false] ?_
     exact Run.x 0
   ·refine Run.q (e := vT_Iv_Iv_I) (gv := vB) (ok_impl_Destination _ _ _) fun r8 _ => ?_
    refine Run.y (gv := vB) (fun _ => ?_) (fun _ => ?_)
    ·refine Run.q (e := vT_Iv_Iv_I) (gv := vB) (ok_spec_Destination _ _ _) fun r9 _ => ?_
     exact Run.x 0
    ·refine Run.q (e := vB) (gv := vB) (ok_spec_AtPoint _ _ _) fun r10 _ => ?_
     exact Run.x 0

end Go.Proofs.YtcdkepbgjgcjfaaGreat.Abs
