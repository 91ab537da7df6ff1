/- The program's functions are these; part 5 (written by w.py). -/
import Derived.Test.YtcdkepbgjgcjfaaGreatPsE
import Derived.Test.YtcdkepbgjgcjfaaGreatPsF4
import Derived.Test.YtcdkepbgjgcjfaaGreatPsQpre
import Derived.Test.YtcdkepbgjgcjfaaGreatPsK1
import Derived.Test.YtcdkepbgjgcjfaaGreatPsK2
import Derived.Test.YtcdkepbgjgcjfaaGreatPsK4
set_option linter.unusedVariables false
set_option linter.unusedSimpArgs false
namespace Go.Proofs.YtcdkepbgjgcjfaaGreat.Abs
open Go Go.RowKit

theorem ok_laws_d8Long (c0 : Cd) (c1 : Cd) : Fun Tryz.prog 21 [(c0.row, c0.ty), (c1.row, c1.ty)] #[c0.sl 0, c1.sl 1] (vB (F_laws_d8Long c0 c1)) [(c0.row, c0.ty), (c1.row, c1.ty)] := by
 refine Fun.ofH 400 E_ok mixed Tryz.func21 (by kernel_rfl) (by kernel_rfl) ?_
 unfold F_laws_d8Long
 refine Run.y (gv := vB) (fun _ => ?_) (fun _ => ?_)
 ·refine Run.z [true, true, true] ?_
  exact Run.x 2
 ·refine Run.z [false, false, false] ?_
  exact Run.x 2

theorem ok_laws_FnPseudo (c0 : Cd) (c1 : Cd) : Fun Tryz.prog 4 [(c0.row, c0.ty), (c1.row, c1.ty)] #[c0.sl 0, c1.sl 1] (vB (F_laws_FnPseudo c0 c1)) [(c0.row, c0.ty), (c1.row, c1.ty)] := by
 refine Fun.ofH 400 E_ok mixed Tryz.func4 (by kernel_rfl) (by kernel_rfl) ?_
 unfold F_laws_FnPseudo
 refine Run.vl (e := vB) (gv := vB) [0, 1] (ok_laws_d8Long _ _) (allc (c0.calm) (allc (c1.calm) rfl)) fun r1 _ => ?_
 refine Run.y (gv := vB) (fun _ => ?_) (fun _ => ?_)
 ·exact Run.x 2
 ·refine Run.vl (e := vPj) (gv := vB) [0] (ok_spec_E8Pseudo _) (allc (c0.calm) rfl) fun r2 _ => ?_
  refine Run.vl (e := vPt) (gv := vB) [1] (ok_spec_E8Point _) (allc (c1.calm) rfl) fun r3 _ => ?_
  refine Run.q (e := vT_Pn_I) (gv := vB) (ok_impl_PseudoForward _ _) fun r4 _ => ?_
  refine Run.y (gv := vB) (fun _ => ?_) (fun _ => ?_)
  ·refine Run.q (e := vT_Pn_I) (gv := vB) (ok_spec_PseudoForward _ _) fun r5 _ => ?_
   exact Run.x 2
  ·refine Run.q (e := vT_Iv_Iv_I) (gv := vB) (ok_impl_PseudoInverse _ _) fun r6 _ => ?_
   refine Run.q (e := vT_I_I) (gv := vB) (ok_impl_OnMap _ _) fun r7 _ => ?_
   refine Run.y (gv := vB) (fun _ => ?_) (fun _ => ?_)
   ·refine Run.z [true, true, true, true, true, true, true, true, true, true, true, true] ?_
    exact Run.x 2
   ·refine Run.z [false, false] ?_
    refine Run.y (gv := vB) (fun _ => ?_) (fun _ => ?_)
    ·refine Run.z [true, true, true, true, true, true, true, true, true] ?_
     exact Run.x 2
    ·refine Run.z [false, false] ?_
     refine Run.y (gv := vB) (fun _ => ?_) (fun _ => ?_)
     ·refine Run.z [true, true, true, true, true, true] ?_
      exact Run.x 2
     ·refine Run.z [false, false, false] ?_
      refine Run.q (e := vB) (gv := vB) (ok_spec_AtPoint _ _ _) fun r8 _ => ?_
      refine Run.z [false, false] ?_
      refine Run.y (gv := vB) (fun _ => ?_) (fun _ => ?_)
      ·exact Run.x 2
      ·refine Run.q (e := vIv) (gv := vB) (ok_spec_LatOf _) fun r9 _ => ?_
       refine Run.q (e := vIv) (gv := vB) (ok_impl_ThetaOf _ _) fun r10 _ => ?_
       refine Run.q (e := vIv) (gv := vB) (ok_spec_LatOf _) fun r11 _ => ?_
       refine Run.q (e := vIv) (gv := vB) (ok_spec_SinI _) fun r12 _ => ?_
       refine Run.y (gv := vB) (fun _ => ?_) (fun _ => ?_)
       ·refine Run.q (e := vIv) (gv := vB) (ok_spec_DoubleI _) fun r13 _ => ?_
        refine Run.q (e := vIv) (gv := vB) (ok_spec_SinI _) fun r14 _ => ?_
        refine Run.q (e := vIv) (gv := vB) (ok_spec_AddI _ _) fun r15 _ => ?_
        refine Run.q (e := vIv) (gv := vB) (ok_spec_PiI) fun r16 _ => ?_
        refine Run.q (e := vIv) (gv := vB) (ok_spec_MulI _ _) fun r17 _ => ?_
        refine Run.q (e := vB) (gv := vB) (ok_spec_OverlapI _ _) fun r18 _ => ?_
        exact Run.x 2
       ·refine Run.y (gv := vB) (fun _ => ?_) (fun _ => ?_)
        ·refine Run.q (e := vIv) (gv := vB) (ok_spec_SinI _) fun r19 _ => ?_
         refine Run.q (e := vIv) (gv := vB) (ok_spec_AddI _ _) fun r20 _ => ?_
         refine Run.q (e := vIv) (gv := vB) (ok_spec_Integer _) fun r21 _ => ?_
         refine Run.q (e := vIv) (gv := vB) (ok_spec_TurnI _) fun r22 _ => ?_
         refine Run.q (e := vIv) (gv := vB) (ok_spec_AddI _ _) fun r23 _ => ?_
         refine Run.q (e := vIv) (gv := vB) (ok_spec_MulI _ _) fun r24 _ => ?_
         refine Run.q (e := vB) (gv := vB) (ok_spec_OverlapI _ _) fun r25 _ => ?_
         exact Run.x 2
        ·refine Run.q (e := vIv) (gv := vB) (ok_spec_LatOf _) fun r26 _ => ?_
         refine Run.q (e := vB) (gv := vB) (ok_spec_OverlapI _ _) fun r27 _ => ?_
         exact Run.x 2

theorem ok_laws_d8Long_ln (c0 : Cd) : Fun Tryz.prog 21 [(c0.row, c0.ty)] #[c0.sl 0, .slice none 0 0] (vB (F_laws_d8Long c0 Cd.nil)) [(c0.row, c0.ty)] := by
 refine Fun.ofH 400 E_ok mixed Tryz.func21 (by kernel_rfl) (by kernel_rfl) ?_
 unfold F_laws_d8Long
 refine Run.y (gv := vB) (fun _ => ?_) (fun _ => ?_)
 ·refine Run.z [true, true, true] ?_
  exact Run.x 1
 ·refine Run.z [false, false, false] ?_
  exact Run.x 1

theorem ok_laws_FnPseudo_ln (c0 : Cd) : Fun Tryz.prog 4 [(c0.row, c0.ty)] #[c0.sl 0, .slice none 0 0] (vB (F_laws_FnPseudo c0 Cd.nil)) [(c0.row, c0.ty)] := by
 refine Fun.ofH 400 E_ok mixed Tryz.func4 (by kernel_rfl) (by kernel_rfl) ?_
 unfold F_laws_FnPseudo
 refine Run.vl (e := vB) (gv := vB) [0] (ok_laws_d8Long_ln _) (allc (c0.calm) rfl) fun r1 _ => ?_
 refine Run.y (gv := vB) (fun _ => ?_) (fun _ => ?_)
 ·exact Run.x 1
 ·refine Run.vl (e := vPj) (gv := vB) [0] (ok_spec_E8Pseudo _) (allc (c0.calm) rfl) fun r2 _ => ?_
  refine Run.q (e := vPt) (gv := vB) (ok_spec_E8Point_n) fun r3 _ => ?_
  refine Run.q (e := vT_Pn_I) (gv := vB) (ok_impl_PseudoForward _ _) fun r4 _ => ?_
  refine Run.y (gv := vB) (fun _ => ?_) (fun _ => ?_)
  ·refine Run.q (e := vT_Pn_I) (gv := vB) (ok_spec_PseudoForward _ _) fun r5 _ => ?_
   exact Run.x 1
  ·refine Run.q (e := vT_Iv_Iv_I) (gv := vB) (ok_impl_PseudoInverse _ _) fun r6 _ => ?_
   refine Run.q (e := vT_I_I) (gv := vB) (ok_impl_OnMap _ _) fun r7 _ => ?_
   refine Run.y (gv := vB) (fun _ => ?_) (fun _ => ?_)
   ·refine Run.z [true, true, true, true, true, true, true, true, true, true, true, true] ?_
    exact Run.x 1
   ·refine Run.z [false, false] ?_
    refine Run.y (gv := vB) (fun _ => ?_) (fun _ => ?_)
    ·refine Run.z [true, true, true, true, true, true, true, true, true] ?_
     exact Run.x 1
    ·refine Run.z [false, false] ?_
     refine Run.y (gv := vB) (fun _ => ?_) (fun _ => ?_)
     ·refine Run.z [true, true, true, true, true, true] ?_
      exact Run.x 1
     ·refine Run.z [false, false, false] ?_
      refine Run.q (e := vB) (gv := vB) (ok_spec_AtPoint _ _ _) fun r8 _ => ?_
      refine Run.z [false, false] ?_
      refine Run.y (gv := vB) (fun _ => ?_) (fun _ => ?_)
      ·exact Run.x 1
      ·refine Run.q (e := vIv) (gv := vB) (ok_spec_LatOf _) fun r9 _ => ?_
       refine Run.q (e := vIv) (gv := vB) (ok_impl_ThetaOf _ _) fun r10 _ => ?_
       refine Run.q (e := vIv) (gv := vB) (ok_spec_LatOf _) fun r11 _ => ?_
       refine Run.q (e := vIv) (gv := vB) (ok_spec_SinI _) fun r12 _ => ?_
       refine Run.y (gv := vB) (fun _ => ?_) (fun _ => ?_)
       ·refine Run.q (e := vIv) (gv := vB) (ok_spec_DoubleI _) fun r13 _ => ?_
        refine Run.q (e := vIv) (gv := vB) (ok_spec_SinI _) fun r14 _ => ?_
        refine Run.q (e := vIv) (gv := vB) (ok_spec_AddI _ _) fun r15 _ => ?_
        refine Run.q (e := vIv) (gv := vB) (ok_spec_PiI) fun r16 _ => ?_
        refine Run.q (e := vIv) (gv := vB) (ok_spec_MulI _ _) fun r17 _ => ?_
        refine Run.q (e := vB) (gv := vB) (ok_spec_OverlapI _ _) fun r18 _ => ?_
        exact Run.x 1
       ·refine Run.y (gv := vB) (fun _ => ?_) (fun _ => ?_)
        ·refine Run.q (e := vIv) (gv := vB) (ok_spec_SinI _) fun r19 _ => ?_
         refine Run.q (e := vIv) (gv := vB) (ok_spec_AddI _ _) fun r20 _ => ?_
         refine Run.q (e := vIv) (gv := vB) (ok_spec_Integer _) fun r21 _ => ?_
         refine Run.q (e := vIv) (gv := vB) (ok_spec_TurnI _) fun r22 _ => ?_
         refine Run.q (e := vIv) (gv := vB) (ok_spec_AddI _ _) fun r23 _ => ?_
         refine Run.q (e := vIv) (gv := vB) (ok_spec_MulI _ _) fun r24 _ => ?_
         refine Run.q (e := vB) (gv := vB) (ok_spec_OverlapI _ _) fun r25 _ => ?_
         exact Run.x 1
        ·refine Run.q (e := vIv) (gv := vB) (ok_spec_LatOf _) fun r26 _ => ?_
         refine Run.q (e := vB) (gv := vB) (ok_spec_OverlapI _ _) fun r27 _ => ?_
         exact Run.x 1

theorem ok_laws_d8Long_nl (c0 : Cd) : Fun Tryz.prog 21 [(c0.row, c0.ty)] #[.slice none 0 0, c0.sl 0] (vB (F_laws_d8Long Cd.nil c0)) [(c0.row, c0.ty)] := by
 refine Fun.ofH 400 E_ok mixed Tryz.func21 (by kernel_rfl) (by kernel_rfl) ?_
 unfold F_laws_d8Long
 refine Run.y (gv := vB) (fun _ => ?_) (fun _ => ?_)
 ·refine Run.z [true, true, true] ?_
  exact Run.x 1
 ·refine Run.z [false, false, false] ?_
  exact Run.x 1

theorem ok_laws_FnPseudo_nl (c0 : Cd) : Fun Tryz.prog 4 [(c0.row, c0.ty)] #[.slice none 0 0, c0.sl 0] (vB (F_laws_FnPseudo Cd.nil c0)) [(c0.row, c0.ty)] := by
 refine Fun.ofH 400 E_ok mixed Tryz.func4 (by kernel_rfl) (by kernel_rfl) ?_
 unfold F_laws_FnPseudo
 refine Run.vl (e := vB) (gv := vB) [0] (ok_laws_d8Long_nl _) (allc (c0.calm) rfl) fun r1 _ => ?_
 refine Run.y (gv := vB) (fun _ => ?_) (fun _ => ?_)
 ·exact Run.x 1
 ·refine Run.q (e := vPj) (gv := vB) (ok_spec_E8Pseudo_n) fun r2 _ => ?_
  refine Run.vl (e := vPt) (gv := vB) [0] (ok_spec_E8Point _) (allc (c0.calm) rfl) fun r3 _ => ?_
  refine Run.q (e := vT_Pn_I) (gv := vB) (ok_impl_PseudoForward _ _) fun r4 _ => ?_
  refine Run.y (gv := vB) (fun _ => ?_) (fun _ => ?_)
  ·refine Run.q (e := vT_Pn_I) (gv := vB) (ok_spec_PseudoForward _ _) fun r5 _ => ?_
   exact Run.x 1
  ·refine Run.q (e := vT_Iv_Iv_I) (gv := vB) (ok_impl_PseudoInverse _ _) fun r6 _ => ?_
   refine Run.q (e := vT_I_I) (gv := vB) (ok_impl_OnMap _ _) fun r7 _ => ?_
   refine Run.y (gv := vB) (fun _ => ?_) (fun _ => ?_)
   ·refine Run.z [true, true, true, true, true, true, true, true, true, true, true, true] ?_
    exact Run.x 1
   ·refine Run.z [false, false] ?_
    refine Run.y (gv := vB) (fun _ => ?_) (fun _ => ?_)
    ·refine Run.z [true, true, true, true, true, true, true, true, true] ?_
     exact Run.x 1
    ·refine Run.z [false, false] ?_
     refine Run.y (gv := vB) (fun _ => ?_) (fun _ => ?_)
     ·refine Run.z [true, true, true, true, true, true] ?_
      exact Run.x 1
     ·refine Run.z [false, false, false] ?_
      refine Run.q (e := vB) (gv := vB) (ok_spec_AtPoint _ _ _) fun r8 _ => ?_
      refine Run.z [false, false] ?_
      refine Run.y (gv := vB) (fun _ => ?_) (fun _ => ?_)
      ·exact Run.x 1
      ·refine Run.q (e := vIv) (gv := vB) (ok_spec_LatOf _) fun r9 _ => ?_
       refine Run.q (e := vIv) (gv := vB) (ok_impl_ThetaOf _ _) fun r10 _ => ?_
       refine Run.q (e := vIv) (gv := vB) (ok_spec_LatOf _) fun r11 _ => ?_
       refine Run.q (e := vIv) (gv := vB) (ok_spec_SinI _) fun r12 _ => ?_
       refine Run.y (gv := vB) (fun _ => ?_) (fun _ => ?_)
       ·refine Run.q (e := vIv) (gv := vB) (ok_spec_DoubleI _) fun r13 _ => ?_
        refine Run.q (e := vIv) (gv := vB) (ok_spec_SinI _) fun r14 _ => ?_
        refine Run.q (e := vIv) (gv := vB) (ok_spec_AddI _ _) fun r15 _ => ?_
        refine Run.q (e := vIv) (gv := vB) (ok_spec_PiI) fun r16 _ => ?_
        refine Run.q (e := vIv) (gv := vB) (ok_spec_MulI _ _) fun r17 _ => ?_
        refine Run.q (e := vB) (gv := vB) (ok_spec_OverlapI _ _) fun r18 _ => ?_
        exact Run.x 1
       ·refine Run.y (gv := vB) (fun _ => ?_) (fun _ => ?_)
        ·refine Run.q (e := vIv) (gv := vB) (ok_spec_SinI _) fun r19 _ => ?_
         refine Run.q (e := vIv) (gv := vB) (ok_spec_AddI _ _) fun r20 _ => ?_
         refine Run.q (e := vIv) (gv := vB) (ok_spec_Integer _) fun r21 _ => ?_
         refine Run.q (e := vIv) (gv := vB) (ok_spec_TurnI _) fun r22 _ => ?_
         refine Run.q (e := vIv) (gv := vB) (ok_spec_AddI _ _) fun r23 _ => ?_
         refine Run.q (e := vIv) (gv := vB) (ok_spec_MulI _ _) fun r24 _ => ?_
         refine Run.q (e := vB) (gv := vB) (ok_spec_OverlapI _ _) fun r25 _ => ?_
         exact Run.x 1
        ·refine Run.q (e := vIv) (gv := vB) (ok_spec_LatOf _) fun r26 _ => ?_
         refine Run.q (e := vB) (gv := vB) (ok_spec_OverlapI _ _) fun r27 _ => ?_
         exact Run.x 1

theorem ok_laws_d8Long_nn : Fun Tryz.prog 21 [] #[.slice none 0 0, .slice none 0 0] (vB (F_laws_d8Long Cd.nil Cd.nil)) [] := by
 refine Fun.ofH 400 E_ok mixed Tryz.func21 (by kernel_rfl) (by kernel_rfl) ?_
 unfold F_laws_d8Long
 refine Run.y (gv := vB) (fun _ => ?_) (fun _ => ?_)
 ·refine Run.z [true, true, true] ?_
  exact Run.x 0
 ·refine Run.z [false, false, false] ?_
  exact Run.x 0

theorem ok_laws_FnPseudo_nn : Fun Tryz.prog 4 [] #[.slice none 0 0, .slice none 0 0] (vB (F_laws_FnPseudo Cd.nil Cd.nil)) [] := by
 refine Fun.ofH 400 E_ok mixed Tryz.func4 (by kernel_rfl) (by kernel_rfl) ?_
 unfold F_laws_FnPseudo
 refine Run.q (e := vB) (gv := vB) (ok_laws_d8Long_nn) fun r1 _ => ?_
 refine Run.y (gv := vB) (fun _ => ?_) (fun _ => ?_)
 ·exact Run.x 0
 ·refine Run.q (e := vPj) (gv := vB) (ok_spec_E8Pseudo_n) fun r2 _ => ?_
  refine Run.q (e := vPt) (gv := vB) (ok_spec_E8Point_n) fun r3 _ => ?_
  refine Run.q (e := vT_Pn_I) (gv := vB) (ok_impl_PseudoForward _ _) fun r4 _ => ?_
  refine Run.y (gv := vB) (fun _ => ?_) (fun _ => ?_)
  ·refine Run.q (e := vT_Pn_I) (gv := vB) (ok_spec_PseudoForward _ _) fun r5 _ => ?_
   exact Run.x 0
  ·refine Run.q (e := vT_Iv_Iv_I) (gv := vB) (ok_impl_PseudoInverse _ _) fun r6 _ => ?_
   refine Run.q (e := vT_I_I) (gv := vB) (ok_impl_OnMap _ _) fun r7 _ => ?_
   refine Run.y (gv := vB) (fun _ => ?_) (fun _ => ?_)
   ·refine Run.z [true, true, true, true, true, true, true, true, true, true, true, true] ?_
    exact Run.x 0
   ·refine Run.z [false, false] ?_
    refine Run.y (gv := vB) (fun _ => ?_) (fun _ => ?_)
    ·refine Run.z [true, true, true, true, true, true, true, true, true] ?_
     exact Run.x 0
    ·refine Run.z [false, false] ?_
     refine Run.y (gv := vB) (fun _ => ?_) (fun _ => ?_)
     ·refine Run.z [true, true, true, true, true, true] ?_
      exact Run.x 0
     ·refine Run.z [false, false, false] ?_
      refine Run.q (e := vB) (gv := vB) (ok_spec_AtPoint _ _ _) fun r8 _ => ?_
      refine Run.z [false, false] ?_
      refine Run.y (gv := vB) (fun _ => ?_) (fun _ => ?_)
      ·exact Run.x 0
      ·refine Run.q (e := vIv) (gv := vB) (ok_spec_LatOf _) fun r9 _ => ?_
       refine Run.q (e := vIv) (gv := vB) (ok_impl_ThetaOf _ _) fun r10 _ => ?_
       refine Run.q (e := vIv) (gv := vB) (ok_spec_LatOf _) fun r11 _ => ?_
       refine Run.q (e := vIv) (gv := vB) (ok_spec_SinI _) fun r12 _ => ?_
       refine Run.y (gv := vB) (fun _ => ?_) (fun _ => ?_)
       ·refine Run.q (e := vIv) (gv := vB) (ok_spec_DoubleI _) fun r13 _ => ?_
        refine Run.q (e := vIv) (gv := vB) (ok_spec_SinI _) fun r14 _ => ?_
        refine Run.q (e := vIv) (gv := vB) (ok_spec_AddI _ _) fun r15 _ => ?_
        refine Run.q (e := vIv) (gv := vB) (ok_spec_PiI) fun r16 _ => ?_
        refine Run.q (e := vIv) (gv := vB) (ok_spec_MulI _ _) fun r17 _ => ?_
        refine Run.q (e := vB) (gv := vB) (ok_spec_OverlapI _ _) fun r18 _ => ?_
        exact Run.x 0
       ·refine Run.y (gv := vB) (fun _ => ?_) (fun _ => ?_)
        ·refine Run.q (e := vIv) (gv := vB) (ok_spec_SinI _) fun r19 _ => ?_
         refine Run.q (e := vIv) (gv := vB) (ok_spec_AddI _ _) fun r20 _ => ?_
         refine Run.q (e := vIv) (gv := vB) (ok_spec_Integer _) fun r21 _ => ?_
         refine Run.q (e := vIv) (gv := vB) (ok_spec_TurnI _) fun r22 _ => ?_
         refine Run.q (e := vIv) (gv := vB) (ok_spec_AddI _ _) fun r23 _ => ?_
         refine Run.q (e := vIv) (gv := vB) (ok_spec_MulI _ _) fun r24 _ => ?_
         refine Run.q (e := vB) (gv := vB) (ok_spec_OverlapI _ _) fun r25 _ => ?_
         exact Run.x 0
        ·refine Run.q (e := vIv) (gv := vB) (ok_spec_LatOf _) fun r26 _ => ?_
         refine Run.q (e := vB) (gv := vB) (ok_spec_OverlapI _ _) fun r27 _ => ?_
         exact Run.x 0

theorem ok_laws_d8Long_lv (c0 : Cd) (c1 : Cv c0.row) : Fun Tryz.prog 21 [(c0.row, c0.ty)] #[c0.sl 0, (c0.vw c1).sl 0] (vB (F_laws_d8Long c0 (c0.vw c1))) [(c0.row, c0.ty)] := by
 refine Fun.ofH 400 E_ok mixed Tryz.func21 (by kernel_rfl) (by kernel_rfl) ?_
 unfold F_laws_d8Long
 refine Run.y (gv := vB) (fun _ => ?_) (fun _ => ?_)
 ·refine Run.z [true, true, true] ?_
  exact Run.x 1
 ·refine Run.z [false, false, false] ?_
  exact Run.x 1

theorem ok_laws_FnPseudo_lv (c0 : Cd) (c1 : Cv c0.row) : Fun Tryz.prog 4 [(c0.row, c0.ty)] #[c0.sl 0, (c0.vw c1).sl 0] (vB (F_laws_FnPseudo c0 (c0.vw c1))) [(c0.row, c0.ty)] := by
 refine Fun.ofH 400 E_ok mixed Tryz.func4 (by kernel_rfl) (by kernel_rfl) ?_
 unfold F_laws_FnPseudo
 refine Run.vl (e := vB) (gv := vB) [0] (ok_laws_d8Long_lv _ _) (allc (c0.calm) rfl) fun r1 _ => ?_
 refine Run.y (gv := vB) (fun _ => ?_) (fun _ => ?_)
 ·exact Run.x 1
 ·refine Run.vl (e := vPj) (gv := vB) [0] (ok_spec_E8Pseudo _) (allc (c0.calm) rfl) fun r2 _ => ?_
  refine Run.vl (e := vPt) (gv := vB) [0] (ok_spec_E8Point _) (allc (c0.calm) rfl) fun r3 _ => ?_
  refine Run.q (e := vT_Pn_I) (gv := vB) (ok_impl_PseudoForward _ _) fun r4 _ => ?_
  refine Run.y (gv := vB) (fun _ => ?_) (fun _ => ?_)
  ·refine Run.q (e := vT_Pn_I) (gv := vB) (ok_spec_PseudoForward _ _) fun r5 _ => ?_
   exact Run.x 1
  ·refine Run.q (e := vT_Iv_Iv_I) (gv := vB) (ok_impl_PseudoInverse _ _) fun r6 _ => ?_
   refine Run.q (e := vT_I_I) (gv := vB) (ok_impl_OnMap _ _) fun r7 _ => ?_
   refine Run.y (gv := vB) (fun _ => ?_) (fun _ => ?_)
   ·refine Run.z [true, true, true, true, true, true, true, true, true, true, true, true] ?_
    exact Run.x 1
   ·refine Run.z [false, false] ?_
    refine Run.y (gv := vB) (fun _ => ?_) (fun _ => ?_)
    ·refine Run.z [true, true, true, true, true, true, true, true, true] ?_
     exact Run.x 1
    ·refine Run.z [false, false] ?_
     refine Run.y (gv := vB) (fun _ => ?_) (fun _ => ?_)
     ·refine Run.z [true, true, true, true, true, true] ?_
      exact Run.x 1
     ·refine Run.z [false, false, false] ?_
      refine Run.q (e := vB) (gv := vB) (ok_spec_AtPoint _ _ _) fun r8 _ => ?_
      refine Run.z [false, false] ?_
      refine Run.y (gv := vB) (fun _ => ?_) (fun _ => ?_)
      ·exact Run.x 1
      ·refine Run.q (e := vIv) (gv := vB) (ok_spec_LatOf _) fun r9 _ => ?_
       refine Run.q (e := vIv) (gv := vB) (ok_impl_ThetaOf _ _) fun r10 _ => ?_
       refine Run.q (e := vIv) (gv := vB) (ok_spec_LatOf _) fun r11 _ => ?_
       refine Run.q (e := vIv) (gv := vB) (ok_spec_SinI _) fun r12 _ => ?_
       refine Run.y (gv := vB) (fun _ => ?_) (fun _ => ?_)
       ·refine Run.q (e := vIv) (gv := vB) (ok_spec_DoubleI _) fun r13 _ => ?_
        refine Run.q (e := vIv) (gv := vB) (ok_spec_SinI _) fun r14 _ => ?_
        refine Run.q (e := vIv) (gv := vB) (ok_spec_AddI _ _) fun r15 _ => ?_
        refine Run.q (e := vIv) (gv := vB) (ok_spec_PiI) fun r16 _ => ?_
        refine Run.q (e := vIv) (gv := vB) (ok_spec_MulI _ _) fun r17 _ => ?_
        refine Run.q (e := vB) (gv := vB) (ok_spec_OverlapI _ _) fun r18 _ => ?_
        exact Run.x 1
       ·refine Run.y (gv := vB) (fun _ => ?_) (fun _ => ?_)
        ·refine Run.q (e := vIv) (gv := vB) (ok_spec_SinI _) fun r19 _ => ?_
         refine Run.q (e := vIv) (gv := vB) (ok_spec_AddI _ _) fun r20 _ => ?_
         refine Run.q (e := vIv) (gv := vB) (ok_spec_Integer _) fun r21 _ => ?_
         refine Run.q (e := vIv) (gv := vB) (ok_spec_TurnI _) fun r22 _ => ?_
         refine Run.q (e := vIv) (gv := vB) (ok_spec_AddI _ _) fun r23 _ => ?_
         refine Run.q (e := vIv) (gv := vB) (ok_spec_MulI _ _) fun r24 _ => ?_
         refine Run.q (e := vB) (gv := vB) (ok_spec_OverlapI _ _) fun r25 _ => ?_
         exact Run.x 1
        ·refine Run.q (e := vIv) (gv := vB) (ok_spec_LatOf _) fun r26 _ => ?_
         refine Run.q (e := vB) (gv := vB) (ok_spec_OverlapI _ _) fun r27 _ => ?_
         exact Run.x 1

end Go.Proofs.YtcdkepbgjgcjfaaGreat.Abs
