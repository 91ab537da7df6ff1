/- The program's functions are these; part 7 (written by w.py). -/
import Derived.Test.YtbpkpmmmeneagaaGreatE
import Derived.Test.YtbpkpmmmeneagaaGreatF5
import Derived.Test.YtbpkpmmmeneagaaGreatQpre
import Derived.Test.YtbpkpmmmeneagaaGreatK4
import Derived.Test.YtbpkpmmmeneagaaGreatK5
import Derived.Test.YtbpkpmmmeneagaaGreatK6
set_option linter.unusedVariables false
set_option linter.unusedSimpArgs false
namespace Go.Proofs.YtbpkpmmmeneagaaGreat.Abs
open Go Go.RowKit

theorem ok_impl_CrossV (a0 : Vc) (a1 : Vc) : Fun Tryz.prog 93 [] #[vVc a0, vVc a1] (vVc (F_impl_CrossV a0 a1)) [] := by
 refine Fun.ofH 400 E_ok mixed Tryz.func93 (by kernel_rfl) (by kernel_rfl) ?_
 unfold F_impl_CrossV
 refine Run.q (e := vIv) (gv := vVc) (ok_impl_MulI _ _) fun r1 _ => ?_
 refine Run.q (e := vIv) (gv := vVc) (ok_impl_MulI _ _) fun r2 _ => ?_
 refine Run.q (e := vIv) (gv := vVc) (ok_impl_SubI _ _) fun r3 _ => ?_
 refine Run.q (e := vIv) (gv := vVc) (ok_impl_MulI _ _) fun r4 _ => ?_
 refine Run.q (e := vIv) (gv := vVc) (ok_impl_MulI _ _) fun r5 _ => ?_
 refine Run.q (e := vIv) (gv := vVc) (ok_impl_SubI _ _) fun r6 _ => ?_
 refine Run.q (e := vIv) (gv := vVc) (ok_impl_MulI _ _) fun r7 _ => ?_
 refine Run.q (e := vIv) (gv := vVc) (ok_impl_MulI _ _) fun r8 _ => ?_
 refine Run.q (e := vIv) (gv := vVc) (ok_impl_SubI _ _) fun r9 _ => ?_
 exact Run.x 0

theorem ok_impl_DotV (a0 : Vc) (a1 : Vc) : Fun Tryz.prog 94 [] #[vVc a0, vVc a1] (vIv (F_impl_DotV a0 a1)) [] := by
 refine Fun.ofH 400 E_ok mixed Tryz.func94 (by kernel_rfl) (by kernel_rfl) ?_
 unfold F_impl_DotV
 refine Run.q (e := vIv) (gv := vIv) (ok_impl_MulI _ _) fun r1 _ => ?_
 refine Run.q (e := vIv) (gv := vIv) (ok_impl_MulI _ _) fun r2 _ => ?_
 refine Run.q (e := vIv) (gv := vIv) (ok_impl_AddI _ _) fun r3 _ => ?_
 refine Run.q (e := vIv) (gv := vIv) (ok_impl_MulI _ _) fun r4 _ => ?_
 refine Run.q (e := vIv) (gv := vIv) (ok_impl_AddI _ _) fun r5 _ => ?_
 exact Run.x 0

theorem ok_impl_AngleBetween (a0 : Pt) (a1 : Pt) : Fun Tryz.prog 41 [] #[vPt a0, vPt a1] (vT_Iv_I (F_impl_AngleBetween a0 a1)) [] := by
 refine Fun.ofH 400 E_ok mixed Tryz.func41 (by kernel_rfl) (by kernel_rfl) ?_
 unfold F_impl_AngleBetween
 refine Run.q (e := vB) (gv := vT_Iv_I) (ok_impl_areValid _ _) fun r1 _ => ?_
 refine Run.y (gv := vT_Iv_I) (fun _ => ?_) (fun _ => ?_)
 ·exact Run.x 0
 ·refine Run.q (e := vVc) (gv := vT_Iv_I) (ok_impl_vectorOf _) fun r2 _ => ?_
  refine Run.q (e := vVc) (gv := vT_Iv_I) (ok_impl_vectorOf _) fun r3 _ => ?_
  refine Run.q (e := vVc) (gv := vT_Iv_I) (ok_impl_CrossV _ _) fun r4 _ => ?_
  refine Run.q (e := vIv) (gv := vT_Iv_I) (ok_impl_NormV _) fun r5 _ => ?_
  refine Run.q (e := vIv) (gv := vT_Iv_I) (ok_impl_DotV _ _) fun r6 _ => ?_
  refine Run.q (e := vIv) (gv := vT_Iv_I) (ok_impl_DirectionI _ _) fun r7 _ => ?_
  refine Run.q (e := vT_Iv_I) (gv := vT_Iv_I) (ok_impl_knownI _) fun r8 _ => ?_
  exact Run.x 0

theorem ok_impl_StretchOf (a0 : Pj) (a1 : Pt) (a2 : Pt) : Fun Tryz.prog 13 [] #[vPj a0, vPt a1, vPt a2] (vT_Iv_I (F_impl_StretchOf a0 a1 a2)) [] := by
 refine Fun.ofH 400 E_ok mixed Tryz.func13 (by kernel_rfl) (by kernel_rfl) ?_
 unfold F_impl_StretchOf
 refine Run.q (e := vT_Iv_I) (gv := vT_Iv_I) (ok_impl_MapDistance _ _ _) fun r1 _ => ?_
 refine Run.y (gv := vT_Iv_I) (fun _ => ?_) (fun _ => ?_)
 ·exact Run.x 0
 ·refine Run.q (e := vT_Iv_I) (gv := vT_Iv_I) (ok_impl_AngleBetween _ _) fun r2 _ => ?_
  refine Run.y (gv := vT_Iv_I) (fun _ => ?_) (fun _ => ?_)
  ·exact Run.x 0
  ·refine Run.q (e := vIv) (gv := vT_Iv_I) (ok_impl_DivI _ _) fun r3 _ => ?_
   refine Run.q (e := vT_Iv_I) (gv := vT_Iv_I) (ok_impl_knownI _) fun r4 _ => ?_
   exact Run.x 0

end Go.Proofs.YtbpkpmmmeneagaaGreat.Abs
