/- The program's functions are these; part 4 (written by w.py). -/
import Derived.Test.YtjckiicaegpghaaGreatE
import Derived.Test.YtjckiicaegpghaaGreatF6
import Derived.Test.YtjckiicaegpghaaGreatQpre
import Derived.Test.YtjckiicaegpghaaGreatK1
import Derived.Test.YtjckiicaegpghaaGreatK2
import Derived.Test.YtjckiicaegpghaaGreatK3
set_option linter.unusedVariables false
set_option linter.unusedSimpArgs false
namespace Go.Proofs.YtjckiicaegpghaaGreat.Abs
open Go Go.RowKit

theorem ok_spec_l22Distance (a0 : Pj) (a1 : Pt) (a2 : Pt) : Fun Tryz.prog 55 [] #[vPj a0, vPt a1, vPt a2] (vT_Iv_I (F_spec_l22Distance a0 a1 a2)) [] := by
  refine Fun.ofH 400 E_ok mixed Tryz.func55 (by kernel_rfl) (by kernel_rfl) ?_
  unfold F_spec_l22Distance
  refine Run.q (e := vT_Pn_I) (gv := vT_Iv_I) (ok_spec_l22Project _ _) fun r1 _ => ?_
  refine Run.y (gv := vT_Iv_I) (fun _ => ?_) (fun _ => ?_)
  · exact Run.x 0
  · refine Run.q (e := vT_Pn_I) (gv := vT_Iv_I) (ok_spec_l22Project _ _) fun r2 _ => ?_
    refine Run.y (gv := vT_Iv_I) (fun _ => ?_) (fun _ => ?_)
    · exact Run.x 0
    · refine Run.q (e := vIv) (gv := vT_Iv_I) (ok_spec_SubI _ _) fun r3 _ => ?_
      refine Run.q (e := vIv) (gv := vT_Iv_I) (ok_spec_SqrI _) fun r4 _ => ?_
      refine Run.q (e := vIv) (gv := vT_Iv_I) (ok_spec_SubI _ _) fun r5 _ => ?_
      refine Run.q (e := vIv) (gv := vT_Iv_I) (ok_spec_SqrI _) fun r6 _ => ?_
      refine Run.q (e := vIv) (gv := vT_Iv_I) (ok_spec_AddI _ _) fun r7 _ => ?_
      refine Run.q (e := vIv) (gv := vT_Iv_I) (ok_spec_SqrtI _) fun r8 _ => ?_
      refine Run.q (e := vT_Iv_I) (gv := vT_Iv_I) (ok_spec_l19Known _) fun r9 _ => ?_
      exact Run.x 0

theorem ok_spec_MapDistance (a0 : Pj) (a1 : Pt) (a2 : Pt) : Fun Tryz.prog 19 [] #[vPj a0, vPt a1, vPt a2] (vT_Iv_I (F_spec_MapDistance a0 a1 a2)) [] := by
  refine Fun.ofH 400 E_ok mixed Tryz.func19 (by kernel_rfl) (by kernel_rfl) ?_
  unfold F_spec_MapDistance
  refine Run.q (e := vT_Iv_I) (gv := vT_Iv_I) (ok_spec_l22Distance _ _ _) fun r1 _ => ?_
  exact Run.x 0

theorem ok_spec_StretchOf (a0 : Pj) (a1 : Pt) (a2 : Pt) : Fun Tryz.prog 24 [] #[vPj a0, vPt a1, vPt a2] (vT_Iv_I (F_spec_StretchOf a0 a1 a2)) [] := by
  refine Fun.ofH 400 E_ok mixed Tryz.func24 (by kernel_rfl) (by kernel_rfl) ?_
  unfold F_spec_StretchOf
  refine Run.q (e := vT_Iv_I) (gv := vT_Iv_I) (ok_spec_l22Distance _ _ _) fun r1 _ => ?_
  refine Run.y (gv := vT_Iv_I) (fun _ => ?_) (fun _ => ?_)
  · exact Run.x 0
  · refine Run.q (e := vT_Iv_I) (gv := vT_Iv_I) (ok_spec_AngleBetween _ _) fun r2 _ => ?_
    refine Run.q (e := vIv) (gv := vT_Iv_I) (ok_spec_DivI _ _) fun r3 _ => ?_
    refine Run.q (e := vT_Iv_I) (gv := vT_Iv_I) (ok_spec_l19Known _) fun r4 _ => ?_
    exact Run.x 0

end Go.Proofs.YtjckiicaegpghaaGreat.Abs
