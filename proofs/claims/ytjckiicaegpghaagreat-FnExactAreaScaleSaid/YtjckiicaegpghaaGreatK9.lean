/- The program's functions are these; part 9 (written by w.py). -/
import Derived.Test.YtjckiicaegpghaaGreatE
import Derived.Test.YtjckiicaegpghaaGreatF6
import Derived.Test.YtjckiicaegpghaaGreatQpre
import Derived.Test.YtjckiicaegpghaaGreatK3
import Derived.Test.YtjckiicaegpghaaGreatK4
import Derived.Test.YtjckiicaegpghaaGreatK7
import Derived.Test.YtjckiicaegpghaaGreatK8
set_option linter.unusedVariables false
set_option linter.unusedSimpArgs false
namespace Go.Proofs.YtjckiicaegpghaaGreat.Abs
open Go Go.RowKit

theorem ok_laws_toProjection (a0 : Pj) : Fun Tryz.prog 10 [] #[vPj a0] (vPj (F_laws_toProjection a0)) [] := by
  refine Fun.ofH 400 E_ok mixed Tryz.func10 (by kernel_rfl) (by kernel_rfl) ?_
  unfold F_laws_toProjection
  exact Run.x 0

theorem ok_laws_toPoint (a0 : Pt) : Fun Tryz.prog 11 [] #[vPt a0] (vPt (F_laws_toPoint a0)) [] := by
  refine Fun.ofH 400 E_ok mixed Tryz.func11 (by kernel_rfl) (by kernel_rfl) ?_
  unfold F_laws_toPoint
  exact Run.x 0

theorem ok_laws_eqInterval (a0 : Iv) (a1 : Iv) : Fun Tryz.prog 13 [] #[vIv a0, vIv a1] (vB (F_laws_eqInterval a0 a1)) [] := by
  refine Fun.ofH 400 E_ok mixed Tryz.func13 (by kernel_rfl) (by kernel_rfl) ?_
  unfold F_laws_eqInterval
  refine Run.y (gv := vB) (fun _ => ?_) (fun _ => ?_)
  · exact Run.x 0
  · refine Run.y (gv := vB) (fun _ => ?_) (fun _ => ?_)
    · exact Run.x 0
    · exact Run.x 0

theorem ok_laws_FnExactAreaScale (a0 : Pj) (a1 : Pt) : Fun Tryz.prog 3 [] #[vPj a0, vPt a1] (vB (F_laws_FnExactAreaScale a0 a1)) [] := by
  refine Fun.ofH 400 E_ok mixed Tryz.func3 (by kernel_rfl) (by kernel_rfl) ?_
  unfold F_laws_FnExactAreaScale
  refine Run.q (e := vPj) (gv := vB) (ok_laws_toProjection _) fun r1 _ => ?_
  refine Run.q (e := vPt) (gv := vB) (ok_laws_toPoint _) fun r2 _ => ?_
  refine Run.q (e := vT_Iv_I) (gv := vB) (ok_spec_AreaScale _ _) fun r3 _ => ?_
  refine Run.q (e := vPj) (gv := vB) (ok_laws_toProjection _) fun r4 _ => ?_
  refine Run.q (e := vPt) (gv := vB) (ok_laws_toPoint _) fun r5 _ => ?_
  refine Run.q (e := vT_Iv_I) (gv := vB) (ok_impl_AreaScale _ _) fun r6 _ => ?_
  refine Run.q (e := vB) (gv := vB) (ok_laws_eqInterval _ _) fun r7 _ => ?_
  refine Run.y (gv := vB) (fun _ => ?_) (fun _ => ?_)
  · refine Run.z [true, true, true, true] ?_
    exact Run.x 0
  · refine Run.z [false, false, false] ?_
    refine Run.y (gv := vB) (fun _ => ?_) (fun _ => ?_)
    · exact Run.x 0
    · exact Run.x 0

theorem ok_laws_FnExactAngleDistortion (a0 : Pj) (a1 : Pt) : Fun Tryz.prog 4 [] #[vPj a0, vPt a1] (vB (F_laws_FnExactAngleDistortion a0 a1)) [] := by
  refine Fun.ofH 400 E_ok mixed Tryz.func4 (by kernel_rfl) (by kernel_rfl) ?_
  unfold F_laws_FnExactAngleDistortion
  refine Run.q (e := vPj) (gv := vB) (ok_laws_toProjection _) fun r1 _ => ?_
  refine Run.q (e := vPt) (gv := vB) (ok_laws_toPoint _) fun r2 _ => ?_
  refine Run.q (e := vT_Iv_I) (gv := vB) (ok_spec_AngleDistortion _ _) fun r3 _ => ?_
  refine Run.q (e := vPj) (gv := vB) (ok_laws_toProjection _) fun r4 _ => ?_
  refine Run.q (e := vPt) (gv := vB) (ok_laws_toPoint _) fun r5 _ => ?_
  refine Run.q (e := vT_Iv_I) (gv := vB) (ok_impl_AngleDistortion _ _) fun r6 _ => ?_
  refine Run.q (e := vB) (gv := vB) (ok_laws_eqInterval _ _) fun r7 _ => ?_
  refine Run.y (gv := vB) (fun _ => ?_) (fun _ => ?_)
  · refine Run.z [true, true, true, true] ?_
    exact Run.x 0
  · refine Run.z [false, false, false] ?_
    refine Run.y (gv := vB) (fun _ => ?_) (fun _ => ?_)
    · exact Run.x 0
    · exact Run.x 0

theorem ok_laws_eqPlanar (a0 : Pn) (a1 : Pn) : Fun Tryz.prog 18 [] #[vPn a0, vPn a1] (vB (F_laws_eqPlanar a0 a1)) [] := by
  refine Fun.ofH 400 E_ok mixed Tryz.func18 (by kernel_rfl) (by kernel_rfl) ?_
  unfold F_laws_eqPlanar
  refine Run.q (e := vB) (gv := vB) (ok_laws_eqInterval _ _) fun r1 _ => ?_
  refine Run.y (gv := vB) (fun _ => ?_) (fun _ => ?_)
  · exact Run.x 0
  · refine Run.q (e := vB) (gv := vB) (ok_laws_eqInterval _ _) fun r2 _ => ?_
    refine Run.y (gv := vB) (fun _ => ?_) (fun _ => ?_)
    · exact Run.x 0
    · exact Run.x 0

theorem ok_laws_FnExactProject (a0 : Pj) (a1 : Pt) : Fun Tryz.prog 5 [] #[vPj a0, vPt a1] (vB (F_laws_FnExactProject a0 a1)) [] := by
  refine Fun.ofH 400 E_ok mixed Tryz.func5 (by kernel_rfl) (by kernel_rfl) ?_
  unfold F_laws_FnExactProject
  refine Run.q (e := vPj) (gv := vB) (ok_laws_toProjection _) fun r1 _ => ?_
  refine Run.q (e := vPt) (gv := vB) (ok_laws_toPoint _) fun r2 _ => ?_
  refine Run.q (e := vT_Pn_I) (gv := vB) (ok_spec_Project _ _) fun r3 _ => ?_
  refine Run.q (e := vPj) (gv := vB) (ok_laws_toProjection _) fun r4 _ => ?_
  refine Run.q (e := vPt) (gv := vB) (ok_laws_toPoint _) fun r5 _ => ?_
  refine Run.q (e := vT_Pn_I) (gv := vB) (ok_impl_Project _ _) fun r6 _ => ?_
  refine Run.q (e := vB) (gv := vB) (ok_laws_eqPlanar _ _) fun r7 _ => ?_
  refine Run.y (gv := vB) (fun _ => ?_) (fun _ => ?_)
  · refine Run.z [true, true, true, true] ?_
    exact Run.x 0
  · refine Run.z [false, false, false] ?_
    refine Run.y (gv := vB) (fun _ => ?_) (fun _ => ?_)
    · exact Run.x 0
    · exact Run.x 0

theorem ok_laws_FnExactMapDistance (a0 : Pj) (a1 : Pt) (a2 : Pt) : Fun Tryz.prog 6 [] #[vPj a0, vPt a1, vPt a2] (vB (F_laws_FnExactMapDistance a0 a1 a2)) [] := by
  refine Fun.ofH 400 E_ok mixed Tryz.func6 (by kernel_rfl) (by kernel_rfl) ?_
  unfold F_laws_FnExactMapDistance
  refine Run.q (e := vPj) (gv := vB) (ok_laws_toProjection _) fun r1 _ => ?_
  refine Run.q (e := vPt) (gv := vB) (ok_laws_toPoint _) fun r2 _ => ?_
  refine Run.q (e := vPt) (gv := vB) (ok_laws_toPoint _) fun r3 _ => ?_
  refine Run.q (e := vT_Iv_I) (gv := vB) (ok_spec_MapDistance _ _ _) fun r4 _ => ?_
  refine Run.q (e := vPj) (gv := vB) (ok_laws_toProjection _) fun r5 _ => ?_
  refine Run.q (e := vPt) (gv := vB) (ok_laws_toPoint _) fun r6 _ => ?_
  refine Run.q (e := vPt) (gv := vB) (ok_laws_toPoint _) fun r7 _ => ?_
  refine Run.q (e := vT_Iv_I) (gv := vB) (ok_impl_MapDistance _ _ _) fun r8 _ => ?_
  refine Run.q (e := vB) (gv := vB) (ok_laws_eqInterval _ _) fun r9 _ => ?_
  refine Run.y (gv := vB) (fun _ => ?_) (fun _ => ?_)
  · refine Run.z [true, true, true, true] ?_
    exact Run.x 0
  · refine Run.z [false, false, false] ?_
    refine Run.y (gv := vB) (fun _ => ?_) (fun _ => ?_)
    · exact Run.x 0
    · exact Run.x 0

theorem ok_laws_FnExactStretchOf (a0 : Pj) (a1 : Pt) (a2 : Pt) : Fun Tryz.prog 8 [] #[vPj a0, vPt a1, vPt a2] (vB (F_laws_FnExactStretchOf a0 a1 a2)) [] := by
  refine Fun.ofH 400 E_ok mixed Tryz.func8 (by kernel_rfl) (by kernel_rfl) ?_
  unfold F_laws_FnExactStretchOf
  refine Run.q (e := vPj) (gv := vB) (ok_laws_toProjection _) fun r1 _ => ?_
  refine Run.q (e := vPt) (gv := vB) (ok_laws_toPoint _) fun r2 _ => ?_
  refine Run.q (e := vPt) (gv := vB) (ok_laws_toPoint _) fun r3 _ => ?_
  refine Run.q (e := vT_Iv_I) (gv := vB) (ok_spec_StretchOf _ _ _) fun r4 _ => ?_
  refine Run.q (e := vPj) (gv := vB) (ok_laws_toProjection _) fun r5 _ => ?_
  refine Run.q (e := vPt) (gv := vB) (ok_laws_toPoint _) fun r6 _ => ?_
  refine Run.q (e := vPt) (gv := vB) (ok_laws_toPoint _) fun r7 _ => ?_
  refine Run.q (e := vT_Iv_I) (gv := vB) (ok_impl_StretchOf _ _ _) fun r8 _ => ?_
  refine Run.q (e := vB) (gv := vB) (ok_laws_eqInterval _ _) fun r9 _ => ?_
  refine Run.y (gv := vB) (fun _ => ?_) (fun _ => ?_)
  · refine Run.z [true, true, true, true] ?_
    exact Run.x 0
  · refine Run.z [false, false, false] ?_
    refine Run.y (gv := vB) (fun _ => ?_) (fun _ => ?_)
    · exact Run.x 0
    · exact Run.x 0

end Go.Proofs.YtjckiicaegpghaaGreat.Abs
