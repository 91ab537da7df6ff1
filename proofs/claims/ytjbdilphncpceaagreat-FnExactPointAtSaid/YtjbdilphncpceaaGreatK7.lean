/- The program's functions are these; part 7 (written by w.py). -/
import Derived.Test.YtjbdilphncpceaaGreatE
import Derived.Test.YtjbdilphncpceaaGreatF5
import Derived.Test.YtjbdilphncpceaaGreatQpre
import Derived.Test.YtjbdilphncpceaaGreatK3
import Derived.Test.YtjbdilphncpceaaGreatK6
set_option linter.unusedVariables false
set_option linter.unusedSimpArgs false
namespace Go.Proofs.YtjbdilphncpceaaGreat.Abs
open Go Go.RowKit

theorem ok_laws_toProjection (a0 : Pj) : Fun Tryz.prog 5 [] #[vPj a0] (vPj (F_laws_toProjection a0)) [] := by
  refine Fun.ofH 400 E_ok mixed Tryz.func5 (by kernel_rfl) (by kernel_rfl) ?_
  unfold F_laws_toProjection
  exact Run.x 0

theorem ok_laws_toInterval (a0 : Iv) : Fun Tryz.prog 11 [] #[vIv a0] (vIv (F_laws_toInterval a0)) [] := by
  refine Fun.ofH 400 E_ok mixed Tryz.func11 (by kernel_rfl) (by kernel_rfl) ?_
  unfold F_laws_toInterval
  exact Run.x 0

theorem ok_laws_toPlanar (a0 : Pn) : Fun Tryz.prog 6 [] #[vPn a0] (vPn (F_laws_toPlanar a0)) [] := by
  refine Fun.ofH 400 E_ok mixed Tryz.func6 (by kernel_rfl) (by kernel_rfl) ?_
  unfold F_laws_toPlanar
  refine Run.q (e := vIv) (gv := vPn) (ok_laws_toInterval _) fun r1 _ => ?_
  refine Run.q (e := vIv) (gv := vPn) (ok_laws_toInterval _) fun r2 _ => ?_
  exact Run.x 0

theorem ok_laws_eqPoint (a0 : Pt) (a1 : Pt) : Fun Tryz.prog 8 [] #[vPt a0, vPt a1] (vB (F_laws_eqPoint a0 a1)) [] := by
  refine Fun.ofH 400 E_ok mixed Tryz.func8 (by kernel_rfl) (by kernel_rfl) ?_
  unfold F_laws_eqPoint
  refine Run.y (gv := vB) (fun _ => ?_) (fun _ => ?_)
  · exact Run.x 0
  · refine Run.y (gv := vB) (fun _ => ?_) (fun _ => ?_)
    · exact Run.x 0
    · exact Run.x 0

theorem ok_laws_FnExactPointAt (a0 : Pj) (a1 : Pn) : Fun Tryz.prog 3 [] #[vPj a0, vPn a1] (vB (F_laws_FnExactPointAt a0 a1)) [] := by
  refine Fun.ofH 400 E_ok mixed Tryz.func3 (by kernel_rfl) (by kernel_rfl) ?_
  unfold F_laws_FnExactPointAt
  refine Run.q (e := vPj) (gv := vB) (ok_laws_toProjection _) fun r1 _ => ?_
  refine Run.q (e := vPn) (gv := vB) (ok_laws_toPlanar _) fun r2 _ => ?_
  refine Run.q (e := vT_Pt_I_I) (gv := vB) (ok_spec_PointAt _ _) fun r3 _ => ?_
  refine Run.q (e := vPj) (gv := vB) (ok_laws_toProjection _) fun r4 _ => ?_
  refine Run.q (e := vPn) (gv := vB) (ok_laws_toPlanar _) fun r5 _ => ?_
  refine Run.q (e := vT_Pt_I_I) (gv := vB) (ok_impl_PointAt _ _) fun r6 _ => ?_
  refine Run.q (e := vB) (gv := vB) (ok_laws_eqPoint _ _) fun r7 _ => ?_
  refine Run.y (gv := vB) (fun _ => ?_) (fun _ => ?_)
  · refine Run.z [true, true, true, true, true, true, true, true] ?_
    exact Run.x 0
  · refine Run.z [false, false, false] ?_
    refine Run.y (gv := vB) (fun _ => ?_) (fun _ => ?_)
    · refine Run.z [true, true, true, true] ?_
      exact Run.x 0
    · refine Run.z [false, false, false] ?_
      refine Run.y (gv := vB) (fun _ => ?_) (fun _ => ?_)
      · exact Run.x 0
      · exact Run.x 0

end Go.Proofs.YtjbdilphncpceaaGreat.Abs
