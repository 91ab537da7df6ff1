/- The program's functions are these; part 7 (written by w.py). -/
import Derived.Test.YtjckiicaegpghaaGreatE
import Derived.Test.YtjckiicaegpghaaGreatF5
import Derived.Test.YtjckiicaegpghaaGreatQpre
import Derived.Test.YtjckiicaegpghaaGreatK3
import Derived.Test.YtjckiicaegpghaaGreatK6
set_option linter.unusedVariables false
set_option linter.unusedSimpArgs false
namespace Go.Proofs.YtjckiicaegpghaaGreat.Abs
open Go Go.RowKit

theorem ok_laws_toProjection (a0 : Pj) : Fun Tryz.prog 10 [] #[vPj a0] (vPj (F_laws_toProjection a0)) [] := by
  refine Fun.ofH 400 E_ok mixed Tryz.func10 (by kernel_rfl) (by kernel_rfl) ?_
  unfold F_laws_toProjection
  exact Run.x 0

theorem ok_laws_toInterval (a0 : Iv) : Fun Tryz.prog 59 [] #[vIv a0] (vIv (F_laws_toInterval a0)) [] := by
  refine Fun.ofH 400 E_ok mixed Tryz.func59 (by kernel_rfl) (by kernel_rfl) ?_
  unfold F_laws_toInterval
  exact Run.x 0

theorem ok_laws_toPlanar (a0 : Pn) : Fun Tryz.prog 22 [] #[vPn a0] (vPn (F_laws_toPlanar a0)) [] := by
  refine Fun.ofH 400 E_ok mixed Tryz.func22 (by kernel_rfl) (by kernel_rfl) ?_
  unfold F_laws_toPlanar
  refine Run.q (e := vIv) (gv := vPn) (ok_laws_toInterval _) fun r1 _ => ?_
  refine Run.q (e := vIv) (gv := vPn) (ok_laws_toInterval _) fun r2 _ => ?_
  exact Run.x 0

theorem ok_laws_eqInterval (a0 : Iv) (a1 : Iv) : Fun Tryz.prog 13 [] #[vIv a0, vIv a1] (vB (F_laws_eqInterval a0 a1)) [] := by
  refine Fun.ofH 400 E_ok mixed Tryz.func13 (by kernel_rfl) (by kernel_rfl) ?_
  unfold F_laws_eqInterval
  refine Run.y (gv := vB) (fun _ => ?_) (fun _ => ?_)
  · exact Run.x 0
  · refine Run.y (gv := vB) (fun _ => ?_) (fun _ => ?_)
    · exact Run.x 0
    · exact Run.x 0

theorem ok_laws_FnExactUnproject (a0 : Pj) (a1 : Pn) : Fun Tryz.prog 7 [] #[vPj a0, vPn a1] (vB (F_laws_FnExactUnproject a0 a1)) [] := by
  refine Fun.ofH 400 E_ok mixed Tryz.func7 (by kernel_rfl) (by kernel_rfl) ?_
  unfold F_laws_FnExactUnproject
  refine Run.q (e := vPj) (gv := vB) (ok_laws_toProjection _) fun r1 _ => ?_
  refine Run.q (e := vPn) (gv := vB) (ok_laws_toPlanar _) fun r2 _ => ?_
  refine Run.q (e := vT_Iv_Iv_I) (gv := vB) (ok_spec_Unproject _ _) fun r3 _ => ?_
  refine Run.q (e := vPj) (gv := vB) (ok_laws_toProjection _) fun r4 _ => ?_
  refine Run.q (e := vPn) (gv := vB) (ok_laws_toPlanar _) fun r5 _ => ?_
  refine Run.q (e := vT_Iv_Iv_I) (gv := vB) (ok_impl_Unproject _ _) fun r6 _ => ?_
  refine Run.q (e := vB) (gv := vB) (ok_laws_eqInterval _ _) fun r7 _ => ?_
  refine Run.y (gv := vB) (fun _ => ?_) (fun _ => ?_)
  · refine Run.z [true, true, true, true, true, true, true, true, true] ?_
    exact Run.x 0
  · refine Run.z [false, false] ?_
    refine Run.q (e := vB) (gv := vB) (ok_laws_eqInterval _ _) fun r8 _ => ?_
    refine Run.z [false, false] ?_
    refine Run.y (gv := vB) (fun _ => ?_) (fun _ => ?_)
    · refine Run.z [true, true, true, true] ?_
      exact Run.x 0
    · refine Run.z [false, false, false] ?_
      refine Run.y (gv := vB) (fun _ => ?_) (fun _ => ?_)
      · exact Run.x 0
      · exact Run.x 0

end Go.Proofs.YtjckiicaegpghaaGreat.Abs
