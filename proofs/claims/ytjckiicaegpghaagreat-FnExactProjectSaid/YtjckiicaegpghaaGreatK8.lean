/- The program's functions are these; part 8 (written by w.py). -/
import Derived.Test.YtjckiicaegpghaaGreatE
import Derived.Test.YtjckiicaegpghaaGreatF6
import Derived.Test.YtjckiicaegpghaaGreatQpre
import Derived.Test.YtjckiicaegpghaaGreatK5
import Derived.Test.YtjckiicaegpghaaGreatK6
import Derived.Test.YtjckiicaegpghaaGreatK7
set_option linter.unusedVariables false
set_option linter.unusedSimpArgs false
namespace Go.Proofs.YtjckiicaegpghaaGreat.Abs
open Go Go.RowKit

theorem ok_impl_parallelLength (a0 : I64) (a1 : Iv) : Fun Tryz.prog 161 [] #[vI a0, vIv a1] (vIv (F_impl_parallelLength a0 a1)) [] := by
  refine Fun.ofH 400 E_ok mixed Tryz.func161 (by kernel_rfl) (by kernel_rfl) ?_
  unfold F_impl_parallelLength
  refine Run.q (e := vIv) (gv := vIv) (ok_impl_pseudoRadius _) fun r1 _ => ?_
  refine Run.y (gv := vIv) (fun _ => ?_) (fun _ => ?_)
  · refine Run.q (e := vIv) (gv := vIv) (ok_impl_CosI _) fun r2 _ => ?_
    exact Run.x 0
  · refine Run.y (gv := vIv) (fun _ => ?_) (fun _ => ?_)
    · refine Run.q (e := vIv) (gv := vIv) (ok_impl_times _ _) fun r3 _ => ?_
      refine Run.q (e := vIv) (gv := vIv) (ok_impl_CosI _) fun r4 _ => ?_
      refine Run.q (e := vIv) (gv := vIv) (ok_impl_MulI _ _) fun r5 _ => ?_
      refine Run.q (e := vIv) (gv := vIv) (ok_impl_PiI) fun r6 _ => ?_
      refine Run.q (e := vIv) (gv := vIv) (ok_impl_DivI _ _) fun r7 _ => ?_
      exact Run.x 0
    · refine Run.q (e := vIv) (gv := vIv) (ok_impl_Integer _) fun r8 _ => ?_
      refine Run.q (e := vIv) (gv := vIv) (ok_impl_CosI _) fun r9 _ => ?_
      refine Run.q (e := vIv) (gv := vIv) (ok_impl_AddI _ _) fun r10 _ => ?_
      refine Run.q (e := vIv) (gv := vIv) (ok_impl_DivI _ _) fun r11 _ => ?_
      exact Run.x 0

theorem ok_impl_parallelHeight (a0 : I64) (a1 : Iv) : Fun Tryz.prog 249 [] #[vI a0, vIv a1] (vIv (F_impl_parallelHeight a0 a1)) [] := by
  refine Fun.ofH 400 E_ok mixed Tryz.func249 (by kernel_rfl) (by kernel_rfl) ?_
  unfold F_impl_parallelHeight
  refine Run.q (e := vIv) (gv := vIv) (ok_impl_pseudoRadius _) fun r1 _ => ?_
  refine Run.y (gv := vIv) (fun _ => ?_) (fun _ => ?_)
  · exact Run.x 0
  · refine Run.y (gv := vIv) (fun _ => ?_) (fun _ => ?_)
    · refine Run.q (e := vIv) (gv := vIv) (ok_impl_SinI _) fun r2 _ => ?_
      refine Run.q (e := vIv) (gv := vIv) (ok_impl_MulI _ _) fun r3 _ => ?_
      exact Run.x 0
    · refine Run.q (e := vIv) (gv := vIv) (ok_impl_times _ _) fun r4 _ => ?_
      refine Run.q (e := vIv) (gv := vIv) (ok_impl_DivI _ _) fun r5 _ => ?_
      exact Run.x 0

theorem ok_impl_ParallelOf (a0 : I64) (a1 : Iv) : Fun Tryz.prog 141 [] #[vI a0, vIv a1] (vT_Iv_Iv (F_impl_ParallelOf a0 a1)) [] := by
  refine Fun.ofH 400 E_ok mixed Tryz.func141 (by kernel_rfl) (by kernel_rfl) ?_
  unfold F_impl_ParallelOf
  refine Run.q (e := vB) (gv := vT_Iv_Iv) (ok_impl_isPseudo _) fun r1 _ => ?_
  refine Run.y (gv := vT_Iv_Iv) (fun _ => ?_) (fun _ => ?_)
  · refine Run.q (e := vIv) (gv := vT_Iv_Iv) (ok_impl_Whole) fun r2 _ => ?_
    refine Run.q (e := vIv) (gv := vT_Iv_Iv) (ok_impl_Whole) fun r3 _ => ?_
    exact Run.x 0
  · refine Run.q (e := vIv) (gv := vT_Iv_Iv) (ok_impl_ThetaOf _ _) fun r4 _ => ?_
    refine Run.q (e := vIv) (gv := vT_Iv_Iv) (ok_impl_parallelLength _ _) fun r5 _ => ?_
    refine Run.q (e := vIv) (gv := vT_Iv_Iv) (ok_impl_parallelHeight _ _) fun r6 _ => ?_
    exact Run.x 0

theorem ok_impl_PseudoForward (a0 : Pj) (a1 : Pt) : Fun Tryz.prog 53 [] #[vPj a0, vPt a1] (vT_Pn_I (F_impl_PseudoForward a0 a1)) [] := by
  refine Fun.ofH 400 E_ok mixed Tryz.func53 (by kernel_rfl) (by kernel_rfl) ?_
  unfold F_impl_PseudoForward
  refine Run.q (e := vB) (gv := vT_Pn_I) (ok_impl_isPseudoOne _) fun r1 _ => ?_
  refine Run.y (gv := vT_Pn_I) (fun _ => ?_) (fun _ => ?_)
  · refine Run.z [true, true, true, true] ?_
    exact Run.x 0
  · refine Run.z [false] ?_
    refine Run.q (e := vB) (gv := vT_Pn_I) (ok_impl_ValidPoint _) fun r2 _ => ?_
    refine Run.z [false, false] ?_
    refine Run.y (gv := vT_Pn_I) (fun _ => ?_) (fun _ => ?_)
    · exact Run.x 0
    · refine Run.q (e := vIv) (gv := vT_Pn_I) (ok_impl_LatOf _) fun r3 _ => ?_
      refine Run.q (e := vT_Iv_Iv) (gv := vT_Pn_I) (ok_impl_ParallelOf _ _) fun r4 _ => ?_
      refine Run.q (e := vIv) (gv := vT_Pn_I) (ok_impl_LonFrom _ _) fun r5 _ => ?_
      refine Run.q (e := vIv) (gv := vT_Pn_I) (ok_impl_MulI _ _) fun r6 _ => ?_
      refine Run.q (e := vT_Pn_I) (gv := vT_Pn_I) (ok_impl_planar _ _) fun r7 _ => ?_
      exact Run.x 0

theorem ok_impl_AtanhI_1 (a0 : I64) : Fun Tryz.prog 250 [] #[vI a0] (vIv (F_impl_AtanhI_1 a0)) [] := by
  refine Fun.ofH 400 E_ok mixed Tryz.func250 (by kernel_rfl) (by kernel_rfl) ?_
  unfold F_impl_AtanhI_1
  refine Run.y (gv := vIv) (fun _ => ?_) (fun _ => ?_)
  · refine Run.q (e := vIv) (gv := vIv) (ok_impl_Whole) fun r1 _ => ?_
    exact Run.x 0
  · refine Run.q (e := vIv) (gv := vIv) (ok_impl_at _) fun r2 _ => ?_
    refine Run.q (e := vIv) (gv := vIv) (ok_impl_at _) fun r3 _ => ?_
    refine Run.q (e := vIv) (gv := vIv) (ok_impl_DivI _ _) fun r4 _ => ?_
    refine Run.q (e := vIv) (gv := vIv) (ok_impl_LogI _) fun r5 _ => ?_
    refine Run.q (e := vIv) (gv := vIv) (ok_impl_HalfI _) fun r6 _ => ?_
    exact Run.x 0

theorem ok_impl_odd_1__p_impl_AtanhI_1 (a0 : I64) : Fun Tryz.prog 317 [(#[.func (.func 250) #[] #[]], 53)] #[vI a0, .pointer (some ⟨0, 0, none⟩)] (vIv (F_impl_odd_1__p_impl_AtanhI_1 a0)) [(#[.func (.func 250) #[] #[]], 53)] := by
  refine Fun.ofH 400 E_ok mixed Tryz.func317 (by kernel_rfl) (by kernel_rfl) ?_
  unfold F_impl_odd_1__p_impl_AtanhI_1
  refine Run.y (gv := vIv) (fun _ => ?_) (fun _ => ?_)
  · refine Run.q (e := vIv) (gv := vIv) (ok_impl_AtanhI_1 _) fun r1 _ => ?_
    refine Run.q (e := vIv) (gv := vIv) (ok_impl_NegI _) fun r2 _ => ?_
    exact Run.x 1
  · refine Run.q (e := vIv) (gv := vIv) (ok_impl_AtanhI_1 _) fun r3 _ => ?_
    exact Run.x 1

theorem ok_impl_monotonic__impl_odd_1_p_impl_AtanhI_1 (a0 : Iv) : Fun Tryz.prog 231 [(#[.func (.func 250) #[] #[]], 53)] #[vIv a0, .func (.func 317) #[] #[.pointer (some ⟨0, 0, none⟩)]] (vIv (F_impl_monotonic__impl_odd_1_p_impl_AtanhI_1 a0)) [(#[.func (.func 250) #[] #[]], 53)] := by
  refine Fun.ofH 400 E_ok mixed Tryz.func231 (by kernel_rfl) (by kernel_rfl) ?_
  unfold F_impl_monotonic__impl_odd_1_p_impl_AtanhI_1
  refine Run.q (e := vB) (gv := vIv) (ok_impl_IsWhole _) fun r1 _ => ?_
  refine Run.y (gv := vIv) (fun _ => ?_) (fun _ => ?_)
  · refine Run.q (e := vIv) (gv := vIv) (ok_impl_Whole) fun r2 _ => ?_
    exact Run.x 1
  · refine Run.w (e := vIv) (gv := vIv) [0] (ok_impl_odd_1__p_impl_AtanhI_1 _) fun r3 _ => ?_
    refine Run.w (e := vIv) (gv := vIv) [0] (ok_impl_odd_1__p_impl_AtanhI_1 _) fun r4 _ => ?_
    refine Run.q (e := vB) (gv := vIv) (ok_impl_areBounded _ _) fun r5 _ => ?_
    refine Run.y (gv := vIv) (fun _ => ?_) (fun _ => ?_)
    · refine Run.q (e := vIv) (gv := vIv) (ok_impl_Whole) fun r6 _ => ?_
      exact Run.x 1
    · refine Run.q (e := vIv) (gv := vIv) (ok_impl_bounded _ _ _) fun r7 _ => ?_
      exact Run.x 1

theorem ok_impl_AtanhI (a0 : Iv) : Fun Tryz.prog 143 [] #[vIv a0] (vIv (F_impl_AtanhI a0)) [] := by
  refine Fun.ofH 400 E_ok mixed Tryz.func143 (by kernel_rfl) (by kernel_rfl) ?_
  unfold F_impl_AtanhI
  refine Run.o (by kernel_rfl) ?_ ?_
  · refine Run.m (by kernel_rfl) (by kernel_rfl) (ok_impl_odd 250) (by kernel_rfl) (by kernel_rfl) (by kernel_rfl) ?_
    refine Run.w (e := vIv) (gv := vIv) [2] (ok_impl_monotonic__impl_odd_1_p_impl_AtanhI_1 _) fun r1 hr1 => ?_
    exact Run.x 0
  · refine Run.m (by kernel_rfl) (by kernel_rfl) (ok_impl_odd 250) (by kernel_rfl) (by kernel_rfl) (by kernel_rfl) ?_
    refine Run.w (e := vIv) (gv := vIv) [2] (ok_impl_monotonic__impl_odd_1_p_impl_AtanhI_1 _) fun r2 hr2 => ?_
    exact Run.x 0

theorem ok_impl_TransverseForward (a0 : Pj) (a1 : Pt) : Fun Tryz.prog 54 [] #[vPj a0, vPt a1] (vT_Pn_I (F_impl_TransverseForward a0 a1)) [] := by
  refine Fun.ofH 400 E_ok mixed Tryz.func54 (by kernel_rfl) (by kernel_rfl) ?_
  unfold F_impl_TransverseForward
  refine Run.q (e := vT_Iv_Iv_Iv_I) (gv := vT_Pn_I) (ok_impl_transverse _ _) fun r1 _ => ?_
  refine Run.y (gv := vT_Pn_I) (fun _ => ?_) (fun _ => ?_)
  · exact Run.x 0
  · refine Run.q (e := vIv) (gv := vT_Pn_I) (ok_impl_AtanhI _) fun r2 _ => ?_
    refine Run.q (e := vIv) (gv := vT_Pn_I) (ok_impl_SinI _) fun r3 _ => ?_
    refine Run.q (e := vIv) (gv := vT_Pn_I) (ok_impl_CosI _) fun r4 _ => ?_
    refine Run.q (e := vIv) (gv := vT_Pn_I) (ok_impl_CosI _) fun r5 _ => ?_
    refine Run.q (e := vIv) (gv := vT_Pn_I) (ok_impl_MulI _ _) fun r6 _ => ?_
    refine Run.q (e := vIv) (gv := vT_Pn_I) (ok_impl_DirectionI _ _) fun r7 _ => ?_
    refine Run.q (e := vIv) (gv := vT_Pn_I) (ok_impl_RadiansOf _) fun r8 _ => ?_
    refine Run.q (e := vIv) (gv := vT_Pn_I) (ok_impl_SubI _ _) fun r9 _ => ?_
    refine Run.q (e := vT_Pn_I) (gv := vT_Pn_I) (ok_impl_planar _ _) fun r10 _ => ?_
    exact Run.x 0

theorem ok_impl_Project (a0 : Pj) (a1 : Pt) : Fun Tryz.prog 17 [] #[vPj a0, vPt a1] (vT_Pn_I (F_impl_Project a0 a1)) [] := by
  refine Fun.ofH 400 E_ok mixed Tryz.func17 (by kernel_rfl) (by kernel_rfl) ?_
  unfold F_impl_Project
  refine Run.q (e := vI) (gv := vT_Pn_I) (ok_impl_FamilyOf _) fun r1 _ => ?_
  refine Run.y (gv := vT_Pn_I) (fun _ => ?_) (fun _ => ?_)
  · refine Run.q (e := vT_Pn_I) (gv := vT_Pn_I) (ok_impl_CylinderForward _ _) fun r2 _ => ?_
    exact Run.x 0
  · refine Run.y (gv := vT_Pn_I) (fun _ => ?_) (fun _ => ?_)
    · refine Run.q (e := vT_Pn_I) (gv := vT_Pn_I) (ok_impl_AzimuthalForward _ _) fun r3 _ => ?_
      exact Run.x 0
    · refine Run.y (gv := vT_Pn_I) (fun _ => ?_) (fun _ => ?_)
      · refine Run.q (e := vT_Pn_I) (gv := vT_Pn_I) (ok_impl_ConicForward _ _) fun r4 _ => ?_
        exact Run.x 0
      · refine Run.y (gv := vT_Pn_I) (fun _ => ?_) (fun _ => ?_)
        · refine Run.q (e := vT_Pn_I) (gv := vT_Pn_I) (ok_impl_PseudoForward _ _) fun r5 _ => ?_
          exact Run.x 0
        · refine Run.y (gv := vT_Pn_I) (fun _ => ?_) (fun _ => ?_)
          · refine Run.q (e := vT_Pn_I) (gv := vT_Pn_I) (ok_impl_TransverseForward _ _) fun r6 _ => ?_
            exact Run.x 0
          · exact Run.x 0

theorem ok_impl_MapDistance (a0 : Pj) (a1 : Pt) (a2 : Pt) : Fun Tryz.prog 20 [] #[vPj a0, vPt a1, vPt a2] (vT_Iv_I (F_impl_MapDistance a0 a1 a2)) [] := by
  refine Fun.ofH 400 E_ok mixed Tryz.func20 (by kernel_rfl) (by kernel_rfl) ?_
  unfold F_impl_MapDistance
  refine Run.q (e := vT_Pn_I) (gv := vT_Iv_I) (ok_impl_Project _ _) fun r1 _ => ?_
  refine Run.y (gv := vT_Iv_I) (fun _ => ?_) (fun _ => ?_)
  · exact Run.x 0
  · refine Run.q (e := vT_Pn_I) (gv := vT_Iv_I) (ok_impl_Project _ _) fun r2 _ => ?_
    refine Run.y (gv := vT_Iv_I) (fun _ => ?_) (fun _ => ?_)
    · exact Run.x 0
    · refine Run.q (e := vIv) (gv := vT_Iv_I) (ok_impl_SubI _ _) fun r3 _ => ?_
      refine Run.q (e := vIv) (gv := vT_Iv_I) (ok_impl_SqrI _) fun r4 _ => ?_
      refine Run.q (e := vIv) (gv := vT_Iv_I) (ok_impl_SubI _ _) fun r5 _ => ?_
      refine Run.q (e := vIv) (gv := vT_Iv_I) (ok_impl_SqrI _) fun r6 _ => ?_
      refine Run.q (e := vIv) (gv := vT_Iv_I) (ok_impl_AddI _ _) fun r7 _ => ?_
      refine Run.q (e := vIv) (gv := vT_Iv_I) (ok_impl_SqrtI _) fun r8 _ => ?_
      refine Run.q (e := vT_Iv_I) (gv := vT_Iv_I) (ok_impl_knownI _) fun r9 _ => ?_
      exact Run.x 0

theorem ok_impl_StretchOf (a0 : Pj) (a1 : Pt) (a2 : Pt) : Fun Tryz.prog 25 [] #[vPj a0, vPt a1, vPt a2] (vT_Iv_I (F_impl_StretchOf a0 a1 a2)) [] := by
  refine Fun.ofH 400 E_ok mixed Tryz.func25 (by kernel_rfl) (by kernel_rfl) ?_
  unfold F_impl_StretchOf
  refine Run.q (e := vT_Iv_I) (gv := vT_Iv_I) (ok_impl_MapDistance _ _ _) fun r1 _ => ?_
  refine Run.y (gv := vT_Iv_I) (fun _ => ?_) (fun _ => ?_)
  · exact Run.x 0
  · refine Run.q (e := vT_Iv_I) (gv := vT_Iv_I) (ok_impl_AngleBetween _ _) fun r2 _ => ?_
    refine Run.y (gv := vT_Iv_I) (fun _ => ?_) (fun _ => ?_)
    · exact Run.x 0
    · refine Run.q (e := vIv) (gv := vT_Iv_I) (ok_impl_DivI _ _) fun r3 _ => ?_
      refine Run.q (e := vT_Iv_I) (gv := vT_Iv_I) (ok_impl_knownI _) fun r4 _ => ?_
      exact Run.x 0

end Go.Proofs.YtjckiicaegpghaaGreat.Abs
