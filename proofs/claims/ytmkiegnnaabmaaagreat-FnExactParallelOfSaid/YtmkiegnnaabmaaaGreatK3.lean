/- The program's functions are these; part 3 (written by w.py). -/
import Derived.Test.YtmkiegnnaabmaaaGreatK2
import Derived.Test.YtmkiegnnaabmaaaGreatF3
set_option linter.unusedVariables false
set_option linter.unusedSimpArgs false
namespace Go.Proofs.YtmkiegnnaabmaaaGreat.Abs
open Go Go.RowKit

theorem ok_impl_SqrtFloor (a0 : I64) (a1 : I64) : Fun Tryz.prog 147 [] #[vI a0, vI a1] (vT_I_B (F_impl_SqrtFloor a0 a1)) [] := by
  refine Fun.ofH 400 E_ok mixed Tryz.func147 (by kernel_rfl) (by kernel_rfl) ?_
  unfold F_impl_SqrtFloor
  refine Run.jH (gv := vT_I_B) (by kernel_rfl) (?_) (?_)
  · refine Run.p [true, true, true] (by kernel_rfl) ?_
    exact Run.rh (k := 0) (by kernel_rfl) (by kernel_rfl)
  · refine Run.p [false, false] (by kernel_rfl) ?_
    refine Run.jH (gv := vT_I_B) (by kernel_rfl) (?_) (?_)
    · exact Run.rh (k := 0) (by kernel_rfl) (by kernel_rfl)
    · refine Run.bH (e := vWd) (gv := vT_I_B) (by kernel_rfl) (by kernel_rfl) (ok_impl_WideMul _ _) (fun _ => rfl) fun r1 => ?_
      refine Run.bH (e := vT_U_B) (gv := vT_I_B) (by kernel_rfl) (by kernel_rfl) (ok_impl_WideSqrt _) (fun _ => rfl) fun r2 => ?_
      exact Run.rh (k := 0) (by kernel_rfl) (by kernel_rfl)

theorem ok_impl_SqrtDown (a0 : I64) : Fun Tryz.prog 116 [] #[vI a0] (vT_I_B (F_impl_SqrtDown a0)) [] := by
  refine Fun.ofH 400 E_ok mixed Tryz.func116 (by kernel_rfl) (by kernel_rfl) ?_
  unfold F_impl_SqrtDown
  refine Run.bH (e := vB) (gv := vT_I_B) (by kernel_rfl) (by kernel_rfl) (ok_impl_ValidFix _) (fun _ => rfl) fun r1 => ?_
  refine Run.jH (gv := vT_I_B) (by kernel_rfl) (?_) (?_)
  · exact Run.rh (k := 0) (by kernel_rfl) (by kernel_rfl)
  · refine Run.bH (e := vT_I_B) (gv := vT_I_B) (by kernel_rfl) (by kernel_rfl) (ok_impl_SqrtFloor _ _) (fun _ => rfl) fun r2 => ?_
    refine Run.bH (e := vT_I_B) (gv := vT_I_B) (by kernel_rfl) (by kernel_rfl) (ok_impl_fixed _ _) (fun _ => rfl) fun r3 => ?_
    exact Run.rh (k := 0) (by kernel_rfl) (by kernel_rfl)

theorem ok_impl_SqrtUp (a0 : I64) : Fun Tryz.prog 117 [] #[vI a0] (vT_I_B (F_impl_SqrtUp a0)) [] := by
  refine Fun.ofH 400 E_ok mixed Tryz.func117 (by kernel_rfl) (by kernel_rfl) ?_
  unfold F_impl_SqrtUp
  refine Run.bH (e := vT_I_B) (gv := vT_I_B) (by kernel_rfl) (by kernel_rfl) (ok_impl_SqrtDown _) (fun _ => rfl) fun r1 => ?_
  refine Run.jH (gv := vT_I_B) (by kernel_rfl) (?_) (?_)
  · refine Run.p [true, true] (by kernel_rfl) ?_
    refine Run.bH (e := vWd) (gv := vT_I_B) (by kernel_rfl) (by kernel_rfl) (ok_impl_WideMul _ _) (fun _ => rfl) fun r2 => ?_
    refine Run.p [true, true] (by kernel_rfl) ?_
    refine Run.bH (e := vWd) (gv := vT_I_B) (by kernel_rfl) (by kernel_rfl) (ok_impl_WideMul _ _) (fun _ => rfl) fun r3 => ?_
    refine Run.p [true, true] (by kernel_rfl) ?_
    refine Run.jH (gv := vT_I_B) (by kernel_rfl) (?_) (?_)
    · refine Run.bH (e := vT_I_B) (gv := vT_I_B) (by kernel_rfl) (by kernel_rfl) (ok_impl_fixed _ _) (fun _ => rfl) fun r4 => ?_
      exact Run.rh (k := 0) (by kernel_rfl) (by kernel_rfl)
    · refine Run.bH (e := vT_I_B) (gv := vT_I_B) (by kernel_rfl) (by kernel_rfl) (ok_impl_fixed _ _) (fun _ => rfl) fun r5 => ?_
      exact Run.rh (k := 0) (by kernel_rfl) (by kernel_rfl)
  · refine Run.p [false, false, false, false, false, false, false] (by kernel_rfl) ?_
    refine Run.bH (e := vT_I_B) (gv := vT_I_B) (by kernel_rfl) (by kernel_rfl) (ok_impl_fixed _ _) (fun _ => rfl) fun r6 => ?_
    exact Run.rh (k := 0) (by kernel_rfl) (by kernel_rfl)

theorem ok_impl_SqrtI (a0 : Iv) : Fun Tryz.prog 53 [] #[vIv a0] (vIv (F_impl_SqrtI a0)) [] := by
  refine Fun.ofH 400 E_ok mixed Tryz.func53 (by kernel_rfl) (by kernel_rfl) ?_
  unfold F_impl_SqrtI
  refine Run.bH (e := vB) (gv := vIv) (by kernel_rfl) (by kernel_rfl) (ok_impl_IsWhole _) (fun _ => rfl) fun r1 => ?_
  refine Run.jH (gv := vIv) (by kernel_rfl) (?_) (?_)
  · refine Run.p [true, true, true, true] (by kernel_rfl) ?_
    refine Run.bH (e := vIv) (gv := vIv) (by kernel_rfl) (by kernel_rfl) (ok_impl_Whole) (fun _ => rfl) fun r2 => ?_
    exact Run.rh (k := 0) (by kernel_rfl) (by kernel_rfl)
  · refine Run.p [false, false, false] (by kernel_rfl) ?_
    refine Run.jH (gv := vIv) (by kernel_rfl) (?_) (?_)
    · refine Run.bH (e := vIv) (gv := vIv) (by kernel_rfl) (by kernel_rfl) (ok_impl_Whole) (fun _ => rfl) fun r3 => ?_
      exact Run.rh (k := 0) (by kernel_rfl) (by kernel_rfl)
    · refine Run.bH (e := vT_I_B) (gv := vIv) (by kernel_rfl) (by kernel_rfl) (ok_impl_SqrtDown _) (fun _ => rfl) fun r4 => ?_
      refine Run.bH (e := vT_I_B) (gv := vIv) (by kernel_rfl) (by kernel_rfl) (ok_impl_SqrtUp _) (fun _ => rfl) fun r5 => ?_
      refine Run.jH (gv := vIv) (by kernel_rfl) (?_) (?_)
      · refine Run.p [true] (by kernel_rfl) ?_
        refine Run.bH (e := vIv) (gv := vIv) (by kernel_rfl) (by kernel_rfl) (ok_impl_bounded _ _ _) (fun _ => rfl) fun r6 => ?_
        exact Run.rh (k := 0) (by kernel_rfl) (by kernel_rfl)
      · refine Run.p [false] (by kernel_rfl) ?_
        refine Run.bH (e := vIv) (gv := vIv) (by kernel_rfl) (by kernel_rfl) (ok_impl_bounded _ _ _) (fun _ => rfl) fun r7 => ?_
        exact Run.rh (k := 0) (by kernel_rfl) (by kernel_rfl)

theorem ok_impl_knownI (a0 : Iv) : Fun Tryz.prog 50 [] #[vIv a0] (vT_Iv_I (F_impl_knownI a0)) [] := by
  refine Fun.ofH 400 E_ok mixed Tryz.func50 (by kernel_rfl) (by kernel_rfl) ?_
  unfold F_impl_knownI
  refine Run.bH (e := vB) (gv := vT_Iv_I) (by kernel_rfl) (by kernel_rfl) (ok_impl_IsWhole _) (fun _ => rfl) fun r1 => ?_
  refine Run.jH (gv := vT_Iv_I) (by kernel_rfl) (?_) (?_)
  · exact Run.rh (k := 0) (by kernel_rfl) (by kernel_rfl)
  · exact Run.rh (k := 0) (by kernel_rfl) (by kernel_rfl)

theorem ok_impl_TransverseScale (a0 : Pj) (a1 : Pt) : Fun Tryz.prog 20 [] #[vPj a0, vPt a1] (vT_Iv_I (F_impl_TransverseScale a0 a1)) [] := by
  refine Fun.ofH 400 E_ok mixed Tryz.func20 (by kernel_rfl) (by kernel_rfl) ?_
  unfold F_impl_TransverseScale
  refine Run.bH (e := vT_Iv_Iv_Iv_I) (gv := vT_Iv_I) (by kernel_rfl) (by kernel_rfl) (ok_impl_transverse _ _) (fun _ => rfl) fun r1 => ?_
  refine Run.jH (gv := vT_Iv_I) (by kernel_rfl) (?_) (?_)
  · exact Run.rh (k := 0) (by kernel_rfl) (by kernel_rfl)
  · refine Run.bH (e := vIv) (gv := vT_Iv_I) (by kernel_rfl) (by kernel_rfl) (ok_impl_Integer _) (fun _ => rfl) fun r2 => ?_
    refine Run.bH (e := vIv) (gv := vT_Iv_I) (by kernel_rfl) (by kernel_rfl) (ok_impl_SqrI _) (fun _ => rfl) fun r3 => ?_
    refine Run.bH (e := vIv) (gv := vT_Iv_I) (by kernel_rfl) (by kernel_rfl) (ok_impl_oneLess _) (fun _ => rfl) fun r4 => ?_
    refine Run.bH (e := vIv) (gv := vT_Iv_I) (by kernel_rfl) (by kernel_rfl) (ok_impl_SqrtI _) (fun _ => rfl) fun r5 => ?_
    refine Run.bH (e := vIv) (gv := vT_Iv_I) (by kernel_rfl) (by kernel_rfl) (ok_impl_DivI _ _) (fun _ => rfl) fun r6 => ?_
    refine Run.bH (e := vT_Iv_I) (gv := vT_Iv_I) (by kernel_rfl) (by kernel_rfl) (ok_impl_knownI _) (fun _ => rfl) fun r7 => ?_
    exact Run.rh (k := 0) (by kernel_rfl) (by kernel_rfl)

theorem ok_laws_FnExactTransverseScale (a0 : Pj) (a1 : Pt) : Fun Tryz.prog 6 [] #[vPj a0, vPt a1] (vB (F_laws_FnExactTransverseScale a0 a1)) [] := by
  refine Fun.ofH 400 E_ok mixed Tryz.func6 (by kernel_rfl) (by kernel_rfl) ?_
  unfold F_laws_FnExactTransverseScale
  refine Run.bH (e := vPj) (gv := vB) (by kernel_rfl) (by kernel_rfl) (ok_laws_toProjection _) (fun _ => rfl) fun r1 => ?_
  refine Run.bH (e := vPt) (gv := vB) (by kernel_rfl) (by kernel_rfl) (ok_laws_toPoint _) (fun _ => rfl) fun r2 => ?_
  refine Run.bH (e := vT_Iv_I) (gv := vB) (by kernel_rfl) (by kernel_rfl) (ok_spec_TransverseScale _ _) (fun _ => rfl) fun r3 => ?_
  refine Run.bH (e := vPj) (gv := vB) (by kernel_rfl) (by kernel_rfl) (ok_laws_toProjection _) (fun _ => rfl) fun r4 => ?_
  refine Run.bH (e := vPt) (gv := vB) (by kernel_rfl) (by kernel_rfl) (ok_laws_toPoint _) (fun _ => rfl) fun r5 => ?_
  refine Run.bH (e := vT_Iv_I) (gv := vB) (by kernel_rfl) (by kernel_rfl) (ok_impl_TransverseScale _ _) (fun _ => rfl) fun r6 => ?_
  refine Run.bH (e := vB) (gv := vB) (by kernel_rfl) (by kernel_rfl) (ok_laws_eqInterval _ _) (fun _ => rfl) fun r7 => ?_
  refine Run.jH (gv := vB) (by kernel_rfl) (?_) (?_)
  · refine Run.p [true, true, true, true] (by kernel_rfl) ?_
    exact Run.rh (k := 0) (by kernel_rfl) (by kernel_rfl)
  · refine Run.p [false, false, false] (by kernel_rfl) ?_
    refine Run.jH (gv := vB) (by kernel_rfl) (?_) (?_)
    · exact Run.rh (k := 0) (by kernel_rfl) (by kernel_rfl)
    · exact Run.rh (k := 0) (by kernel_rfl) (by kernel_rfl)

theorem ok_spec_l20Kind (a0 : I64) : Fun Tryz.prog 56 [] #[vI a0] (vB (F_spec_l20Kind a0)) [] := by
  refine Fun.ofH 400 E_ok mixed Tryz.func56 (by kernel_rfl) (by kernel_rfl) ?_
  unfold F_spec_l20Kind
  refine Run.bH (e := vB) (gv := vB) (by kernel_rfl) (by kernel_rfl) (ok_spec_l00In _ _ _) (fun _ => rfl) fun r1 => ?_
  exact Run.rh (k := 0) (by kernel_rfl) (by kernel_rfl)

theorem ok_spec_l20Root (a0 : I64) : Fun Tryz.prog 120 [] #[vI a0] (vIv (F_spec_l20Root a0)) [] := by
  refine Fun.ofH 400 E_ok mixed Tryz.func120 (by kernel_rfl) (by kernel_rfl) ?_
  unfold F_spec_l20Root
  refine Run.jH (gv := vIv) (by kernel_rfl) (?_) (?_)
  · refine Run.bH (e := vIv) (gv := vIv) (by kernel_rfl) (by kernel_rfl) (ok_spec_Integer _) (fun _ => rfl) fun r1 => ?_
    refine Run.bH (e := vIv) (gv := vIv) (by kernel_rfl) (by kernel_rfl) (ok_spec_SqrtI _) (fun _ => rfl) fun r2 => ?_
    exact Run.rh (k := 0) (by kernel_rfl) (by kernel_rfl)
  · refine Run.bH (e := vIv) (gv := vIv) (by kernel_rfl) (by kernel_rfl) (ok_spec_Integer _) (fun _ => rfl) fun r3 => ?_
    refine Run.bH (e := vIv) (gv := vIv) (by kernel_rfl) (by kernel_rfl) (ok_spec_PiI) (fun _ => rfl) fun r4 => ?_
    refine Run.bH (e := vIv) (gv := vIv) (by kernel_rfl) (by kernel_rfl) (ok_spec_AddI _ _) (fun _ => rfl) fun r5 => ?_
    refine Run.bH (e := vIv) (gv := vIv) (by kernel_rfl) (by kernel_rfl) (ok_spec_SqrtI _) (fun _ => rfl) fun r6 => ?_
    exact Run.rh (k := 0) (by kernel_rfl) (by kernel_rfl)

theorem ok_spec_l20Parallel (a0 : I64) (a1 : Iv) : Fun Tryz.prog 57 [] #[vI a0, vIv a1] (vT_Iv_Iv (F_spec_l20Parallel a0 a1)) [] := by
  refine Fun.ofH 400 E_ok mixed Tryz.func57 (by kernel_rfl) (by kernel_rfl) ?_
  unfold F_spec_l20Parallel
  refine Run.jH (gv := vT_Iv_Iv) (by kernel_rfl) (?_) (?_)
  · refine Run.bH (e := vIv) (gv := vT_Iv_Iv) (by kernel_rfl) (by kernel_rfl) (ok_spec_CosI _) (fun _ => rfl) fun r1 => ?_
    exact Run.rh (k := 0) (by kernel_rfl) (by kernel_rfl)
  · refine Run.jH (gv := vT_Iv_Iv) (by kernel_rfl) (?_) (?_)
    · refine Run.bH (e := vIv) (gv := vT_Iv_Iv) (by kernel_rfl) (by kernel_rfl) (ok_spec_Integer _) (fun _ => rfl) fun r2 => ?_
      refine Run.bH (e := vIv) (gv := vT_Iv_Iv) (by kernel_rfl) (by kernel_rfl) (ok_spec_l20Root _) (fun _ => rfl) fun r3 => ?_
      refine Run.bH (e := vIv) (gv := vT_Iv_Iv) (by kernel_rfl) (by kernel_rfl) (ok_spec_MulI _ _) (fun _ => rfl) fun r4 => ?_
      refine Run.bH (e := vIv) (gv := vT_Iv_Iv) (by kernel_rfl) (by kernel_rfl) (ok_spec_CosI _) (fun _ => rfl) fun r5 => ?_
      refine Run.bH (e := vIv) (gv := vT_Iv_Iv) (by kernel_rfl) (by kernel_rfl) (ok_spec_MulI _ _) (fun _ => rfl) fun r6 => ?_
      refine Run.bH (e := vIv) (gv := vT_Iv_Iv) (by kernel_rfl) (by kernel_rfl) (ok_spec_PiI) (fun _ => rfl) fun r7 => ?_
      refine Run.bH (e := vIv) (gv := vT_Iv_Iv) (by kernel_rfl) (by kernel_rfl) (ok_spec_DivI _ _) (fun _ => rfl) fun r8 => ?_
      refine Run.bH (e := vIv) (gv := vT_Iv_Iv) (by kernel_rfl) (by kernel_rfl) (ok_spec_l20Root _) (fun _ => rfl) fun r9 => ?_
      refine Run.bH (e := vIv) (gv := vT_Iv_Iv) (by kernel_rfl) (by kernel_rfl) (ok_spec_SinI _) (fun _ => rfl) fun r10 => ?_
      refine Run.bH (e := vIv) (gv := vT_Iv_Iv) (by kernel_rfl) (by kernel_rfl) (ok_spec_MulI _ _) (fun _ => rfl) fun r11 => ?_
      exact Run.rh (k := 0) (by kernel_rfl) (by kernel_rfl)
    · refine Run.bH (e := vIv) (gv := vT_Iv_Iv) (by kernel_rfl) (by kernel_rfl) (ok_spec_Integer _) (fun _ => rfl) fun r12 => ?_
      refine Run.bH (e := vIv) (gv := vT_Iv_Iv) (by kernel_rfl) (by kernel_rfl) (ok_spec_CosI _) (fun _ => rfl) fun r13 => ?_
      refine Run.bH (e := vIv) (gv := vT_Iv_Iv) (by kernel_rfl) (by kernel_rfl) (ok_spec_AddI _ _) (fun _ => rfl) fun r14 => ?_
      refine Run.bH (e := vIv) (gv := vT_Iv_Iv) (by kernel_rfl) (by kernel_rfl) (ok_spec_l20Root _) (fun _ => rfl) fun r15 => ?_
      refine Run.bH (e := vIv) (gv := vT_Iv_Iv) (by kernel_rfl) (by kernel_rfl) (ok_spec_DivI _ _) (fun _ => rfl) fun r16 => ?_
      refine Run.bH (e := vIv) (gv := vT_Iv_Iv) (by kernel_rfl) (by kernel_rfl) (ok_spec_Integer _) (fun _ => rfl) fun r17 => ?_
      refine Run.bH (e := vIv) (gv := vT_Iv_Iv) (by kernel_rfl) (by kernel_rfl) (ok_spec_MulI _ _) (fun _ => rfl) fun r18 => ?_
      refine Run.bH (e := vIv) (gv := vT_Iv_Iv) (by kernel_rfl) (by kernel_rfl) (ok_spec_l20Root _) (fun _ => rfl) fun r19 => ?_
      refine Run.bH (e := vIv) (gv := vT_Iv_Iv) (by kernel_rfl) (by kernel_rfl) (ok_spec_DivI _ _) (fun _ => rfl) fun r20 => ?_
      exact Run.rh (k := 0) (by kernel_rfl) (by kernel_rfl)

theorem ok_spec_ParallelOf (a0 : I64) (a1 : Iv) : Fun Tryz.prog 21 [] #[vI a0, vIv a1] (vT_Iv_Iv (F_spec_ParallelOf a0 a1)) [] := by
  refine Fun.ofH 400 E_ok mixed Tryz.func21 (by kernel_rfl) (by kernel_rfl) ?_
  unfold F_spec_ParallelOf
  refine Run.bH (e := vB) (gv := vT_Iv_Iv) (by kernel_rfl) (by kernel_rfl) (ok_spec_l20Kind _) (fun _ => rfl) fun r1 => ?_
  refine Run.jH (gv := vT_Iv_Iv) (by kernel_rfl) (?_) (?_)
  · refine Run.bH (e := vIv) (gv := vT_Iv_Iv) (by kernel_rfl) (by kernel_rfl) (ok_spec_Whole) (fun _ => rfl) fun r2 => ?_
    refine Run.bH (e := vIv) (gv := vT_Iv_Iv) (by kernel_rfl) (by kernel_rfl) (ok_spec_Whole) (fun _ => rfl) fun r3 => ?_
    exact Run.rh (k := 0) (by kernel_rfl) (by kernel_rfl)
  · refine Run.bH (e := vIv) (gv := vT_Iv_Iv) (by kernel_rfl) (by kernel_rfl) (ok_spec_ThetaOf _ _) (fun _ => rfl) fun r4 => ?_
    refine Run.bH (e := vT_Iv_Iv) (gv := vT_Iv_Iv) (by kernel_rfl) (by kernel_rfl) (ok_spec_l20Parallel _ _) (fun _ => rfl) fun r5 => ?_
    exact Run.rh (k := 0) (by kernel_rfl) (by kernel_rfl)

theorem ok_impl_pseudoRadius (a0 : I64) : Fun Tryz.prog 121 [] #[vI a0] (vIv (F_impl_pseudoRadius a0)) [] := by
  refine Fun.ofH 400 E_ok mixed Tryz.func121 (by kernel_rfl) (by kernel_rfl) ?_
  unfold F_impl_pseudoRadius
  refine Run.jH (gv := vIv) (by kernel_rfl) (?_) (?_)
  · refine Run.bH (e := vIv) (gv := vIv) (by kernel_rfl) (by kernel_rfl) (ok_impl_Integer _) (fun _ => rfl) fun r1 => ?_
    refine Run.bH (e := vIv) (gv := vIv) (by kernel_rfl) (by kernel_rfl) (ok_impl_SqrtI _) (fun _ => rfl) fun r2 => ?_
    exact Run.rh (k := 0) (by kernel_rfl) (by kernel_rfl)
  · refine Run.bH (e := vIv) (gv := vIv) (by kernel_rfl) (by kernel_rfl) (ok_impl_Integer _) (fun _ => rfl) fun r3 => ?_
    refine Run.bH (e := vIv) (gv := vIv) (by kernel_rfl) (by kernel_rfl) (ok_impl_PiI) (fun _ => rfl) fun r4 => ?_
    refine Run.bH (e := vIv) (gv := vIv) (by kernel_rfl) (by kernel_rfl) (ok_impl_AddI _ _) (fun _ => rfl) fun r5 => ?_
    refine Run.bH (e := vIv) (gv := vIv) (by kernel_rfl) (by kernel_rfl) (ok_impl_SqrtI _) (fun _ => rfl) fun r6 => ?_
    exact Run.rh (k := 0) (by kernel_rfl) (by kernel_rfl)

theorem ok_impl_times (a0 : I64) (a1 : Iv) : Fun Tryz.prog 122 [] #[vI a0, vIv a1] (vIv (F_impl_times a0 a1)) [] := by
  refine Fun.ofH 400 E_ok mixed Tryz.func122 (by kernel_rfl) (by kernel_rfl) ?_
  unfold F_impl_times
  refine Run.bH (e := vIv) (gv := vIv) (by kernel_rfl) (by kernel_rfl) (ok_impl_Integer _) (fun _ => rfl) fun r1 => ?_
  refine Run.bH (e := vIv) (gv := vIv) (by kernel_rfl) (by kernel_rfl) (ok_impl_MulI _ _) (fun _ => rfl) fun r2 => ?_
  exact Run.rh (k := 0) (by kernel_rfl) (by kernel_rfl)

theorem ok_impl_parallelLength (a0 : I64) (a1 : Iv) : Fun Tryz.prog 58 [] #[vI a0, vIv a1] (vIv (F_impl_parallelLength a0 a1)) [] := by
  refine Fun.ofH 400 E_ok mixed Tryz.func58 (by kernel_rfl) (by kernel_rfl) ?_
  unfold F_impl_parallelLength
  refine Run.bH (e := vIv) (gv := vIv) (by kernel_rfl) (by kernel_rfl) (ok_impl_pseudoRadius _) (fun _ => rfl) fun r1 => ?_
  refine Run.jH (gv := vIv) (by kernel_rfl) (?_) (?_)
  · refine Run.bH (e := vIv) (gv := vIv) (by kernel_rfl) (by kernel_rfl) (ok_impl_CosI _) (fun _ => rfl) fun r2 => ?_
    exact Run.rh (k := 0) (by kernel_rfl) (by kernel_rfl)
  · refine Run.jH (gv := vIv) (by kernel_rfl) (?_) (?_)
    · refine Run.bH (e := vIv) (gv := vIv) (by kernel_rfl) (by kernel_rfl) (ok_impl_times _ _) (fun _ => rfl) fun r3 => ?_
      refine Run.bH (e := vIv) (gv := vIv) (by kernel_rfl) (by kernel_rfl) (ok_impl_CosI _) (fun _ => rfl) fun r4 => ?_
      refine Run.bH (e := vIv) (gv := vIv) (by kernel_rfl) (by kernel_rfl) (ok_impl_MulI _ _) (fun _ => rfl) fun r5 => ?_
      refine Run.bH (e := vIv) (gv := vIv) (by kernel_rfl) (by kernel_rfl) (ok_impl_PiI) (fun _ => rfl) fun r6 => ?_
      refine Run.bH (e := vIv) (gv := vIv) (by kernel_rfl) (by kernel_rfl) (ok_impl_DivI _ _) (fun _ => rfl) fun r7 => ?_
      exact Run.rh (k := 0) (by kernel_rfl) (by kernel_rfl)
    · refine Run.bH (e := vIv) (gv := vIv) (by kernel_rfl) (by kernel_rfl) (ok_impl_Integer _) (fun _ => rfl) fun r8 => ?_
      refine Run.bH (e := vIv) (gv := vIv) (by kernel_rfl) (by kernel_rfl) (ok_impl_CosI _) (fun _ => rfl) fun r9 => ?_
      refine Run.bH (e := vIv) (gv := vIv) (by kernel_rfl) (by kernel_rfl) (ok_impl_AddI _ _) (fun _ => rfl) fun r10 => ?_
      refine Run.bH (e := vIv) (gv := vIv) (by kernel_rfl) (by kernel_rfl) (ok_impl_DivI _ _) (fun _ => rfl) fun r11 => ?_
      exact Run.rh (k := 0) (by kernel_rfl) (by kernel_rfl)

theorem ok_impl_parallelHeight (a0 : I64) (a1 : Iv) : Fun Tryz.prog 59 [] #[vI a0, vIv a1] (vIv (F_impl_parallelHeight a0 a1)) [] := by
  refine Fun.ofH 400 E_ok mixed Tryz.func59 (by kernel_rfl) (by kernel_rfl) ?_
  unfold F_impl_parallelHeight
  refine Run.bH (e := vIv) (gv := vIv) (by kernel_rfl) (by kernel_rfl) (ok_impl_pseudoRadius _) (fun _ => rfl) fun r1 => ?_
  refine Run.jH (gv := vIv) (by kernel_rfl) (?_) (?_)
  · exact Run.rh (k := 0) (by kernel_rfl) (by kernel_rfl)
  · refine Run.jH (gv := vIv) (by kernel_rfl) (?_) (?_)
    · refine Run.bH (e := vIv) (gv := vIv) (by kernel_rfl) (by kernel_rfl) (ok_impl_SinI _) (fun _ => rfl) fun r2 => ?_
      refine Run.bH (e := vIv) (gv := vIv) (by kernel_rfl) (by kernel_rfl) (ok_impl_MulI _ _) (fun _ => rfl) fun r3 => ?_
      exact Run.rh (k := 0) (by kernel_rfl) (by kernel_rfl)
    · refine Run.bH (e := vIv) (gv := vIv) (by kernel_rfl) (by kernel_rfl) (ok_impl_times _ _) (fun _ => rfl) fun r4 => ?_
      refine Run.bH (e := vIv) (gv := vIv) (by kernel_rfl) (by kernel_rfl) (ok_impl_DivI _ _) (fun _ => rfl) fun r5 => ?_
      exact Run.rh (k := 0) (by kernel_rfl) (by kernel_rfl)

theorem ok_impl_ParallelOf (a0 : I64) (a1 : Iv) : Fun Tryz.prog 22 [] #[vI a0, vIv a1] (vT_Iv_Iv (F_impl_ParallelOf a0 a1)) [] := by
  refine Fun.ofH 400 E_ok mixed Tryz.func22 (by kernel_rfl) (by kernel_rfl) ?_
  unfold F_impl_ParallelOf
  refine Run.bH (e := vB) (gv := vT_Iv_Iv) (by kernel_rfl) (by kernel_rfl) (ok_impl_isPseudo _) (fun _ => rfl) fun r1 => ?_
  refine Run.jH (gv := vT_Iv_Iv) (by kernel_rfl) (?_) (?_)
  · refine Run.bH (e := vIv) (gv := vT_Iv_Iv) (by kernel_rfl) (by kernel_rfl) (ok_impl_Whole) (fun _ => rfl) fun r2 => ?_
    refine Run.bH (e := vIv) (gv := vT_Iv_Iv) (by kernel_rfl) (by kernel_rfl) (ok_impl_Whole) (fun _ => rfl) fun r3 => ?_
    exact Run.rh (k := 0) (by kernel_rfl) (by kernel_rfl)
  · refine Run.bH (e := vIv) (gv := vT_Iv_Iv) (by kernel_rfl) (by kernel_rfl) (ok_impl_ThetaOf _ _) (fun _ => rfl) fun r4 => ?_
    refine Run.bH (e := vIv) (gv := vT_Iv_Iv) (by kernel_rfl) (by kernel_rfl) (ok_impl_parallelLength _ _) (fun _ => rfl) fun r5 => ?_
    refine Run.bH (e := vIv) (gv := vT_Iv_Iv) (by kernel_rfl) (by kernel_rfl) (ok_impl_parallelHeight _ _) (fun _ => rfl) fun r6 => ?_
    exact Run.rh (k := 0) (by kernel_rfl) (by kernel_rfl)

theorem ok_laws_FnExactParallelOf (a0 : I64) (a1 : Iv) : Fun Tryz.prog 7 [] #[vI a0, vIv a1] (vB (F_laws_FnExactParallelOf a0 a1)) [] := by
  refine Fun.ofH 400 E_ok mixed Tryz.func7 (by kernel_rfl) (by kernel_rfl) ?_
  unfold F_laws_FnExactParallelOf
  refine Run.bH (e := vIv) (gv := vB) (by kernel_rfl) (by kernel_rfl) (ok_laws_toInterval _) (fun _ => rfl) fun r1 => ?_
  refine Run.bH (e := vT_Iv_Iv) (gv := vB) (by kernel_rfl) (by kernel_rfl) (ok_spec_ParallelOf _ _) (fun _ => rfl) fun r2 => ?_
  refine Run.bH (e := vIv) (gv := vB) (by kernel_rfl) (by kernel_rfl) (ok_laws_toInterval _) (fun _ => rfl) fun r3 => ?_
  refine Run.bH (e := vT_Iv_Iv) (gv := vB) (by kernel_rfl) (by kernel_rfl) (ok_impl_ParallelOf _ _) (fun _ => rfl) fun r4 => ?_
  refine Run.bH (e := vB) (gv := vB) (by kernel_rfl) (by kernel_rfl) (ok_laws_eqInterval _ _) (fun _ => rfl) fun r5 => ?_
  refine Run.jH (gv := vB) (by kernel_rfl) (?_) (?_)
  · refine Run.p [true, true, true, true, true] (by kernel_rfl) ?_
    exact Run.rh (k := 0) (by kernel_rfl) (by kernel_rfl)
  · refine Run.p [false, false] (by kernel_rfl) ?_
    refine Run.bH (e := vB) (gv := vB) (by kernel_rfl) (by kernel_rfl) (ok_laws_eqInterval _ _) (fun _ => rfl) fun r6 => ?_
    refine Run.p [false, false] (by kernel_rfl) ?_
    refine Run.jH (gv := vB) (by kernel_rfl) (?_) (?_)
    · exact Run.rh (k := 0) (by kernel_rfl) (by kernel_rfl)
    · exact Run.rh (k := 0) (by kernel_rfl) (by kernel_rfl)

theorem ok_spec_l20Ok__pPj (b0 : Pj) : Fun Tryz.prog 60 [(#[.int .i64 b0.kind.val, .int .i64 b0.lat0.val, .int .i64 b0.lon0.val, .int .i64 b0.lat1.val, .int .i64 b0.lat2.val], 37)] #[.pointer (some ⟨0, 0, none⟩)] (vB (F_spec_l20Ok__pPj b0)) [(#[.int .i64 b0.kind.val, .int .i64 b0.lat0.val, .int .i64 b0.lon0.val, .int .i64 b0.lat1.val, .int .i64 b0.lat2.val], 37)] := by
  refine Fun.ofH 400 E_ok mixed Tryz.func60 (by kernel_rfl) (by kernel_rfl) ?_
  unfold F_spec_l20Ok__pPj
  refine Run.bH (e := vB) (gv := vB) (by kernel_rfl) (by kernel_rfl) (ok_spec_l20Kind _) (fun _ => rfl) fun r1 => ?_
  refine Run.jH (gv := vB) (by kernel_rfl) (?_) (?_)
  · refine Run.p [true, true, true] (by kernel_rfl) ?_
    refine Run.bH (e := vB) (gv := vB) (by kernel_rfl) (by kernel_rfl) (ok_spec_ValidProjection _) (fun _ => rfl) fun r2 => ?_
    refine Run.p [true] (by kernel_rfl) ?_
    exact Run.rh (k := 1) (by kernel_rfl) (by kernel_rfl)
  · refine Run.p [false, false, false, false] (by kernel_rfl) ?_
    exact Run.rh (k := 1) (by kernel_rfl) (by kernel_rfl)

theorem ok_spec_PseudoForward (a0 : Pj) (a1 : Pt) : Fun Tryz.prog 23 [] #[vPj a0, vPt a1] (vT_Pn_I (F_spec_PseudoForward a0 a1)) [] := by
  refine Fun.ofH 400 E_ok mixed Tryz.func23 (by kernel_rfl) (by kernel_rfl) ?_
  unfold F_spec_PseudoForward
  refine Run.sb (e := vB) (gv := vT_Pn_I) [0] (by kernel_rfl) (by kernel_rfl) (by kernel_rfl) (by decide) (by kernel_rfl) (ok_spec_l20Ok__pPj _) (fun _ => rfl) fun r1 => ?_
  refine Run.jH (gv := vT_Pn_I) (by kernel_rfl) (?_) (?_)
  · refine Run.p [true, true, true, true] (by kernel_rfl) ?_
    exact Run.rh (k := 0) (by kernel_rfl) (by kernel_rfl)
  · refine Run.p [false] (by kernel_rfl) ?_
    refine Run.bH (e := vB) (gv := vT_Pn_I) (by kernel_rfl) (by kernel_rfl) (ok_spec_l11Ok _) (fun _ => rfl) fun r2 => ?_
    refine Run.p [false, false] (by kernel_rfl) ?_
    refine Run.jH (gv := vT_Pn_I) (by kernel_rfl) (?_) (?_)
    · exact Run.rh (k := 0) (by kernel_rfl) (by kernel_rfl)
    · refine Run.bH (e := vIv) (gv := vT_Pn_I) (by kernel_rfl) (by kernel_rfl) (ok_spec_RadiansOf _) (fun _ => rfl) fun r3 => ?_
      refine Run.bH (e := vT_Iv_Iv) (gv := vT_Pn_I) (by kernel_rfl) (by kernel_rfl) (ok_spec_ParallelOf _ _) (fun _ => rfl) fun r4 => ?_
      refine Run.bH (e := vI) (gv := vT_Pn_I) (by kernel_rfl) (by kernel_rfl) (ok_spec_l11Wrap _) (fun _ => rfl) fun r5 => ?_
      refine Run.bH (e := vIv) (gv := vT_Pn_I) (by kernel_rfl) (by kernel_rfl) (ok_spec_RadiansOf _) (fun _ => rfl) fun r6 => ?_
      refine Run.bH (e := vIv) (gv := vT_Pn_I) (by kernel_rfl) (by kernel_rfl) (ok_spec_MulI _ _) (fun _ => rfl) fun r7 => ?_
      refine Run.bH (e := vB) (gv := vT_Pn_I) (by kernel_rfl) (by kernel_rfl) (ok_spec_IsWhole _) (fun _ => rfl) fun r8 => ?_
      refine Run.jH (gv := vT_Pn_I) (by kernel_rfl) (?_) (?_)
      · refine Run.p [true, true, true, true] (by kernel_rfl) ?_
        exact Run.rh (k := 0) (by kernel_rfl) (by kernel_rfl)
      · refine Run.p [false, false] (by kernel_rfl) ?_
        refine Run.bH (e := vB) (gv := vT_Pn_I) (by kernel_rfl) (by kernel_rfl) (ok_spec_IsWhole _) (fun _ => rfl) fun r9 => ?_
        refine Run.p [false] (by kernel_rfl) ?_
        refine Run.jH (gv := vT_Pn_I) (by kernel_rfl) (?_) (?_)
        · exact Run.rh (k := 0) (by kernel_rfl) (by kernel_rfl)
        · exact Run.rh (k := 0) (by kernel_rfl) (by kernel_rfl)

theorem ok_impl_isPseudoOne (a0 : Pj) : Fun Tryz.prog 64 [] #[vPj a0] (vB (F_impl_isPseudoOne a0)) [] := by
  refine Fun.ofH 400 E_ok mixed Tryz.func64 (by kernel_rfl) (by kernel_rfl) ?_
  unfold F_impl_isPseudoOne
  refine Run.bH (e := vB) (gv := vB) (by kernel_rfl) (by kernel_rfl) (ok_impl_ValidProjection _) (fun _ => rfl) fun r1 => ?_
  refine Run.jH (gv := vB) (by kernel_rfl) (?_) (?_)
  · refine Run.p [true, true] (by kernel_rfl) ?_
    refine Run.bH (e := vB) (gv := vB) (by kernel_rfl) (by kernel_rfl) (ok_impl_isPseudo _) (fun _ => rfl) fun r2 => ?_
    refine Run.p [true] (by kernel_rfl) ?_
    exact Run.rh (k := 0) (by kernel_rfl) (by kernel_rfl)
  · refine Run.p [false, false, false] (by kernel_rfl) ?_
    exact Run.rh (k := 0) (by kernel_rfl) (by kernel_rfl)

theorem ok_impl_planar (a0 : Iv) (a1 : Iv) : Fun Tryz.prog 67 [] #[vIv a0, vIv a1] (vT_Pn_I (F_impl_planar a0 a1)) [] := by
  refine Fun.ofH 400 E_ok mixed Tryz.func67 (by kernel_rfl) (by kernel_rfl) ?_
  unfold F_impl_planar
  refine Run.bH (e := vB) (gv := vT_Pn_I) (by kernel_rfl) (by kernel_rfl) (ok_impl_areBounded _ _) (fun _ => rfl) fun r1 => ?_
  refine Run.jH (gv := vT_Pn_I) (by kernel_rfl) (?_) (?_)
  · exact Run.rh (k := 0) (by kernel_rfl) (by kernel_rfl)
  · exact Run.rh (k := 0) (by kernel_rfl) (by kernel_rfl)

theorem ok_impl_PseudoForward (a0 : Pj) (a1 : Pt) : Fun Tryz.prog 24 [] #[vPj a0, vPt a1] (vT_Pn_I (F_impl_PseudoForward a0 a1)) [] := by
  refine Fun.ofH 400 E_ok mixed Tryz.func24 (by kernel_rfl) (by kernel_rfl) ?_
  unfold F_impl_PseudoForward
  refine Run.bH (e := vB) (gv := vT_Pn_I) (by kernel_rfl) (by kernel_rfl) (ok_impl_isPseudoOne _) (fun _ => rfl) fun r1 => ?_
  refine Run.jH (gv := vT_Pn_I) (by kernel_rfl) (?_) (?_)
  · refine Run.p [true, true, true, true] (by kernel_rfl) ?_
    exact Run.rh (k := 0) (by kernel_rfl) (by kernel_rfl)
  · refine Run.p [false] (by kernel_rfl) ?_
    refine Run.bH (e := vB) (gv := vT_Pn_I) (by kernel_rfl) (by kernel_rfl) (ok_impl_ValidPoint _) (fun _ => rfl) fun r2 => ?_
    refine Run.p [false, false] (by kernel_rfl) ?_
    refine Run.jH (gv := vT_Pn_I) (by kernel_rfl) (?_) (?_)
    · exact Run.rh (k := 0) (by kernel_rfl) (by kernel_rfl)
    · refine Run.bH (e := vIv) (gv := vT_Pn_I) (by kernel_rfl) (by kernel_rfl) (ok_impl_LatOf _) (fun _ => rfl) fun r3 => ?_
      refine Run.bH (e := vT_Iv_Iv) (gv := vT_Pn_I) (by kernel_rfl) (by kernel_rfl) (ok_impl_ParallelOf _ _) (fun _ => rfl) fun r4 => ?_
      refine Run.bH (e := vIv) (gv := vT_Pn_I) (by kernel_rfl) (by kernel_rfl) (ok_impl_LonFrom _ _) (fun _ => rfl) fun r5 => ?_
      refine Run.bH (e := vIv) (gv := vT_Pn_I) (by kernel_rfl) (by kernel_rfl) (ok_impl_MulI _ _) (fun _ => rfl) fun r6 => ?_
      refine Run.bH (e := vT_Pn_I) (gv := vT_Pn_I) (by kernel_rfl) (by kernel_rfl) (ok_impl_planar _ _) (fun _ => rfl) fun r7 => ?_
      exact Run.rh (k := 0) (by kernel_rfl) (by kernel_rfl)

theorem ok_laws_eqPlanar (a0 : Pn) (a1 : Pn) : Fun Tryz.prog 25 [] #[vPn a0, vPn a1] (vB (F_laws_eqPlanar a0 a1)) [] := by
  refine Fun.ofH 400 E_ok mixed Tryz.func25 (by kernel_rfl) (by kernel_rfl) ?_
  unfold F_laws_eqPlanar
  refine Run.bH (e := vB) (gv := vB) (by kernel_rfl) (by kernel_rfl) (ok_laws_eqInterval _ _) (fun _ => rfl) fun r1 => ?_
  refine Run.jH (gv := vB) (by kernel_rfl) (?_) (?_)
  · exact Run.rh (k := 0) (by kernel_rfl) (by kernel_rfl)
  · refine Run.bH (e := vB) (gv := vB) (by kernel_rfl) (by kernel_rfl) (ok_laws_eqInterval _ _) (fun _ => rfl) fun r2 => ?_
    refine Run.jH (gv := vB) (by kernel_rfl) (?_) (?_)
    · exact Run.rh (k := 0) (by kernel_rfl) (by kernel_rfl)
    · exact Run.rh (k := 0) (by kernel_rfl) (by kernel_rfl)

theorem ok_laws_FnExactPseudoForward (a0 : Pj) (a1 : Pt) : Fun Tryz.prog 8 [] #[vPj a0, vPt a1] (vB (F_laws_FnExactPseudoForward a0 a1)) [] := by
  refine Fun.ofH 400 E_ok mixed Tryz.func8 (by kernel_rfl) (by kernel_rfl) ?_
  unfold F_laws_FnExactPseudoForward
  refine Run.bH (e := vPj) (gv := vB) (by kernel_rfl) (by kernel_rfl) (ok_laws_toProjection _) (fun _ => rfl) fun r1 => ?_
  refine Run.bH (e := vPt) (gv := vB) (by kernel_rfl) (by kernel_rfl) (ok_laws_toPoint _) (fun _ => rfl) fun r2 => ?_
  refine Run.bH (e := vT_Pn_I) (gv := vB) (by kernel_rfl) (by kernel_rfl) (ok_spec_PseudoForward _ _) (fun _ => rfl) fun r3 => ?_
  refine Run.bH (e := vPj) (gv := vB) (by kernel_rfl) (by kernel_rfl) (ok_laws_toProjection _) (fun _ => rfl) fun r4 => ?_
  refine Run.bH (e := vPt) (gv := vB) (by kernel_rfl) (by kernel_rfl) (ok_laws_toPoint _) (fun _ => rfl) fun r5 => ?_
  refine Run.bH (e := vT_Pn_I) (gv := vB) (by kernel_rfl) (by kernel_rfl) (ok_impl_PseudoForward _ _) (fun _ => rfl) fun r6 => ?_
  refine Run.bH (e := vB) (gv := vB) (by kernel_rfl) (by kernel_rfl) (ok_laws_eqPlanar _ _) (fun _ => rfl) fun r7 => ?_
  refine Run.jH (gv := vB) (by kernel_rfl) (?_) (?_)
  · refine Run.p [true, true, true, true] (by kernel_rfl) ?_
    exact Run.rh (k := 0) (by kernel_rfl) (by kernel_rfl)
  · refine Run.p [false, false, false] (by kernel_rfl) ?_
    refine Run.jH (gv := vB) (by kernel_rfl) (?_) (?_)
    · exact Run.rh (k := 0) (by kernel_rfl) (by kernel_rfl)
    · exact Run.rh (k := 0) (by kernel_rfl) (by kernel_rfl)

end Go.Proofs.YtmkiegnnaabmaaaGreat.Abs
