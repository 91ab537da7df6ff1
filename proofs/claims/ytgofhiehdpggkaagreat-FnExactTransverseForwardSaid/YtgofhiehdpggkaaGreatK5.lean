/- The program's functions are these; part 5 (written by w.py). -/
import Derived.Test.YtgofhiehdpggkaaGreatK4
import Derived.Test.YtgofhiehdpggkaaGreatF5
set_option linter.unusedVariables false
set_option linter.unusedSimpArgs false
namespace Go.Proofs.YtgofhiehdpggkaaGreat.Abs
open Go Go.RowKit

theorem ok_impl_Projection_centre (a0 : Pj) : Fun Tryz.prog 84 [] #[vPj a0] (vPt (F_impl_Projection_centre a0)) [] := by
  refine Fun.ofH 400 E_ok mixed Tryz.func84 (by kernel_rfl) (by kernel_rfl) ?_
  unfold F_impl_Projection_centre
  exact Run.x 0

theorem ok_impl_differenceOf (a0 : Pt) (a1 : Pt) : Fun Tryz.prog 170 [] #[vPt a0, vPt a1] (vIv (F_impl_differenceOf a0 a1)) [] := by
  refine Fun.ofH 400 E_ok mixed Tryz.func170 (by kernel_rfl) (by kernel_rfl) ?_
  unfold F_impl_differenceOf
  refine Run.q (e := vI) (gv := vIv) (ok_impl_WrapLon _) fun r1 _ => ?_
  refine Run.q (e := vIv) (gv := vIv) (ok_impl_RadiansOf _) fun r2 _ => ?_
  exact Run.x 0

theorem ok_impl_localOf (a0 : Iv) (a1 : Iv) (a2 : Iv) : Fun Tryz.prog 169 [] #[vIv a0, vIv a1, vIv a2] (vVc (F_impl_localOf a0 a1 a2)) [] := by
  refine Fun.ofH 400 E_ok mixed Tryz.func169 (by kernel_rfl) (by kernel_rfl) ?_
  unfold F_impl_localOf
  refine Run.q (e := vIv) (gv := vVc) (ok_impl_CosI _) fun r1 _ => ?_
  refine Run.q (e := vIv) (gv := vVc) (ok_impl_SinI _) fun r2 _ => ?_
  refine Run.q (e := vIv) (gv := vVc) (ok_impl_MulI _ _) fun r3 _ => ?_
  refine Run.q (e := vIv) (gv := vVc) (ok_impl_CosI _) fun r4 _ => ?_
  refine Run.q (e := vIv) (gv := vVc) (ok_impl_SinI _) fun r5 _ => ?_
  refine Run.q (e := vIv) (gv := vVc) (ok_impl_MulI _ _) fun r6 _ => ?_
  refine Run.q (e := vIv) (gv := vVc) (ok_impl_SinI _) fun r7 _ => ?_
  refine Run.q (e := vIv) (gv := vVc) (ok_impl_CosI _) fun r8 _ => ?_
  refine Run.q (e := vIv) (gv := vVc) (ok_impl_MulI _ _) fun r9 _ => ?_
  refine Run.q (e := vIv) (gv := vVc) (ok_impl_CosI _) fun r10 _ => ?_
  refine Run.q (e := vIv) (gv := vVc) (ok_impl_MulI _ _) fun r11 _ => ?_
  refine Run.q (e := vIv) (gv := vVc) (ok_impl_SubI _ _) fun r12 _ => ?_
  refine Run.q (e := vIv) (gv := vVc) (ok_impl_SinI _) fun r13 _ => ?_
  refine Run.q (e := vIv) (gv := vVc) (ok_impl_SinI _) fun r14 _ => ?_
  refine Run.q (e := vIv) (gv := vVc) (ok_impl_MulI _ _) fun r15 _ => ?_
  refine Run.q (e := vIv) (gv := vVc) (ok_impl_CosI _) fun r16 _ => ?_
  refine Run.q (e := vIv) (gv := vVc) (ok_impl_CosI _) fun r17 _ => ?_
  refine Run.q (e := vIv) (gv := vVc) (ok_impl_MulI _ _) fun r18 _ => ?_
  refine Run.q (e := vIv) (gv := vVc) (ok_impl_CosI _) fun r19 _ => ?_
  refine Run.q (e := vIv) (gv := vVc) (ok_impl_MulI _ _) fun r20 _ => ?_
  refine Run.q (e := vIv) (gv := vVc) (ok_impl_AddI _ _) fun r21 _ => ?_
  exact Run.x 0

theorem ok_impl_LocalOf (a0 : Pj) (a1 : Pt) : Fun Tryz.prog 82 [] #[vPj a0, vPt a1] (vT_Vc_I (F_impl_LocalOf a0 a1)) [] := by
  refine Fun.ofH 400 E_ok mixed Tryz.func82 (by kernel_rfl) (by kernel_rfl) ?_
  unfold F_impl_LocalOf
  refine Run.q (e := vB) (gv := vT_Vc_I) (ok_impl_isAzimuthalOne _) fun r1 _ => ?_
  refine Run.y (gv := vT_Vc_I) (fun _ => ?_) (fun _ => ?_)
  · refine Run.z [true, true, true, true] ?_
    exact Run.x 0
  · refine Run.z [false] ?_
    refine Run.q (e := vB) (gv := vT_Vc_I) (ok_impl_ValidPoint _) fun r2 _ => ?_
    refine Run.z [false, false] ?_
    refine Run.y (gv := vT_Vc_I) (fun _ => ?_) (fun _ => ?_)
    · exact Run.x 0
    · refine Run.q (e := vPt) (gv := vT_Vc_I) (ok_impl_Projection_centre _) fun r3 _ => ?_
      refine Run.q (e := vIv) (gv := vT_Vc_I) (ok_impl_LatOf _) fun r4 _ => ?_
      refine Run.q (e := vIv) (gv := vT_Vc_I) (ok_impl_LatOf _) fun r5 _ => ?_
      refine Run.q (e := vPt) (gv := vT_Vc_I) (ok_impl_Projection_centre _) fun r6 _ => ?_
      refine Run.q (e := vIv) (gv := vT_Vc_I) (ok_impl_differenceOf _ _) fun r7 _ => ?_
      refine Run.q (e := vVc) (gv := vT_Vc_I) (ok_impl_localOf _ _ _) fun r8 _ => ?_
      exact Run.x 0

theorem ok_impl_Antipode (a0 : Pt) : Fun Tryz.prog 83 [] #[vPt a0] (vT_Pt_I (F_impl_Antipode a0)) [] := by
  refine Fun.ofH 400 E_ok mixed Tryz.func83 (by kernel_rfl) (by kernel_rfl) ?_
  unfold F_impl_Antipode
  refine Run.q (e := vB) (gv := vT_Pt_I) (ok_impl_ValidPoint _) fun r1 _ => ?_
  refine Run.y (gv := vT_Pt_I) (fun _ => ?_) (fun _ => ?_)
  · exact Run.x 0
  · refine Run.q (e := vI) (gv := vT_Pt_I) (ok_impl_WrapLon _) fun r2 _ => ?_
    exact Run.x 0

theorem ok_impl_samePlace (a0 : Pt) (a1 : Pt) : Fun Tryz.prog 85 [] #[vPt a0, vPt a1] (vB (F_impl_samePlace a0 a1)) [] := by
  refine Fun.ofH 400 E_ok mixed Tryz.func85 (by kernel_rfl) (by kernel_rfl) ?_
  unfold F_impl_samePlace
  refine Run.y (gv := vB) (fun _ => ?_) (fun _ => ?_)
  · refine Run.z [true, true, true, true] ?_
    exact Run.x 0
  · refine Run.z [false] ?_
    refine Run.q (e := vB) (gv := vB) (ok_impl_isPole _) fun r1 _ => ?_
    refine Run.z [false] ?_
    refine Run.y (gv := vB) (fun _ => ?_) (fun _ => ?_)
    · refine Run.z [true, true, true, true, false, true, false] ?_
      exact Run.x 0
    · refine Run.z [false, false, false, false, false, false, false] ?_
      exact Run.x 0

theorem ok_impl_LessI (a0 : Iv) (a1 : Iv) : Fun Tryz.prog 86 [] #[vIv a0, vIv a1] (vI (F_impl_LessI a0 a1)) [] := by
  refine Fun.ofH 400 E_ok mixed Tryz.func86 (by kernel_rfl) (by kernel_rfl) ?_
  unfold F_impl_LessI
  refine Run.q (e := vB) (gv := vI) (ok_impl_areBounded _ _) fun r1 _ => ?_
  refine Run.y (gv := vI) (fun _ => ?_) (fun _ => ?_)
  · exact Run.x 0
  · refine Run.y (gv := vI) (fun _ => ?_) (fun _ => ?_)
    · exact Run.x 0
    · refine Run.y (gv := vI) (fun _ => ?_) (fun _ => ?_)
      · exact Run.x 0
      · exact Run.x 0

theorem ok_impl_WideAdd (a0 : Wd) (a1 : Wd) : Fun Tryz.prog 292 [] #[vWd a0, vWd a1] (vT_Wd_B (F_impl_WideAdd a0 a1)) [] := by
  refine Fun.ofH 400 E_ok mixed Tryz.func292 (by kernel_rfl) (by kernel_rfl) ?_
  unfold F_impl_WideAdd
  refine Run.k (c := (decide (0 ≤ (a0.lo.val : Int)) && (decide (0 ≤ (a1.lo.val : Int)) && (decide (0 ≤ (0 : Int)) && decide ((0 : Int) ≤ 1))))) (by kernel_rfl) (by simp only [Bool.and_eq_true, decide_eq_true_eq]; exact ⟨U64.lo a0.lo, U64.lo a1.lo, U64.lo (cu64 0), (by decide)⟩) ?_
  refine Run.k (c := (decide (0 ≤ ((wu64 a0.hi.val).val : Int)) && (decide (0 ≤ ((wu64 a1.hi.val).val : Int)) && (decide (0 ≤ ((adc_hi a0.lo a1.lo (cu64 0)).val : Int)) && decide (((adc_hi a0.lo a1.lo (cu64 0)).val : Int) ≤ 1))))) (by kernel_rfl) (by simp only [Bool.and_eq_true, decide_eq_true_eq]; exact ⟨U64.lo (wu64 a0.hi.val), U64.lo (wu64 a1.hi.val), U64.lo (adc_hi a0.lo a1.lo (cu64 0)), (adc_hi_le _ _ _ (by decide))⟩) ?_
  refine Run.y (gv := vT_Wd_B) (fun _ => ?_) (fun _ => ?_)
  · exact Run.x 0
  · exact Run.x 0

theorem ok_impl_rootOfSquares (a0 : I64) (a1 : I64) (a2 : I64) : Fun Tryz.prog 276 [] #[vI a0, vI a1, vI a2] (vT_I_I (F_impl_rootOfSquares a0 a1 a2)) [] := by
  refine Fun.ofH 400 E_ok mixed Tryz.func276 (by kernel_rfl) (by kernel_rfl) ?_
  unfold F_impl_rootOfSquares
  refine Run.q (e := vWd) (gv := vT_I_I) (ok_impl_WideMul _ _) fun r1 _ => ?_
  refine Run.q (e := vWd) (gv := vT_I_I) (ok_impl_WideMul _ _) fun r2 _ => ?_
  refine Run.q (e := vT_Wd_B) (gv := vT_I_I) (ok_impl_WideAdd _ _) fun r3 _ => ?_
  refine Run.q (e := vWd) (gv := vT_I_I) (ok_impl_WideMul _ _) fun r4 _ => ?_
  refine Run.q (e := vT_Wd_B) (gv := vT_I_I) (ok_impl_WideAdd _ _) fun r5 _ => ?_
  refine Run.q (e := vT_U_B) (gv := vT_I_I) (ok_impl_WideSqrt _) fun r6 _ => ?_
  refine Run.q (e := vWd) (gv := vT_I_I) (ok_impl_WideMul _ _) fun r7 _ => ?_
  refine Run.y (gv := vT_I_I) (fun _ => ?_) (fun _ => ?_)
  · exact Run.x 0
  · exact Run.x 0

theorem ok_impl_NormV (a0 : Vc) : Fun Tryz.prog 227 [] #[vVc a0] (vIv (F_impl_NormV a0)) [] := by
  refine Fun.ofH 400 E_ok mixed Tryz.func227 (by kernel_rfl) (by kernel_rfl) ?_
  unfold F_impl_NormV
  refine Run.q (e := vB) (gv := vIv) (ok_impl_areBounded _ _) fun r1 _ => ?_
  refine Run.y (gv := vIv) (fun _ => ?_) (fun _ => ?_)
  · refine Run.z [true, true, true, true] ?_
    refine Run.q (e := vIv) (gv := vIv) (ok_impl_Whole) fun r2 _ => ?_
    exact Run.x 0
  · refine Run.z [false, false] ?_
    refine Run.q (e := vB) (gv := vIv) (ok_impl_IsWhole _) fun r3 _ => ?_
    refine Run.z [false] ?_
    refine Run.y (gv := vIv) (fun _ => ?_) (fun _ => ?_)
    · refine Run.q (e := vIv) (gv := vIv) (ok_impl_Whole) fun r4 _ => ?_
      exact Run.x 0
    · refine Run.q (e := vIv) (gv := vIv) (ok_impl_AbsI _) fun r5 _ => ?_
      refine Run.q (e := vIv) (gv := vIv) (ok_impl_AbsI _) fun r6 _ => ?_
      refine Run.q (e := vIv) (gv := vIv) (ok_impl_AbsI _) fun r7 _ => ?_
      refine Run.q (e := vT_I_I) (gv := vIv) (ok_impl_rootOfSquares _ _ _) fun r8 _ => ?_
      refine Run.q (e := vT_I_I) (gv := vIv) (ok_impl_rootOfSquares _ _ _) fun r9 _ => ?_
      refine Run.q (e := vIv) (gv := vIv) (ok_impl_bounded _ _ _) fun r10 _ => ?_
      exact Run.x 0

theorem ok_impl_fromAxis (a0 : Vc) : Fun Tryz.prog 171 [] #[vVc a0] (vIv (F_impl_fromAxis a0)) [] := by
  refine Fun.ofH 400 E_ok mixed Tryz.func171 (by kernel_rfl) (by kernel_rfl) ?_
  unfold F_impl_fromAxis
  refine Run.q (e := vIv) (gv := vIv) (ok_impl_NormV _) fun r1 _ => ?_
  exact Run.x 0

theorem ok_impl_isPositive (a0 : Iv) : Fun Tryz.prog 172 [] #[vIv a0] (vB (F_impl_isPositive a0)) [] := by
  refine Fun.ofH 400 E_ok mixed Tryz.func172 (by kernel_rfl) (by kernel_rfl) ?_
  unfold F_impl_isPositive
  refine Run.q (e := vB) (gv := vB) (ok_impl_ValidInterval _) fun r1 _ => ?_
  refine Run.y (gv := vB) (fun _ => ?_) (fun _ => ?_)
  · refine Run.z [true, true, true] ?_
    exact Run.x 0
  · refine Run.z [false, false, false] ?_
    exact Run.x 0

theorem ok_impl_forwardFactor (a0 : I64) (a1 : Vc) : Fun Tryz.prog 87 [] #[vI a0, vVc a1] (vIv (F_impl_forwardFactor a0 a1)) [] := by
  refine Fun.ofH 400 E_ok mixed Tryz.func87 (by kernel_rfl) (by kernel_rfl) ?_
  unfold F_impl_forwardFactor
  refine Run.y (gv := vIv) (fun _ => ?_) (fun _ => ?_)
  · refine Run.q (e := vIv) (gv := vIv) (ok_impl_Integer _) fun r1 _ => ?_
    refine Run.q (e := vIv) (gv := vIv) (ok_impl_DivI _ _) fun r2 _ => ?_
    exact Run.x 0
  · refine Run.y (gv := vIv) (fun _ => ?_) (fun _ => ?_)
    · refine Run.q (e := vIv) (gv := vIv) (ok_impl_Integer _) fun r3 _ => ?_
      refine Run.q (e := vIv) (gv := vIv) (ok_impl_Integer _) fun r4 _ => ?_
      refine Run.q (e := vIv) (gv := vIv) (ok_impl_AddI _ _) fun r5 _ => ?_
      refine Run.q (e := vIv) (gv := vIv) (ok_impl_DivI _ _) fun r6 _ => ?_
      exact Run.x 0
    · refine Run.y (gv := vIv) (fun _ => ?_) (fun _ => ?_)
      · refine Run.y (gv := vIv) (fun _ => ?_) (fun _ => ?_)
        · refine Run.q (e := vIv) (gv := vIv) (ok_impl_Whole) fun r7 _ => ?_
          exact Run.x 0
        · refine Run.q (e := vIv) (gv := vIv) (ok_impl_Integer _) fun r8 _ => ?_
          exact Run.x 0
      · refine Run.y (gv := vIv) (fun _ => ?_) (fun _ => ?_)
        · refine Run.q (e := vIv) (gv := vIv) (ok_impl_Integer _) fun r9 _ => ?_
          refine Run.q (e := vIv) (gv := vIv) (ok_impl_Integer _) fun r10 _ => ?_
          refine Run.q (e := vIv) (gv := vIv) (ok_impl_AddI _ _) fun r11 _ => ?_
          refine Run.q (e := vIv) (gv := vIv) (ok_impl_DivI _ _) fun r12 _ => ?_
          refine Run.q (e := vIv) (gv := vIv) (ok_impl_SqrtI _) fun r13 _ => ?_
          exact Run.x 0
        · refine Run.q (e := vIv) (gv := vIv) (ok_impl_fromAxis _) fun r14 _ => ?_
          refine Run.q (e := vB) (gv := vIv) (ok_impl_isPositive _) fun r15 _ => ?_
          refine Run.y (gv := vIv) (fun _ => ?_) (fun _ => ?_)
          · refine Run.q (e := vIv) (gv := vIv) (ok_impl_DirectionI _ _) fun r16 _ => ?_
            refine Run.q (e := vIv) (gv := vIv) (ok_impl_DivI _ _) fun r17 _ => ?_
            exact Run.x 0
          · refine Run.q (e := vIv) (gv := vIv) (ok_impl_Integer _) fun r18 _ => ?_
            refine Run.q (e := vIv) (gv := vIv) (ok_impl_Integer _) fun r19 _ => ?_
            refine Run.q (e := vIv) (gv := vIv) (ok_impl_DivI _ _) fun r20 _ => ?_
            refine Run.q (e := vIv) (gv := vIv) (ok_impl_HullI _ _) fun r21 _ => ?_
            exact Run.x 0

theorem ok_impl_AzimuthalForward (a0 : Pj) (a1 : Pt) : Fun Tryz.prog 26 [] #[vPj a0, vPt a1] (vT_Pn_I (F_impl_AzimuthalForward a0 a1)) [] := by
  refine Fun.ofH 400 E_ok mixed Tryz.func26 (by kernel_rfl) (by kernel_rfl) ?_
  unfold F_impl_AzimuthalForward
  refine Run.q (e := vT_Vc_I) (gv := vT_Pn_I) (ok_impl_LocalOf _ _) fun r1 _ => ?_
  refine Run.y (gv := vT_Pn_I) (fun _ => ?_) (fun _ => ?_)
  · exact Run.x 0
  · refine Run.q (e := vPt) (gv := vT_Pn_I) (ok_impl_Projection_centre _) fun r2 _ => ?_
    refine Run.q (e := vT_Pt_I) (gv := vT_Pn_I) (ok_impl_Antipode _) fun r3 _ => ?_
    refine Run.q (e := vB) (gv := vT_Pn_I) (ok_impl_samePlace _ _) fun r4 _ => ?_
    refine Run.y (gv := vT_Pn_I) (fun _ => ?_) (fun _ => ?_)
    · exact Run.x 0
    · refine Run.y (gv := vT_Pn_I) (fun _ => ?_) (fun _ => ?_)
      · refine Run.q (e := vIv) (gv := vT_Pn_I) (ok_impl_Integer _) fun r5 _ => ?_
        refine Run.z [true, true, true] ?_
        refine Run.q (e := vI) (gv := vT_Pn_I) (ok_impl_LessI _ _) fun r6 _ => ?_
        refine Run.z [true, true] ?_
        refine Run.y (gv := vT_Pn_I) (fun _ => ?_) (fun _ => ?_)
        · exact Run.x 0
        · refine Run.y (gv := vT_Pn_I) (fun _ => ?_) (fun _ => ?_)
          · refine Run.z [true, true] ?_
            refine Run.q (e := vIv) (gv := vT_Pn_I) (ok_impl_Integer _) fun r7 _ => ?_
            refine Run.z [true] ?_
            refine Run.q (e := vI) (gv := vT_Pn_I) (ok_impl_LessI _ _) fun r8 _ => ?_
            refine Run.z [true, true] ?_
            refine Run.y (gv := vT_Pn_I) (fun _ => ?_) (fun _ => ?_)
            · exact Run.x 0
            · refine Run.q (e := vIv) (gv := vT_Pn_I) (ok_impl_forwardFactor _ _) fun r9 _ => ?_
              refine Run.q (e := vIv) (gv := vT_Pn_I) (ok_impl_MulI _ _) fun r10 _ => ?_
              refine Run.q (e := vIv) (gv := vT_Pn_I) (ok_impl_MulI _ _) fun r11 _ => ?_
              refine Run.q (e := vT_Pn_I) (gv := vT_Pn_I) (ok_impl_planar _ _) fun r12 _ => ?_
              exact Run.x 0
          · refine Run.z [false, false, false, false, false, false] ?_
            refine Run.q (e := vIv) (gv := vT_Pn_I) (ok_impl_forwardFactor _ _) fun r13 _ => ?_
            refine Run.q (e := vIv) (gv := vT_Pn_I) (ok_impl_MulI _ _) fun r14 _ => ?_
            refine Run.q (e := vIv) (gv := vT_Pn_I) (ok_impl_MulI _ _) fun r15 _ => ?_
            refine Run.q (e := vT_Pn_I) (gv := vT_Pn_I) (ok_impl_planar _ _) fun r16 _ => ?_
            exact Run.x 0
      · refine Run.z [false, false, false, false, false, false] ?_
        refine Run.y (gv := vT_Pn_I) (fun _ => ?_) (fun _ => ?_)
        · refine Run.z [true, true] ?_
          refine Run.q (e := vIv) (gv := vT_Pn_I) (ok_impl_Integer _) fun r17 _ => ?_
          refine Run.z [true] ?_
          refine Run.q (e := vI) (gv := vT_Pn_I) (ok_impl_LessI _ _) fun r18 _ => ?_
          refine Run.z [true, true] ?_
          refine Run.y (gv := vT_Pn_I) (fun _ => ?_) (fun _ => ?_)
          · exact Run.x 0
          · refine Run.q (e := vIv) (gv := vT_Pn_I) (ok_impl_forwardFactor _ _) fun r19 _ => ?_
            refine Run.q (e := vIv) (gv := vT_Pn_I) (ok_impl_MulI _ _) fun r20 _ => ?_
            refine Run.q (e := vIv) (gv := vT_Pn_I) (ok_impl_MulI _ _) fun r21 _ => ?_
            refine Run.q (e := vT_Pn_I) (gv := vT_Pn_I) (ok_impl_planar _ _) fun r22 _ => ?_
            exact Run.x 0
        · refine Run.z [false, false, false, false, false, false] ?_
          refine Run.q (e := vIv) (gv := vT_Pn_I) (ok_impl_forwardFactor _ _) fun r23 _ => ?_
          refine Run.q (e := vIv) (gv := vT_Pn_I) (ok_impl_MulI _ _) fun r24 _ => ?_
          refine Run.q (e := vIv) (gv := vT_Pn_I) (ok_impl_MulI _ _) fun r25 _ => ?_
          refine Run.q (e := vT_Pn_I) (gv := vT_Pn_I) (ok_impl_planar _ _) fun r26 _ => ?_
          exact Run.x 0

theorem ok_laws_FnExactAzimuthalForward (a0 : Pj) (a1 : Pt) : Fun Tryz.prog 8 [] #[vPj a0, vPt a1] (vB (F_laws_FnExactAzimuthalForward a0 a1)) [] := by
  refine Fun.ofH 400 E_ok mixed Tryz.func8 (by kernel_rfl) (by kernel_rfl) ?_
  unfold F_laws_FnExactAzimuthalForward
  refine Run.q (e := vPj) (gv := vB) (ok_laws_toProjection _) fun r1 _ => ?_
  refine Run.q (e := vPt) (gv := vB) (ok_laws_toPoint _) fun r2 _ => ?_
  refine Run.q (e := vT_Pn_I) (gv := vB) (ok_spec_AzimuthalForward _ _) fun r3 _ => ?_
  refine Run.q (e := vPj) (gv := vB) (ok_laws_toProjection _) fun r4 _ => ?_
  refine Run.q (e := vPt) (gv := vB) (ok_laws_toPoint _) fun r5 _ => ?_
  refine Run.q (e := vT_Pn_I) (gv := vB) (ok_impl_AzimuthalForward _ _) fun r6 _ => ?_
  refine Run.q (e := vB) (gv := vB) (ok_laws_eqPlanar _ _) fun r7 _ => ?_
  refine Run.y (gv := vB) (fun _ => ?_) (fun _ => ?_)
  · refine Run.z [true, true, true, true] ?_
    exact Run.x 0
  · refine Run.z [false, false, false] ?_
    refine Run.y (gv := vB) (fun _ => ?_) (fun _ => ?_)
    · exact Run.x 0
    · exact Run.x 0

end Go.Proofs.YtgofhiehdpggkaaGreat.Abs
