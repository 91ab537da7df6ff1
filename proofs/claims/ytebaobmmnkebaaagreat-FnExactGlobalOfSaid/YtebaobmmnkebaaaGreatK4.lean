/- The program's functions are these; part 4 (written by w.py). -/
import Derived.Test.YtebaobmmnkebaaaGreatK3
import Derived.Test.YtebaobmmnkebaaaGreatF4
set_option linter.unusedVariables false
set_option linter.unusedSimpArgs false
namespace Go.Proofs.YtebaobmmnkebaaaGreat.Abs
open Go Go.RowKit

theorem ok_spec_l20Right (a0 : I64) : Fun Tryz.prog 147 [] #[vI a0] (vIv (F_spec_l20Right a0)) [] := by
  refine Fun.ofH 400 E_ok mixed Tryz.func147 (by kernel_rfl) (by kernel_rfl) ?_
  unfold F_spec_l20Right
  refine Run.jH (gv := vIv) (by kernel_rfl) (?_) (?_)
  · refine Run.bH (e := vIv) (gv := vIv) (by kernel_rfl) (by kernel_rfl) (ok_spec_PiI) (fun _ => rfl) fun r1 => ?_
    exact Run.rh (k := 0) (by kernel_rfl) (by kernel_rfl)
  · refine Run.bH (e := vIv) (gv := vIv) (by kernel_rfl) (by kernel_rfl) (ok_spec_Integer _) (fun _ => rfl) fun r2 => ?_
    refine Run.bH (e := vIv) (gv := vIv) (by kernel_rfl) (by kernel_rfl) (ok_spec_TurnI _) (fun _ => rfl) fun r3 => ?_
    refine Run.bH (e := vIv) (gv := vIv) (by kernel_rfl) (by kernel_rfl) (ok_spec_AddI _ _) (fun _ => rfl) fun r4 => ?_
    exact Run.rh (k := 0) (by kernel_rfl) (by kernel_rfl)

theorem ok_spec_l20Lat (a0 : I64) (a1 : Iv) : Fun Tryz.prog 75 [] #[vI a0, vIv a1] (vIv (F_spec_l20Lat a0 a1)) [] := by
  refine Fun.ofH 400 E_ok mixed Tryz.func75 (by kernel_rfl) (by kernel_rfl) ?_
  unfold F_spec_l20Lat
  refine Run.jH (gv := vIv) (by kernel_rfl) (?_) (?_)
  · exact Run.rh (k := 0) (by kernel_rfl) (by kernel_rfl)
  · refine Run.jH (gv := vIv) (by kernel_rfl) (?_) (?_)
    · refine Run.bH (e := vIv) (gv := vIv) (by kernel_rfl) (by kernel_rfl) (ok_spec_DoubleI _) (fun _ => rfl) fun r1 => ?_
      refine Run.bH (e := vIv) (gv := vIv) (by kernel_rfl) (by kernel_rfl) (ok_spec_SinI _) (fun _ => rfl) fun r2 => ?_
      refine Run.bH (e := vIv) (gv := vIv) (by kernel_rfl) (by kernel_rfl) (ok_spec_AddI _ _) (fun _ => rfl) fun r3 => ?_
      refine Run.bH (e := vIv) (gv := vIv) (by kernel_rfl) (by kernel_rfl) (ok_spec_l20Right _) (fun _ => rfl) fun r4 => ?_
      refine Run.bH (e := vIv) (gv := vIv) (by kernel_rfl) (by kernel_rfl) (ok_spec_DivI _ _) (fun _ => rfl) fun r5 => ?_
      refine Run.bH (e := vIv) (gv := vIv) (by kernel_rfl) (by kernel_rfl) (ok_spec_AsinI _) (fun _ => rfl) fun r6 => ?_
      exact Run.rh (k := 0) (by kernel_rfl) (by kernel_rfl)
    · refine Run.bH (e := vIv) (gv := vIv) (by kernel_rfl) (by kernel_rfl) (ok_spec_SinI _) (fun _ => rfl) fun r7 => ?_
      refine Run.bH (e := vIv) (gv := vIv) (by kernel_rfl) (by kernel_rfl) (ok_spec_AddI _ _) (fun _ => rfl) fun r8 => ?_
      refine Run.bH (e := vIv) (gv := vIv) (by kernel_rfl) (by kernel_rfl) (ok_spec_l20Right _) (fun _ => rfl) fun r9 => ?_
      refine Run.bH (e := vIv) (gv := vIv) (by kernel_rfl) (by kernel_rfl) (ok_spec_DivI _ _) (fun _ => rfl) fun r10 => ?_
      refine Run.bH (e := vIv) (gv := vIv) (by kernel_rfl) (by kernel_rfl) (ok_spec_AsinI _) (fun _ => rfl) fun r11 => ?_
      exact Run.rh (k := 0) (by kernel_rfl) (by kernel_rfl)

theorem ok_spec_PseudoInverse (a0 : Pj) (a1 : Pn) : Fun Tryz.prog 24 [] #[vPj a0, vPn a1] (vT_Iv_Iv_I (F_spec_PseudoInverse a0 a1)) [] := by
  refine Fun.ofH 400 E_ok mixed Tryz.func24 (by kernel_rfl) (by kernel_rfl) ?_
  unfold F_spec_PseudoInverse
  refine Run.sb (e := vB) (gv := vT_Iv_Iv_I) [0] (by kernel_rfl) (by kernel_rfl) (by kernel_rfl) (by decide) (by kernel_rfl) (ok_spec_l20Ok__pPj _) (fun _ => rfl) fun r1 => ?_
  refine Run.jH (gv := vT_Iv_Iv_I) (by kernel_rfl) (?_) (?_)
  · exact Run.rh (k := 0) (by kernel_rfl) (by kernel_rfl)
  · refine Run.bH (e := vIv) (gv := vT_Iv_Iv_I) (by kernel_rfl) (by kernel_rfl) (ok_spec_l20High _) (fun _ => rfl) fun r2 => ?_
    refine Run.bH (e := vIv) (gv := vT_Iv_Iv_I) (by kernel_rfl) (by kernel_rfl) (ok_spec_AbsI _) (fun _ => rfl) fun r3 => ?_
    refine Run.bH (e := vI) (gv := vT_Iv_Iv_I) (by kernel_rfl) (by kernel_rfl) (ok_spec_LessI _ _) (fun _ => rfl) fun r4 => ?_
    refine Run.jH (gv := vT_Iv_Iv_I) (by kernel_rfl) (?_) (?_)
    · exact Run.rh (k := 0) (by kernel_rfl) (by kernel_rfl)
    · refine Run.bH (e := vIv) (gv := vT_Iv_Iv_I) (by kernel_rfl) (by kernel_rfl) (ok_spec_l20Back _ _) (fun _ => rfl) fun r5 => ?_
      refine Run.bH (e := vT_Iv_Iv) (gv := vT_Iv_Iv_I) (by kernel_rfl) (by kernel_rfl) (ok_spec_l20Parallel _ _) (fun _ => rfl) fun r6 => ?_
      refine Run.bH (e := vIv) (gv := vT_Iv_Iv_I) (by kernel_rfl) (by kernel_rfl) (ok_spec_l20Lat _ _) (fun _ => rfl) fun r7 => ?_
      refine Run.bH (e := vIv) (gv := vT_Iv_Iv_I) (by kernel_rfl) (by kernel_rfl) (ok_spec_DivI _ _) (fun _ => rfl) fun r8 => ?_
      refine Run.bH (e := vIv) (gv := vT_Iv_Iv_I) (by kernel_rfl) (by kernel_rfl) (ok_spec_PiI) (fun _ => rfl) fun r9 => ?_
      refine Run.bH (e := vIv) (gv := vT_Iv_Iv_I) (by kernel_rfl) (by kernel_rfl) (ok_spec_AbsI _) (fun _ => rfl) fun r10 => ?_
      refine Run.bH (e := vI) (gv := vT_Iv_Iv_I) (by kernel_rfl) (by kernel_rfl) (ok_spec_LessI _ _) (fun _ => rfl) fun r11 => ?_
      refine Run.jH (gv := vT_Iv_Iv_I) (by kernel_rfl) (?_) (?_)
      · exact Run.rh (k := 0) (by kernel_rfl) (by kernel_rfl)
      · refine Run.bH (e := vB) (gv := vT_Iv_Iv_I) (by kernel_rfl) (by kernel_rfl) (ok_spec_IsWhole _) (fun _ => rfl) fun r12 => ?_
        refine Run.jH (gv := vT_Iv_Iv_I) (by kernel_rfl) (?_) (?_)
        · exact Run.rh (k := 0) (by kernel_rfl) (by kernel_rfl)
        · refine Run.bH (e := vIv) (gv := vT_Iv_Iv_I) (by kernel_rfl) (by kernel_rfl) (ok_spec_RadiansOf _) (fun _ => rfl) fun r13 => ?_
          refine Run.bH (e := vIv) (gv := vT_Iv_Iv_I) (by kernel_rfl) (by kernel_rfl) (ok_spec_AddI _ _) (fun _ => rfl) fun r14 => ?_
          exact Run.rh (k := 0) (by kernel_rfl) (by kernel_rfl)

theorem ok_impl_leftFactor (a0 : I64) : Fun Tryz.prog 154 [] #[vI a0] (vIv (F_impl_leftFactor a0)) [] := by
  refine Fun.ofH 400 E_ok mixed Tryz.func154 (by kernel_rfl) (by kernel_rfl) ?_
  unfold F_impl_leftFactor
  refine Run.jH (gv := vIv) (by kernel_rfl) (?_) (?_)
  · refine Run.bH (e := vIv) (gv := vIv) (by kernel_rfl) (by kernel_rfl) (ok_impl_PiI) (fun _ => rfl) fun r1 => ?_
    exact Run.rh (k := 0) (by kernel_rfl) (by kernel_rfl)
  · refine Run.bH (e := vIv) (gv := vIv) (by kernel_rfl) (by kernel_rfl) (ok_impl_Integer _) (fun _ => rfl) fun r2 => ?_
    refine Run.bH (e := vIv) (gv := vIv) (by kernel_rfl) (by kernel_rfl) (ok_impl_TurnI _) (fun _ => rfl) fun r3 => ?_
    refine Run.bH (e := vIv) (gv := vIv) (by kernel_rfl) (by kernel_rfl) (ok_impl_AddI _ _) (fun _ => rfl) fun r4 => ?_
    exact Run.rh (k := 0) (by kernel_rfl) (by kernel_rfl)

theorem ok_impl_latitudeFor (a0 : I64) (a1 : Iv) : Fun Tryz.prog 79 [] #[vI a0, vIv a1] (vIv (F_impl_latitudeFor a0 a1)) [] := by
  refine Fun.ofH 400 E_ok mixed Tryz.func79 (by kernel_rfl) (by kernel_rfl) ?_
  unfold F_impl_latitudeFor
  refine Run.jH (gv := vIv) (by kernel_rfl) (?_) (?_)
  · exact Run.rh (k := 0) (by kernel_rfl) (by kernel_rfl)
  · refine Run.jH (gv := vIv) (by kernel_rfl) (?_) (?_)
    · refine Run.bH (e := vIv) (gv := vIv) (by kernel_rfl) (by kernel_rfl) (ok_impl_DoubleI _) (fun _ => rfl) fun r1 => ?_
      refine Run.bH (e := vIv) (gv := vIv) (by kernel_rfl) (by kernel_rfl) (ok_impl_SinI _) (fun _ => rfl) fun r2 => ?_
      refine Run.bH (e := vIv) (gv := vIv) (by kernel_rfl) (by kernel_rfl) (ok_impl_AddI _ _) (fun _ => rfl) fun r3 => ?_
      refine Run.bH (e := vIv) (gv := vIv) (by kernel_rfl) (by kernel_rfl) (ok_impl_leftFactor _) (fun _ => rfl) fun r4 => ?_
      refine Run.bH (e := vIv) (gv := vIv) (by kernel_rfl) (by kernel_rfl) (ok_impl_DivI _ _) (fun _ => rfl) fun r5 => ?_
      refine Run.bH (e := vIv) (gv := vIv) (by kernel_rfl) (by kernel_rfl) (ok_impl_AsinI _) (fun _ => rfl) fun r6 => ?_
      exact Run.rh (k := 0) (by kernel_rfl) (by kernel_rfl)
    · refine Run.bH (e := vIv) (gv := vIv) (by kernel_rfl) (by kernel_rfl) (ok_impl_SinI _) (fun _ => rfl) fun r7 => ?_
      refine Run.bH (e := vIv) (gv := vIv) (by kernel_rfl) (by kernel_rfl) (ok_impl_AddI _ _) (fun _ => rfl) fun r8 => ?_
      refine Run.bH (e := vIv) (gv := vIv) (by kernel_rfl) (by kernel_rfl) (ok_impl_leftFactor _) (fun _ => rfl) fun r9 => ?_
      refine Run.bH (e := vIv) (gv := vIv) (by kernel_rfl) (by kernel_rfl) (ok_impl_DivI _ _) (fun _ => rfl) fun r10 => ?_
      refine Run.bH (e := vIv) (gv := vIv) (by kernel_rfl) (by kernel_rfl) (ok_impl_AsinI _) (fun _ => rfl) fun r11 => ?_
      exact Run.rh (k := 0) (by kernel_rfl) (by kernel_rfl)

theorem ok_impl_PseudoInverse (a0 : Pj) (a1 : Pn) : Fun Tryz.prog 25 [] #[vPj a0, vPn a1] (vT_Iv_Iv_I (F_impl_PseudoInverse a0 a1)) [] := by
  refine Fun.ofH 400 E_ok mixed Tryz.func25 (by kernel_rfl) (by kernel_rfl) ?_
  unfold F_impl_PseudoInverse
  refine Run.bH (e := vB) (gv := vT_Iv_Iv_I) (by kernel_rfl) (by kernel_rfl) (ok_impl_isPseudoOne _) (fun _ => rfl) fun r1 => ?_
  refine Run.jH (gv := vT_Iv_Iv_I) (by kernel_rfl) (?_) (?_)
  · exact Run.rh (k := 0) (by kernel_rfl) (by kernel_rfl)
  · refine Run.bH (e := vIv) (gv := vT_Iv_Iv_I) (by kernel_rfl) (by kernel_rfl) (ok_impl_inverseParameter _ _) (fun _ => rfl) fun r2 => ?_
    refine Run.bH (e := vIv) (gv := vT_Iv_Iv_I) (by kernel_rfl) (by kernel_rfl) (ok_impl_parallelLength _ _) (fun _ => rfl) fun r3 => ?_
    refine Run.bH (e := vIv) (gv := vT_Iv_Iv_I) (by kernel_rfl) (by kernel_rfl) (ok_impl_DivI _ _) (fun _ => rfl) fun r4 => ?_
    refine Run.bH (e := vIv) (gv := vT_Iv_Iv_I) (by kernel_rfl) (by kernel_rfl) (ok_impl_poleHeight _) (fun _ => rfl) fun r5 => ?_
    refine Run.bH (e := vIv) (gv := vT_Iv_Iv_I) (by kernel_rfl) (by kernel_rfl) (ok_impl_AbsI _) (fun _ => rfl) fun r6 => ?_
    refine Run.bH (e := vI) (gv := vT_Iv_Iv_I) (by kernel_rfl) (by kernel_rfl) (ok_impl_LessI _ _) (fun _ => rfl) fun r7 => ?_
    refine Run.jH (gv := vT_Iv_Iv_I) (by kernel_rfl) (?_) (?_)
    · refine Run.p [true, true, true, true, true, true] (by kernel_rfl) ?_
      exact Run.rh (k := 0) (by kernel_rfl) (by kernel_rfl)
    · refine Run.bH (e := vIv) (gv := vT_Iv_Iv_I) (by kernel_rfl) (by kernel_rfl) (ok_impl_PiI) (fun _ => rfl) fun r8 => ?_
      refine Run.p [false, false] (by kernel_rfl) ?_
      refine Run.bH (e := vIv) (gv := vT_Iv_Iv_I) (by kernel_rfl) (by kernel_rfl) (ok_impl_AbsI _) (fun _ => rfl) fun r9 => ?_
      refine Run.p [false] (by kernel_rfl) ?_
      refine Run.bH (e := vI) (gv := vT_Iv_Iv_I) (by kernel_rfl) (by kernel_rfl) (ok_impl_LessI _ _) (fun _ => rfl) fun r10 => ?_
      refine Run.p [false, false] (by kernel_rfl) ?_
      refine Run.jH (gv := vT_Iv_Iv_I) (by kernel_rfl) (?_) (?_)
      · exact Run.rh (k := 0) (by kernel_rfl) (by kernel_rfl)
      · refine Run.bH (e := vIv) (gv := vT_Iv_Iv_I) (by kernel_rfl) (by kernel_rfl) (ok_impl_latitudeFor _ _) (fun _ => rfl) fun r11 => ?_
        refine Run.bH (e := vT_Iv_I) (gv := vT_Iv_Iv_I) (by kernel_rfl) (by kernel_rfl) (ok_impl_knownI _) (fun _ => rfl) fun r12 => ?_
        refine Run.jH (gv := vT_Iv_Iv_I) (by kernel_rfl) (?_) (?_)
        · exact Run.rh (k := 0) (by kernel_rfl) (by kernel_rfl)
        · refine Run.bH (e := vIv) (gv := vT_Iv_Iv_I) (by kernel_rfl) (by kernel_rfl) (ok_impl_RadiansOf _) (fun _ => rfl) fun r13 => ?_
          refine Run.bH (e := vIv) (gv := vT_Iv_Iv_I) (by kernel_rfl) (by kernel_rfl) (ok_impl_AddI _ _) (fun _ => rfl) fun r14 => ?_
          exact Run.rh (k := 0) (by kernel_rfl) (by kernel_rfl)

theorem ok_laws_FnExactPseudoInverse (a0 : Pj) (a1 : Pn) : Fun Tryz.prog 8 [] #[vPj a0, vPn a1] (vB (F_laws_FnExactPseudoInverse a0 a1)) [] := by
  refine Fun.ofH 400 E_ok mixed Tryz.func8 (by kernel_rfl) (by kernel_rfl) ?_
  unfold F_laws_FnExactPseudoInverse
  refine Run.bH (e := vPj) (gv := vB) (by kernel_rfl) (by kernel_rfl) (ok_laws_toProjection _) (fun _ => rfl) fun r1 => ?_
  refine Run.bH (e := vPn) (gv := vB) (by kernel_rfl) (by kernel_rfl) (ok_laws_toPlanar _) (fun _ => rfl) fun r2 => ?_
  refine Run.bH (e := vT_Iv_Iv_I) (gv := vB) (by kernel_rfl) (by kernel_rfl) (ok_spec_PseudoInverse _ _) (fun _ => rfl) fun r3 => ?_
  refine Run.bH (e := vPj) (gv := vB) (by kernel_rfl) (by kernel_rfl) (ok_laws_toProjection _) (fun _ => rfl) fun r4 => ?_
  refine Run.bH (e := vPn) (gv := vB) (by kernel_rfl) (by kernel_rfl) (ok_laws_toPlanar _) (fun _ => rfl) fun r5 => ?_
  refine Run.bH (e := vT_Iv_Iv_I) (gv := vB) (by kernel_rfl) (by kernel_rfl) (ok_impl_PseudoInverse _ _) (fun _ => rfl) fun r6 => ?_
  refine Run.bH (e := vB) (gv := vB) (by kernel_rfl) (by kernel_rfl) (ok_laws_eqInterval _ _) (fun _ => rfl) fun r7 => ?_
  refine Run.jH (gv := vB) (by kernel_rfl) (?_) (?_)
  · refine Run.p [true, true, true, true, true, true, true, true, true] (by kernel_rfl) ?_
    exact Run.rh (k := 0) (by kernel_rfl) (by kernel_rfl)
  · refine Run.p [false, false] (by kernel_rfl) ?_
    refine Run.bH (e := vB) (gv := vB) (by kernel_rfl) (by kernel_rfl) (ok_laws_eqInterval _ _) (fun _ => rfl) fun r8 => ?_
    refine Run.p [false, false] (by kernel_rfl) ?_
    refine Run.jH (gv := vB) (by kernel_rfl) (?_) (?_)
    · refine Run.p [true, true, true, true] (by kernel_rfl) ?_
      exact Run.rh (k := 0) (by kernel_rfl) (by kernel_rfl)
    · refine Run.p [false, false, false] (by kernel_rfl) ?_
      refine Run.jH (gv := vB) (by kernel_rfl) (?_) (?_)
      · exact Run.rh (k := 0) (by kernel_rfl) (by kernel_rfl)
      · exact Run.rh (k := 0) (by kernel_rfl) (by kernel_rfl)

end Go.Proofs.YtebaobmmnkebaaaGreat.Abs
