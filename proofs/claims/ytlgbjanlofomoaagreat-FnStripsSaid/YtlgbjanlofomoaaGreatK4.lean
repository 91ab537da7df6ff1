/- The program's functions are these; part 4 (written by w.py). -/
import Derived.Test.YtlgbjanlofomoaaGreatE
import Derived.Test.YtlgbjanlofomoaaGreatF3
import Derived.Test.YtlgbjanlofomoaaGreatQpre
import Derived.Test.YtlgbjanlofomoaaGreatK0
set_option linter.unusedVariables false
set_option linter.unusedSimpArgs false
namespace Go.Proofs.YtlgbjanlofomoaaGreat.Abs
open Go Go.RowKit

theorem ok_impl_within (a0 : I64) (a1 : I64) (a2 : I64) : Fun Tryz.prog 17 [] #[vI a0, vI a1, vI a2] (vB (F_impl_within a0 a1 a2)) [] := by
  refine Fun.ofH 400 E_ok mixed Tryz.func17 (by kernel_rfl) (by kernel_rfl) ?_
  unfold F_impl_within
  refine Run.y (gv := vB) (fun _ => ?_) (fun _ => ?_)
  · refine Run.z [true, true, true] ?_
    exact Run.x 0
  · refine Run.z [false, false, false] ?_
    exact Run.x 0

theorem ok_impl_ValidPoint (a0 : Pt) : Fun Tryz.prog 15 [] #[vPt a0] (vB (F_impl_ValidPoint a0)) [] := by
  refine Fun.ofH 400 E_ok mixed Tryz.func15 (by kernel_rfl) (by kernel_rfl) ?_
  unfold F_impl_ValidPoint
  refine Run.q (e := vB) (gv := vB) (ok_impl_within _ _ _) fun r1 _ => ?_
  refine Run.y (gv := vB) (fun _ => ?_) (fun _ => ?_)
  · refine Run.z [true, true, true] ?_
    refine Run.y (gv := vB) (fun _ => ?_) (fun _ => ?_)
    · refine Run.z [true, true, true] ?_
      exact Run.x 0
    · refine Run.z [false, false, false] ?_
      exact Run.x 0
  · refine Run.z [false, false, false, false, false, false, false] ?_
    exact Run.x 0

theorem ok_impl_zoneOf (a0 : Pt) : Fun Tryz.prog 16 [] #[vPt a0] (vI (F_impl_zoneOf a0)) [] := by
  refine Fun.ofH 400 E_ok mixed Tryz.func16 (by kernel_rfl) (by kernel_rfl) ?_
  unfold F_impl_zoneOf
  refine Run.y (gv := vI) (fun _ => ?_) (fun _ => ?_)
  · exact Run.x 0
  · refine Run.z [true] ?_
    exact Run.x 0

theorem ok_impl_ZoneOf (a0 : Pt) : Fun Tryz.prog 5 [] #[vPt a0] (vT_I_I (F_impl_ZoneOf a0)) [] := by
  refine Fun.ofH 400 E_ok mixed Tryz.func5 (by kernel_rfl) (by kernel_rfl) ?_
  unfold F_impl_ZoneOf
  refine Run.q (e := vB) (gv := vT_I_I) (ok_impl_ValidPoint _) fun r1 _ => ?_
  refine Run.y (gv := vT_I_I) (fun _ => ?_) (fun _ => ?_)
  · exact Run.x 0
  · refine Run.q (e := vI) (gv := vT_I_I) (ok_impl_zoneOf _) fun r2 _ => ?_
    exact Run.x 0

theorem ok_impl_ZoneMiddle (a0 : I64) : Fun Tryz.prog 6 [] #[vI a0] (vT_I_I (F_impl_ZoneMiddle a0)) [] := by
  refine Fun.ofH 400 E_ok mixed Tryz.func6 (by kernel_rfl) (by kernel_rfl) ?_
  unfold F_impl_ZoneMiddle
  refine Run.q (e := vB) (gv := vT_I_I) (ok_impl_within _ _ _) fun r1 _ => ?_
  refine Run.y (gv := vT_I_I) (fun _ => ?_) (fun _ => ?_)
  · exact Run.x 0
  · exact Run.x 0

theorem ok_impl_ZoneProjection (a0 : I64) : Fun Tryz.prog 7 [] #[vI a0] (vT_Pj_I (F_impl_ZoneProjection a0)) [] := by
  refine Fun.ofH 400 E_ok mixed Tryz.func7 (by kernel_rfl) (by kernel_rfl) ?_
  unfold F_impl_ZoneProjection
  refine Run.q (e := vT_I_I) (gv := vT_Pj_I) (ok_impl_ZoneMiddle _) fun r1 _ => ?_
  refine Run.y (gv := vT_Pj_I) (fun _ => ?_) (fun _ => ?_)
  · exact Run.x 0
  · exact Run.x 0

theorem ok_impl_isStandard (a0 : I64) : Fun Tryz.prog 135 [] #[vI a0] (vB (F_impl_isStandard a0)) [] := by
  refine Fun.ofH 400 E_ok mixed Tryz.func135 (by kernel_rfl) (by kernel_rfl) ?_
  unfold F_impl_isStandard
  refine Run.q (e := vB) (gv := vB) (ok_impl_within _ _ _) fun r1 _ => ?_
  exact Run.x 0

theorem ok_impl_isAzimuthal (a0 : I64) : Fun Tryz.prog 136 [] #[vI a0] (vB (F_impl_isAzimuthal a0)) [] := by
  refine Fun.ofH 400 E_ok mixed Tryz.func136 (by kernel_rfl) (by kernel_rfl) ?_
  unfold F_impl_isAzimuthal
  refine Run.q (e := vB) (gv := vB) (ok_impl_within _ _ _) fun r1 _ => ?_
  exact Run.x 0

theorem ok_impl_isConic (a0 : I64) : Fun Tryz.prog 137 [] #[vI a0] (vB (F_impl_isConic a0)) [] := by
  refine Fun.ofH 400 E_ok mixed Tryz.func137 (by kernel_rfl) (by kernel_rfl) ?_
  unfold F_impl_isConic
  refine Run.q (e := vB) (gv := vB) (ok_impl_within _ _ _) fun r1 _ => ?_
  exact Run.x 0

theorem ok_impl_abs (a0 : I64) : Fun Tryz.prog 52 [] #[vI a0] (vI (F_impl_abs a0)) [] := by
  refine Fun.ofH 400 E_ok mixed Tryz.func52 (by kernel_rfl) (by kernel_rfl) ?_
  unfold F_impl_abs
  exact Run.x 0

theorem ok_impl_ValidProjection (a0 : Pj) : Fun Tryz.prog 91 [] #[vPj a0] (vB (F_impl_ValidProjection a0)) [] := by
  refine Fun.ofH 400 E_ok mixed Tryz.func91 (by kernel_rfl) (by kernel_rfl) ?_
  unfold F_impl_ValidProjection
  refine Run.q (e := vB) (gv := vB) (ok_impl_within _ _ _) fun r1 _ => ?_
  refine Run.y (gv := vB) (fun _ => ?_) (fun _ => ?_)
  · refine Run.z [true, true, true, true, true, true, true, true, true, true, true, true, true, true, true, true, true, true] ?_
    exact Run.x 0
  · refine Run.z [false, false, false, false, false] ?_
    refine Run.q (e := vB) (gv := vB) (ok_impl_ValidPoint _) fun r2 _ => ?_
    refine Run.z [false, false] ?_
    refine Run.y (gv := vB) (fun _ => ?_) (fun _ => ?_)
    · refine Run.z [true, true, true, true, true, true, true, true, true, true] ?_
      exact Run.x 0
    · refine Run.z [false, false] ?_
      refine Run.q (e := vB) (gv := vB) (ok_impl_isStandard _) fun r3 _ => ?_
      refine Run.z [false, false] ?_
      refine Run.y (gv := vB) (fun _ => ?_) (fun _ => ?_)
      · refine Run.z [true, true, true, true, true] ?_
        exact Run.x 0
      · refine Run.z [false, false] ?_
        refine Run.q (e := vB) (gv := vB) (ok_impl_isStandard _) fun r4 _ => ?_
        refine Run.z [false, false] ?_
        refine Run.y (gv := vB) (fun _ => ?_) (fun _ => ?_)
        · exact Run.x 0
        · refine Run.q (e := vB) (gv := vB) (ok_impl_isAzimuthal _) fun r5 _ => ?_
          refine Run.y (gv := vB) (fun _ => ?_) (fun _ => ?_)
          · refine Run.z [true, true, true, true, true, true, true] ?_
            refine Run.q (e := vB) (gv := vB) (ok_impl_isConic _) fun r6 _ => ?_
            refine Run.y (gv := vB) (fun _ => ?_) (fun _ => ?_)
            · refine Run.z [true, true, true, true, true, true, true, false, false, false, false, false, false, false, false, false, false, false, false, false, false, false, false] ?_
              refine Run.q (e := vB) (gv := vB) (ok_impl_isConic _) fun r7 _ => ?_
              refine Run.z [false, false] ?_
              refine Run.y (gv := vB) (fun _ => ?_) (fun _ => ?_)
              · refine Run.z [true, true, false, true, false] ?_
                refine Run.y (gv := vB) (fun _ => ?_) (fun _ => ?_)
                · exact Run.x 0
                · refine Run.q (e := vB) (gv := vB) (ok_impl_isConic _) fun r8 _ => ?_
                  refine Run.y (gv := vB) (fun _ => ?_) (fun _ => ?_)
                  · refine Run.z [true, true, true, true, true, true, true] ?_
                    exact Run.x 0
                  · refine Run.z [false, false, false, false, false] ?_
                    refine Run.q (e := vI) (gv := vB) (ok_impl_abs _) fun r9 _ => ?_
                    refine Run.z [false, false] ?_
                    exact Run.x 0
              · refine Run.z [false, false, false, false, false, false] ?_
                refine Run.q (e := vB) (gv := vB) (ok_impl_isConic _) fun r10 _ => ?_
                refine Run.y (gv := vB) (fun _ => ?_) (fun _ => ?_)
                · refine Run.z [true, true, true, true, true, true, true] ?_
                  exact Run.x 0
                · refine Run.z [false, false, false, false, false] ?_
                  refine Run.q (e := vI) (gv := vB) (ok_impl_abs _) fun r11 _ => ?_
                  refine Run.z [false, false] ?_
                  exact Run.x 0
            · refine Run.z [false, false, false] ?_
              refine Run.y (gv := vB) (fun _ => ?_) (fun _ => ?_)
              · refine Run.z [true, true, true, false, false, false, false, false, false, false, false, false, false, false, false, false, false, false, false] ?_
                refine Run.q (e := vB) (gv := vB) (ok_impl_isConic _) fun r12 _ => ?_
                refine Run.z [false, false] ?_
                refine Run.y (gv := vB) (fun _ => ?_) (fun _ => ?_)
                · refine Run.z [true, true, false, true, false] ?_
                  refine Run.y (gv := vB) (fun _ => ?_) (fun _ => ?_)
                  · exact Run.x 0
                  · refine Run.q (e := vB) (gv := vB) (ok_impl_isConic _) fun r13 _ => ?_
                    refine Run.y (gv := vB) (fun _ => ?_) (fun _ => ?_)
                    · refine Run.z [true, true, true, true, true, true, true] ?_
                      exact Run.x 0
                    · refine Run.z [false, false, false, false, false] ?_
                      refine Run.q (e := vI) (gv := vB) (ok_impl_abs _) fun r14 _ => ?_
                      refine Run.z [false, false] ?_
                      exact Run.x 0
                · refine Run.z [false, false, false, false, false, false] ?_
                  refine Run.q (e := vB) (gv := vB) (ok_impl_isConic _) fun r15 _ => ?_
                  refine Run.y (gv := vB) (fun _ => ?_) (fun _ => ?_)
                  · refine Run.z [true, true, true, true, true, true, true] ?_
                    exact Run.x 0
                  · refine Run.z [false, false, false, false, false] ?_
                    refine Run.q (e := vI) (gv := vB) (ok_impl_abs _) fun r16 _ => ?_
                    refine Run.z [false, false] ?_
                    exact Run.x 0
              · refine Run.z [false, false, false, false, false, false, false, false, false, false] ?_
                refine Run.y (gv := vB) (fun _ => ?_) (fun _ => ?_)
                · refine Run.z [true, true, false, true, false] ?_
                  refine Run.y (gv := vB) (fun _ => ?_) (fun _ => ?_)
                  · refine Run.z [true, true, true, true, true, true, true] ?_
                    exact Run.x 0
                  · refine Run.z [false, false] ?_
                    refine Run.q (e := vB) (gv := vB) (ok_impl_isConic _) fun r17 _ => ?_
                    refine Run.z [false, false] ?_
                    refine Run.y (gv := vB) (fun _ => ?_) (fun _ => ?_)
                    · refine Run.z [true, true, false, true, false] ?_
                      refine Run.y (gv := vB) (fun _ => ?_) (fun _ => ?_)
                      · exact Run.x 0
                      · refine Run.q (e := vB) (gv := vB) (ok_impl_isConic _) fun r18 _ => ?_
                        refine Run.y (gv := vB) (fun _ => ?_) (fun _ => ?_)
                        · refine Run.z [true, true, true, true, true, true, true] ?_
                          exact Run.x 0
                        · refine Run.z [false, false, false, false, false] ?_
                          refine Run.q (e := vI) (gv := vB) (ok_impl_abs _) fun r19 _ => ?_
                          refine Run.z [false, false] ?_
                          exact Run.x 0
                    · refine Run.z [false, false, false, false, false, false] ?_
                      refine Run.q (e := vB) (gv := vB) (ok_impl_isConic _) fun r20 _ => ?_
                      refine Run.y (gv := vB) (fun _ => ?_) (fun _ => ?_)
                      · refine Run.z [true, true, true, true, true, true, true] ?_
                        exact Run.x 0
                      · refine Run.z [false, false, false, false, false] ?_
                        refine Run.q (e := vI) (gv := vB) (ok_impl_abs _) fun r21 _ => ?_
                        refine Run.z [false, false] ?_
                        exact Run.x 0
                · refine Run.z [false, false, false, false, false, false, false, false] ?_
                  refine Run.q (e := vB) (gv := vB) (ok_impl_isConic _) fun r22 _ => ?_
                  refine Run.z [false, false] ?_
                  refine Run.y (gv := vB) (fun _ => ?_) (fun _ => ?_)
                  · refine Run.z [true, true, false, true, false] ?_
                    refine Run.y (gv := vB) (fun _ => ?_) (fun _ => ?_)
                    · exact Run.x 0
                    · refine Run.q (e := vB) (gv := vB) (ok_impl_isConic _) fun r23 _ => ?_
                      refine Run.y (gv := vB) (fun _ => ?_) (fun _ => ?_)
                      · refine Run.z [true, true, true, true, true, true, true] ?_
                        exact Run.x 0
                      · refine Run.z [false, false, false, false, false] ?_
                        refine Run.q (e := vI) (gv := vB) (ok_impl_abs _) fun r24 _ => ?_
                        refine Run.z [false, false] ?_
                        exact Run.x 0
                  · refine Run.z [false, false, false, false, false, false] ?_
                    refine Run.q (e := vB) (gv := vB) (ok_impl_isConic _) fun r25 _ => ?_
                    refine Run.y (gv := vB) (fun _ => ?_) (fun _ => ?_)
                    · refine Run.z [true, true, true, true, true, true, true] ?_
                      exact Run.x 0
                    · refine Run.z [false, false, false, false, false] ?_
                      refine Run.q (e := vI) (gv := vB) (ok_impl_abs _) fun r26 _ => ?_
                      refine Run.z [false, false] ?_
                      exact Run.x 0
          · refine Run.z [false, false] ?_
            refine Run.q (e := vB) (gv := vB) (ok_impl_isConic _) fun r27 _ => ?_
            refine Run.z [false] ?_
            refine Run.y (gv := vB) (fun _ => ?_) (fun _ => ?_)
            · refine Run.z [true, true, true] ?_
              refine Run.q (e := vB) (gv := vB) (ok_impl_isConic _) fun r28 _ => ?_
              refine Run.y (gv := vB) (fun _ => ?_) (fun _ => ?_)
              · refine Run.z [true, true, true, true, true, true, true, false, false, false, false, false, false, false, false, false, false, false, false, false, false, false, false] ?_
                refine Run.q (e := vB) (gv := vB) (ok_impl_isConic _) fun r29 _ => ?_
                refine Run.z [false, false] ?_
                refine Run.y (gv := vB) (fun _ => ?_) (fun _ => ?_)
                · refine Run.z [true, true, false, true, false] ?_
                  refine Run.y (gv := vB) (fun _ => ?_) (fun _ => ?_)
                  · exact Run.x 0
                  · refine Run.q (e := vB) (gv := vB) (ok_impl_isConic _) fun r30 _ => ?_
                    refine Run.y (gv := vB) (fun _ => ?_) (fun _ => ?_)
                    · refine Run.z [true, true, true, true, true, true, true] ?_
                      exact Run.x 0
                    · refine Run.z [false, false, false, false, false] ?_
                      refine Run.q (e := vI) (gv := vB) (ok_impl_abs _) fun r31 _ => ?_
                      refine Run.z [false, false] ?_
                      exact Run.x 0
                · refine Run.z [false, false, false, false, false, false] ?_
                  refine Run.q (e := vB) (gv := vB) (ok_impl_isConic _) fun r32 _ => ?_
                  refine Run.y (gv := vB) (fun _ => ?_) (fun _ => ?_)
                  · refine Run.z [true, true, true, true, true, true, true] ?_
                    exact Run.x 0
                  · refine Run.z [false, false, false, false, false] ?_
                    refine Run.q (e := vI) (gv := vB) (ok_impl_abs _) fun r33 _ => ?_
                    refine Run.z [false, false] ?_
                    exact Run.x 0
              · refine Run.z [false, false, false] ?_
                refine Run.y (gv := vB) (fun _ => ?_) (fun _ => ?_)
                · refine Run.z [true, true, true, false, false, false, false, false, false, false, false, false, false, false, false, false, false, false, false] ?_
                  refine Run.q (e := vB) (gv := vB) (ok_impl_isConic _) fun r34 _ => ?_
                  refine Run.z [false, false] ?_
                  refine Run.y (gv := vB) (fun _ => ?_) (fun _ => ?_)
                  · refine Run.z [true, true, false, true, false] ?_
                    refine Run.y (gv := vB) (fun _ => ?_) (fun _ => ?_)
                    · exact Run.x 0
                    · refine Run.q (e := vB) (gv := vB) (ok_impl_isConic _) fun r35 _ => ?_
                      refine Run.y (gv := vB) (fun _ => ?_) (fun _ => ?_)
                      · refine Run.z [true, true, true, true, true, true, true] ?_
                        exact Run.x 0
                      · refine Run.z [false, false, false, false, false] ?_
                        refine Run.q (e := vI) (gv := vB) (ok_impl_abs _) fun r36 _ => ?_
                        refine Run.z [false, false] ?_
                        exact Run.x 0
                  · refine Run.z [false, false, false, false, false, false] ?_
                    refine Run.q (e := vB) (gv := vB) (ok_impl_isConic _) fun r37 _ => ?_
                    refine Run.y (gv := vB) (fun _ => ?_) (fun _ => ?_)
                    · refine Run.z [true, true, true, true, true, true, true] ?_
                      exact Run.x 0
                    · refine Run.z [false, false, false, false, false] ?_
                      refine Run.q (e := vI) (gv := vB) (ok_impl_abs _) fun r38 _ => ?_
                      refine Run.z [false, false] ?_
                      exact Run.x 0
                · refine Run.z [false, false, false, false, false, false, false, false, false, false] ?_
                  refine Run.y (gv := vB) (fun _ => ?_) (fun _ => ?_)
                  · refine Run.z [true, true, false, true, false] ?_
                    refine Run.y (gv := vB) (fun _ => ?_) (fun _ => ?_)
                    · refine Run.z [true, true, true, true, true, true, true] ?_
                      exact Run.x 0
                    · refine Run.z [false, false] ?_
                      refine Run.q (e := vB) (gv := vB) (ok_impl_isConic _) fun r39 _ => ?_
                      refine Run.z [false, false] ?_
                      refine Run.y (gv := vB) (fun _ => ?_) (fun _ => ?_)
                      · refine Run.z [true, true, false, true, false] ?_
                        refine Run.y (gv := vB) (fun _ => ?_) (fun _ => ?_)
                        · exact Run.x 0
                        · refine Run.q (e := vB) (gv := vB) (ok_impl_isConic _) fun r40 _ => ?_
                          refine Run.y (gv := vB) (fun _ => ?_) (fun _ => ?_)
                          · refine Run.z [true, true, true, true, true, true, true] ?_
                            exact Run.x 0
                          · refine Run.z [false, false, false, false, false] ?_
                            refine Run.q (e := vI) (gv := vB) (ok_impl_abs _) fun r41 _ => ?_
                            refine Run.z [false, false] ?_
                            exact Run.x 0
                      · refine Run.z [false, false, false, false, false, false] ?_
                        refine Run.q (e := vB) (gv := vB) (ok_impl_isConic _) fun r42 _ => ?_
                        refine Run.y (gv := vB) (fun _ => ?_) (fun _ => ?_)
                        · refine Run.z [true, true, true, true, true, true, true] ?_
                          exact Run.x 0
                        · refine Run.z [false, false, false, false, false] ?_
                          refine Run.q (e := vI) (gv := vB) (ok_impl_abs _) fun r43 _ => ?_
                          refine Run.z [false, false] ?_
                          exact Run.x 0
                  · refine Run.z [false, false, false, false, false, false, false, false] ?_
                    refine Run.q (e := vB) (gv := vB) (ok_impl_isConic _) fun r44 _ => ?_
                    refine Run.z [false, false] ?_
                    refine Run.y (gv := vB) (fun _ => ?_) (fun _ => ?_)
                    · refine Run.z [true, true, false, true, false] ?_
                      refine Run.y (gv := vB) (fun _ => ?_) (fun _ => ?_)
                      · exact Run.x 0
                      · refine Run.q (e := vB) (gv := vB) (ok_impl_isConic _) fun r45 _ => ?_
                        refine Run.y (gv := vB) (fun _ => ?_) (fun _ => ?_)
                        · refine Run.z [true, true, true, true, true, true, true] ?_
                          exact Run.x 0
                        · refine Run.z [false, false, false, false, false] ?_
                          refine Run.q (e := vI) (gv := vB) (ok_impl_abs _) fun r46 _ => ?_
                          refine Run.z [false, false] ?_
                          exact Run.x 0
                    · refine Run.z [false, false, false, false, false, false] ?_
                      refine Run.q (e := vB) (gv := vB) (ok_impl_isConic _) fun r47 _ => ?_
                      refine Run.y (gv := vB) (fun _ => ?_) (fun _ => ?_)
                      · refine Run.z [true, true, true, true, true, true, true] ?_
                        exact Run.x 0
                      · refine Run.z [false, false, false, false, false] ?_
                        refine Run.q (e := vI) (gv := vB) (ok_impl_abs _) fun r48 _ => ?_
                        refine Run.z [false, false] ?_
                        exact Run.x 0
            · refine Run.z [false, false, false] ?_
              refine Run.q (e := vB) (gv := vB) (ok_impl_isConic _) fun r49 _ => ?_
              refine Run.y (gv := vB) (fun _ => ?_) (fun _ => ?_)
              · refine Run.z [true, true, true, true, true, true, true] ?_
                refine Run.y (gv := vB) (fun _ => ?_) (fun _ => ?_)
                · refine Run.z [true, true, true] ?_
                  refine Run.y (gv := vB) (fun _ => ?_) (fun _ => ?_)
                  · refine Run.z [true, true, true, true, true, true, true, true, true, true, true, true] ?_
                    exact Run.x 0
                  · refine Run.z [false, false, false, false, false, false, false, false, false, false, false] ?_
                    refine Run.q (e := vB) (gv := vB) (ok_impl_isConic _) fun r50 _ => ?_
                    refine Run.z [false, false] ?_
                    refine Run.y (gv := vB) (fun _ => ?_) (fun _ => ?_)
                    · refine Run.z [true, true, false, true, false] ?_
                      refine Run.y (gv := vB) (fun _ => ?_) (fun _ => ?_)
                      · exact Run.x 0
                      · refine Run.q (e := vB) (gv := vB) (ok_impl_isConic _) fun r51 _ => ?_
                        refine Run.y (gv := vB) (fun _ => ?_) (fun _ => ?_)
                        · refine Run.z [true, true, true, true, true, true, true] ?_
                          exact Run.x 0
                        · refine Run.z [false, false, false, false, false] ?_
                          refine Run.q (e := vI) (gv := vB) (ok_impl_abs _) fun r52 _ => ?_
                          refine Run.z [false, false] ?_
                          exact Run.x 0
                    · refine Run.z [false, false, false, false, false, false] ?_
                      refine Run.q (e := vB) (gv := vB) (ok_impl_isConic _) fun r53 _ => ?_
                      refine Run.y (gv := vB) (fun _ => ?_) (fun _ => ?_)
                      · refine Run.z [true, true, true, true, true, true, true] ?_
                        exact Run.x 0
                      · refine Run.z [false, false, false, false, false] ?_
                        refine Run.q (e := vI) (gv := vB) (ok_impl_abs _) fun r54 _ => ?_
                        refine Run.z [false, false] ?_
                        exact Run.x 0
                · refine Run.z [false, false, false, false, false, false, false, false, false, false, false, false, false, false, false] ?_
                  refine Run.q (e := vB) (gv := vB) (ok_impl_isConic _) fun r55 _ => ?_
                  refine Run.z [false, false] ?_
                  refine Run.y (gv := vB) (fun _ => ?_) (fun _ => ?_)
                  · refine Run.z [true, true, false, true, false] ?_
                    refine Run.y (gv := vB) (fun _ => ?_) (fun _ => ?_)
                    · exact Run.x 0
                    · refine Run.q (e := vB) (gv := vB) (ok_impl_isConic _) fun r56 _ => ?_
                      refine Run.y (gv := vB) (fun _ => ?_) (fun _ => ?_)
                      · refine Run.z [true, true, true, true, true, true, true] ?_
                        exact Run.x 0
                      · refine Run.z [false, false, false, false, false] ?_
                        refine Run.q (e := vI) (gv := vB) (ok_impl_abs _) fun r57 _ => ?_
                        refine Run.z [false, false] ?_
                        exact Run.x 0
                  · refine Run.z [false, false, false, false, false, false] ?_
                    refine Run.q (e := vB) (gv := vB) (ok_impl_isConic _) fun r58 _ => ?_
                    refine Run.y (gv := vB) (fun _ => ?_) (fun _ => ?_)
                    · refine Run.z [true, true, true, true, true, true, true] ?_
                      exact Run.x 0
                    · refine Run.z [false, false, false, false, false] ?_
                      refine Run.q (e := vI) (gv := vB) (ok_impl_abs _) fun r59 _ => ?_
                      refine Run.z [false, false] ?_
                      exact Run.x 0
              · refine Run.z [false, false, false] ?_
                refine Run.y (gv := vB) (fun _ => ?_) (fun _ => ?_)
                · refine Run.z [true, true, true] ?_
                  refine Run.y (gv := vB) (fun _ => ?_) (fun _ => ?_)
                  · refine Run.z [true, true, true] ?_
                    refine Run.y (gv := vB) (fun _ => ?_) (fun _ => ?_)
                    · refine Run.z [true, true, true, true, true, true, true, true, true, true, true, true] ?_
                      exact Run.x 0
                    · refine Run.z [false, false, false, false, false, false, false, false, false, false, false] ?_
                      refine Run.q (e := vB) (gv := vB) (ok_impl_isConic _) fun r60 _ => ?_
                      refine Run.z [false, false] ?_
                      refine Run.y (gv := vB) (fun _ => ?_) (fun _ => ?_)
                      · refine Run.z [true, true, false, true, false] ?_
                        refine Run.y (gv := vB) (fun _ => ?_) (fun _ => ?_)
                        · exact Run.x 0
                        · refine Run.q (e := vB) (gv := vB) (ok_impl_isConic _) fun r61 _ => ?_
                          refine Run.y (gv := vB) (fun _ => ?_) (fun _ => ?_)
                          · refine Run.z [true, true, true, true, true, true, true] ?_
                            exact Run.x 0
                          · refine Run.z [false, false, false, false, false] ?_
                            refine Run.q (e := vI) (gv := vB) (ok_impl_abs _) fun r62 _ => ?_
                            refine Run.z [false, false] ?_
                            exact Run.x 0
                      · refine Run.z [false, false, false, false, false, false] ?_
                        refine Run.q (e := vB) (gv := vB) (ok_impl_isConic _) fun r63 _ => ?_
                        refine Run.y (gv := vB) (fun _ => ?_) (fun _ => ?_)
                        · refine Run.z [true, true, true, true, true, true, true] ?_
                          exact Run.x 0
                        · refine Run.z [false, false, false, false, false] ?_
                          refine Run.q (e := vI) (gv := vB) (ok_impl_abs _) fun r64 _ => ?_
                          refine Run.z [false, false] ?_
                          exact Run.x 0
                  · refine Run.z [false, false, false, false, false, false, false, false, false, false, false, false, false, false, false] ?_
                    refine Run.q (e := vB) (gv := vB) (ok_impl_isConic _) fun r65 _ => ?_
                    refine Run.z [false, false] ?_
                    refine Run.y (gv := vB) (fun _ => ?_) (fun _ => ?_)
                    · refine Run.z [true, true, false, true, false] ?_
                      refine Run.y (gv := vB) (fun _ => ?_) (fun _ => ?_)
                      · exact Run.x 0
                      · refine Run.q (e := vB) (gv := vB) (ok_impl_isConic _) fun r66 _ => ?_
                        refine Run.y (gv := vB) (fun _ => ?_) (fun _ => ?_)
                        · refine Run.z [true, true, true, true, true, true, true] ?_
                          exact Run.x 0
                        · refine Run.z [false, false, false, false, false] ?_
                          refine Run.q (e := vI) (gv := vB) (ok_impl_abs _) fun r67 _ => ?_
                          refine Run.z [false, false] ?_
                          exact Run.x 0
                    · refine Run.z [false, false, false, false, false, false] ?_
                      refine Run.q (e := vB) (gv := vB) (ok_impl_isConic _) fun r68 _ => ?_
                      refine Run.y (gv := vB) (fun _ => ?_) (fun _ => ?_)
                      · refine Run.z [true, true, true, true, true, true, true] ?_
                        exact Run.x 0
                      · refine Run.z [false, false, false, false, false] ?_
                        refine Run.q (e := vI) (gv := vB) (ok_impl_abs _) fun r69 _ => ?_
                        refine Run.z [false, false] ?_
                        exact Run.x 0
                · refine Run.z [false, false, false] ?_
                  refine Run.y (gv := vB) (fun _ => ?_) (fun _ => ?_)
                  · refine Run.z [true, true, true] ?_
                    refine Run.y (gv := vB) (fun _ => ?_) (fun _ => ?_)
                    · refine Run.z [true, true, true, true, true, true, true, true, true, true, true, true] ?_
                      exact Run.x 0
                    · refine Run.z [false, false] ?_
                      refine Run.y (gv := vB) (fun _ => ?_) (fun _ => ?_)
                      · refine Run.z [true, true, false, true, false] ?_
                        refine Run.y (gv := vB) (fun _ => ?_) (fun _ => ?_)
                        · refine Run.z [true, true, true, true, true, true, true] ?_
                          exact Run.x 0
                        · refine Run.z [false, false] ?_
                          refine Run.q (e := vB) (gv := vB) (ok_impl_isConic _) fun r70 _ => ?_
                          refine Run.z [false, false] ?_
                          refine Run.y (gv := vB) (fun _ => ?_) (fun _ => ?_)
                          · refine Run.z [true, true, false, true, false] ?_
                            refine Run.y (gv := vB) (fun _ => ?_) (fun _ => ?_)
                            · exact Run.x 0
                            · refine Run.q (e := vB) (gv := vB) (ok_impl_isConic _) fun r71 _ => ?_
                              refine Run.y (gv := vB) (fun _ => ?_) (fun _ => ?_)
                              · refine Run.z [true, true, true, true, true, true, true] ?_
                                exact Run.x 0
                              · refine Run.z [false, false, false, false, false] ?_
                                refine Run.q (e := vI) (gv := vB) (ok_impl_abs _) fun r72 _ => ?_
                                refine Run.z [false, false] ?_
                                exact Run.x 0
                          · refine Run.z [false, false, false, false, false, false] ?_
                            refine Run.q (e := vB) (gv := vB) (ok_impl_isConic _) fun r73 _ => ?_
                            refine Run.y (gv := vB) (fun _ => ?_) (fun _ => ?_)
                            · refine Run.z [true, true, true, true, true, true, true] ?_
                              exact Run.x 0
                            · refine Run.z [false, false, false, false, false] ?_
                              refine Run.q (e := vI) (gv := vB) (ok_impl_abs _) fun r74 _ => ?_
                              refine Run.z [false, false] ?_
                              exact Run.x 0
                      · refine Run.z [false, false, false, false, false, false, false, false] ?_
                        refine Run.q (e := vB) (gv := vB) (ok_impl_isConic _) fun r75 _ => ?_
                        refine Run.z [false, false] ?_
                        refine Run.y (gv := vB) (fun _ => ?_) (fun _ => ?_)
                        · refine Run.z [true, true, false, true, false] ?_
                          refine Run.y (gv := vB) (fun _ => ?_) (fun _ => ?_)
                          · exact Run.x 0
                          · refine Run.q (e := vB) (gv := vB) (ok_impl_isConic _) fun r76 _ => ?_
                            refine Run.y (gv := vB) (fun _ => ?_) (fun _ => ?_)
                            · refine Run.z [true, true, true, true, true, true, true] ?_
                              exact Run.x 0
                            · refine Run.z [false, false, false, false, false] ?_
                              refine Run.q (e := vI) (gv := vB) (ok_impl_abs _) fun r77 _ => ?_
                              refine Run.z [false, false] ?_
                              exact Run.x 0
                        · refine Run.z [false, false, false, false, false, false] ?_
                          refine Run.q (e := vB) (gv := vB) (ok_impl_isConic _) fun r78 _ => ?_
                          refine Run.y (gv := vB) (fun _ => ?_) (fun _ => ?_)
                          · refine Run.z [true, true, true, true, true, true, true] ?_
                            exact Run.x 0
                          · refine Run.z [false, false, false, false, false] ?_
                            refine Run.q (e := vI) (gv := vB) (ok_impl_abs _) fun r79 _ => ?_
                            refine Run.z [false, false] ?_
                            exact Run.x 0
                  · refine Run.z [false, false, false, false, false, false] ?_
                    refine Run.y (gv := vB) (fun _ => ?_) (fun _ => ?_)
                    · refine Run.z [true, true, false, true, false] ?_
                      refine Run.y (gv := vB) (fun _ => ?_) (fun _ => ?_)
                      · refine Run.z [true, true, true, true, true, true, true] ?_
                        exact Run.x 0
                      · refine Run.z [false, false] ?_
                        refine Run.q (e := vB) (gv := vB) (ok_impl_isConic _) fun r80 _ => ?_
                        refine Run.z [false, false] ?_
                        refine Run.y (gv := vB) (fun _ => ?_) (fun _ => ?_)
                        · refine Run.z [true, true, false, true, false] ?_
                          refine Run.y (gv := vB) (fun _ => ?_) (fun _ => ?_)
                          · exact Run.x 0
                          · refine Run.q (e := vB) (gv := vB) (ok_impl_isConic _) fun r81 _ => ?_
                            refine Run.y (gv := vB) (fun _ => ?_) (fun _ => ?_)
                            · refine Run.z [true, true, true, true, true, true, true] ?_
                              exact Run.x 0
                            · refine Run.z [false, false, false, false, false] ?_
                              refine Run.q (e := vI) (gv := vB) (ok_impl_abs _) fun r82 _ => ?_
                              refine Run.z [false, false] ?_
                              exact Run.x 0
                        · refine Run.z [false, false, false, false, false, false] ?_
                          refine Run.q (e := vB) (gv := vB) (ok_impl_isConic _) fun r83 _ => ?_
                          refine Run.y (gv := vB) (fun _ => ?_) (fun _ => ?_)
                          · refine Run.z [true, true, true, true, true, true, true] ?_
                            exact Run.x 0
                          · refine Run.z [false, false, false, false, false] ?_
                            refine Run.q (e := vI) (gv := vB) (ok_impl_abs _) fun r84 _ => ?_
                            refine Run.z [false, false] ?_
                            exact Run.x 0
                    · refine Run.z [false, false, false, false, false, false, false, false] ?_
                      refine Run.q (e := vB) (gv := vB) (ok_impl_isConic _) fun r85 _ => ?_
                      refine Run.z [false, false] ?_
                      refine Run.y (gv := vB) (fun _ => ?_) (fun _ => ?_)
                      · refine Run.z [true, true, false, true, false] ?_
                        refine Run.y (gv := vB) (fun _ => ?_) (fun _ => ?_)
                        · exact Run.x 0
                        · refine Run.q (e := vB) (gv := vB) (ok_impl_isConic _) fun r86 _ => ?_
                          refine Run.y (gv := vB) (fun _ => ?_) (fun _ => ?_)
                          · refine Run.z [true, true, true, true, true, true, true] ?_
                            exact Run.x 0
                          · refine Run.z [false, false, false, false, false] ?_
                            refine Run.q (e := vI) (gv := vB) (ok_impl_abs _) fun r87 _ => ?_
                            refine Run.z [false, false] ?_
                            exact Run.x 0
                      · refine Run.z [false, false, false, false, false, false] ?_
                        refine Run.q (e := vB) (gv := vB) (ok_impl_isConic _) fun r88 _ => ?_
                        refine Run.y (gv := vB) (fun _ => ?_) (fun _ => ?_)
                        · refine Run.z [true, true, true, true, true, true, true] ?_
                          exact Run.x 0
                        · refine Run.z [false, false, false, false, false] ?_
                          refine Run.q (e := vI) (gv := vB) (ok_impl_abs _) fun r89 _ => ?_
                          refine Run.z [false, false] ?_
                          exact Run.x 0

theorem ok_impl_isTransverse (a0 : Pj) : Fun Tryz.prog 51 [] #[vPj a0] (vB (F_impl_isTransverse a0)) [] := by
  refine Fun.ofH 400 E_ok mixed Tryz.func51 (by kernel_rfl) (by kernel_rfl) ?_
  unfold F_impl_isTransverse
  refine Run.q (e := vB) (gv := vB) (ok_impl_ValidProjection _) fun r1 _ => ?_
  refine Run.y (gv := vB) (fun _ => ?_) (fun _ => ?_)
  · refine Run.z [true, true, true] ?_
    exact Run.x 0
  · refine Run.z [false, false, false] ?_
    exact Run.x 0

theorem ok_impl_WrapLon (a0 : I64) : Fun Tryz.prog 53 [] #[vI a0] (vI (F_impl_WrapLon a0)) [] := by
  refine Fun.ofH 400 E_ok mixed Tryz.func53 (by kernel_rfl) (by kernel_rfl) ?_
  unfold F_impl_WrapLon
  refine Run.z [true] ?_
  refine Run.y (gv := vI) (fun _ => ?_) (fun _ => ?_)
  · exact Run.x 0
  · refine Run.y (gv := vI) (fun _ => ?_) (fun _ => ?_)
    · exact Run.x 0
    · exact Run.x 0

theorem ok_impl_Whole : Fun Tryz.prog 60 [] #[] (vIv (F_impl_Whole)) [] := by
  refine Fun.ofH 400 E_ok mixed Tryz.func60 (by kernel_rfl) (by kernel_rfl) ?_
  unfold F_impl_Whole
  exact Run.x 0

theorem ok_impl_ValidInterval (a0 : Iv) : Fun Tryz.prog 92 [] #[vIv a0] (vB (F_impl_ValidInterval a0)) [] := by
  refine Fun.ofH 400 E_ok mixed Tryz.func92 (by kernel_rfl) (by kernel_rfl) ?_
  unfold F_impl_ValidInterval
  refine Run.y (gv := vB) (fun _ => ?_) (fun _ => ?_)
  · refine Run.z [true, true, true, true, true] ?_
    refine Run.y (gv := vB) (fun _ => ?_) (fun _ => ?_)
    · refine Run.z [true, true, true] ?_
      exact Run.x 0
    · refine Run.z [false, false, false] ?_
      exact Run.x 0
  · refine Run.z [false, false, false, false, false, false, false, false, false] ?_
    exact Run.x 0

theorem ok_impl_IsWhole (a0 : Iv) : Fun Tryz.prog 93 [] #[vIv a0] (vB (F_impl_IsWhole a0)) [] := by
  refine Fun.ofH 400 E_ok mixed Tryz.func93 (by kernel_rfl) (by kernel_rfl) ?_
  unfold F_impl_IsWhole
  refine Run.q (e := vB) (gv := vB) (ok_impl_ValidInterval _) fun r1 _ => ?_
  exact Run.x 0

theorem ok_impl_NegI (a0 : Iv) : Fun Tryz.prog 66 [] #[vIv a0] (vIv (F_impl_NegI a0)) [] := by
  refine Fun.ofH 400 E_ok mixed Tryz.func66 (by kernel_rfl) (by kernel_rfl) ?_
  unfold F_impl_NegI
  refine Run.q (e := vB) (gv := vIv) (ok_impl_IsWhole _) fun r1 _ => ?_
  refine Run.y (gv := vIv) (fun _ => ?_) (fun _ => ?_)
  · refine Run.q (e := vIv) (gv := vIv) (ok_impl_Whole) fun r2 _ => ?_
    exact Run.x 0
  · exact Run.x 0

theorem ok_impl_WideMul (a0 : I64) (a1 : I64) : Fun Tryz.prog 111 [] #[vI a0, vI a1] (vWd (F_impl_WideMul a0 a1)) [] := by
  refine Fun.ofH 400 E_ok mixed Tryz.func111 (by kernel_rfl) (by kernel_rfl) ?_
  unfold F_impl_WideMul
  refine Run.q (e := vT_U_U) (gv := vWd) (ok_bits_Mul64 _ _) fun r1 _ => ?_
  refine Run.y (gv := vWd) (fun _ => ?_) (fun _ => ?_)
  · refine Run.y (gv := vWd) (fun _ => ?_) (fun _ => ?_)
    · exact Run.x 0
    · exact Run.x 0
  · refine Run.y (gv := vWd) (fun _ => ?_) (fun _ => ?_)
    · exact Run.x 0
    · exact Run.x 0

theorem ok_impl_divided (a0 : U64) (a1 : U64) (a2 : U64) (p0 : a2.val ≠ 0) : Fun Tryz.prog 152 [] #[vU a0, vU a1, vU a2] (vT_U_U_U (F_impl_divided a0 a1 a2)) [] := by
  refine Fun.ofH 400 E_ok mixed Tryz.func152 (by kernel_rfl) (by kernel_rfl) ?_
  unfold F_impl_divided
  refine Run.k (c := (decide (a2.val ≠ 0))) (by kernel_rfl) (by first | exact decide_eq_true p0 | exact imod_lt _ _ p0) ?_
  refine Run.k (c := (decide (a2.val ≠ 0))) (by kernel_rfl) (by first | exact decide_eq_true p0 | exact imod_lt _ _ p0) ?_
  refine Run.q (e := vT_U_U) (gv := vT_U_U_U) (ok_bits_Div64 _ _ _ (by first | exact decide_eq_true p0 | exact imod_lt _ _ p0)) fun r1 hr1 => ?_
  exact Run.x 0

theorem ok_impl_Wide_negative (a0 : Wd) : Fun Tryz.prog 153 [] #[vWd a0] (vWd (F_impl_Wide_negative a0)) [] := by
  refine Fun.ofH 400 E_ok mixed Tryz.func153 (by kernel_rfl) (by kernel_rfl) ?_
  unfold F_impl_Wide_negative
  refine Run.k (c := (decide (0 ≤ (0 : Int)) && (decide (0 ≤ (a0.lo.val : Int)) && (decide ((a0.lo.val : Int) ≤ 18446744073709551615) && (decide (0 ≤ (0 : Int)) && decide ((0 : Int) ≤ 1)))))) (by kernel_rfl) (by simp only [Bool.and_eq_true, decide_eq_true_eq]; exact ⟨U64.lo (cu64 0), U64.lo a0.lo, U64.hi a0.lo, U64.lo (cu64 0), (by decide)⟩) ?_
  refine Run.k (c := (decide (0 ≤ (0 : Int)) && (decide (0 ≤ ((wu64 a0.hi.val).val : Int)) && (decide (((wu64 a0.hi.val).val : Int) ≤ 18446744073709551615) && (decide (0 ≤ ((sbb_hi (cu64 0) a0.lo (cu64 0)).val : Int)) && decide (((sbb_hi (cu64 0) a0.lo (cu64 0)).val : Int) ≤ 1)))))) (by kernel_rfl) (by simp only [Bool.and_eq_true, decide_eq_true_eq]; exact ⟨U64.lo (cu64 0), U64.lo (wu64 a0.hi.val), U64.hi (wu64 a0.hi.val), U64.lo (sbb_hi (cu64 0) a0.lo (cu64 0)), (sbb_hi_le _ _ _)⟩) ?_
  exact Run.x 0

theorem ok_impl_WideDiv (a0 : Wd) (a1 : I64) : Fun Tryz.prog 110 [] #[vWd a0, vI a1] (vT_Wd_I_B (F_impl_WideDiv a0 a1)) [] := by
  refine Fun.ofH 400 E_ok mixed Tryz.func110 (by kernel_rfl) (by kernel_rfl) ?_
  unfold F_impl_WideDiv
  refine Run.y (gv := vT_Wd_I_B) (fun h1 => ?_) (fun h1 => ?_)
  · exact Run.x 0
  · refine Run.y (gv := vT_Wd_I_B) (fun h2 => ?_) (fun h2 => ?_)
    · refine Run.q (e := vT_U_U_U) (gv := vT_Wd_I_B) (ok_impl_divided _ _ _ (by have q := a1.hi; simp only [wu64_val, decide_eq_true_eq, decide_eq_false_iff_not] at *; omega)) fun r3 hr3 => ?_
      exact Run.x 0
    · refine Run.q (e := vWd) (gv := vT_Wd_I_B) (ok_impl_Wide_negative _) fun r4 hr4 => ?_
      refine Run.q (e := vT_U_U_U) (gv := vT_Wd_I_B) (ok_impl_divided _ _ _ (by have q := a1.hi; simp only [wu64_val, decide_eq_true_eq, decide_eq_false_iff_not] at *; omega)) fun r5 hr5 => ?_
      refine Run.y (gv := vT_Wd_I_B) (fun h6 => ?_) (fun h6 => ?_)
      · refine Run.q (e := vWd) (gv := vT_Wd_I_B) (ok_impl_Wide_negative _) fun r7 hr7 => ?_
        exact Run.x 0
      · refine Run.k (c := (decide (0 ≤ (r5.2.1.val : Int)) && (decide (0 ≤ (1 : Int)) && (decide (0 ≤ (0 : Int)) && decide ((0 : Int) ≤ 1))))) (by kernel_rfl) (by simp only [Bool.and_eq_true, decide_eq_true_eq]; exact ⟨U64.lo r5.2.1, U64.lo (cu64 1), U64.lo (cu64 0), (by decide)⟩) ?_
        refine Run.q (e := vWd) (gv := vT_Wd_I_B) (ok_impl_Wide_negative _) fun r8 hr8 => ?_
        exact Run.x 0

theorem ok_impl_WideOf (a0 : I64) : Fun Tryz.prog 156 [] #[vI a0] (vWd (F_impl_WideOf a0)) [] := by
  refine Fun.ofH 400 E_ok mixed Tryz.func156 (by kernel_rfl) (by kernel_rfl) ?_
  unfold F_impl_WideOf
  refine Run.z [true] ?_
  exact Run.x 0

theorem ok_impl_WideInt (a0 : Wd) : Fun Tryz.prog 112 [] #[vWd a0] (vT_I_B (F_impl_WideInt a0)) [] := by
  refine Fun.ofH 400 E_ok mixed Tryz.func112 (by kernel_rfl) (by kernel_rfl) ?_
  unfold F_impl_WideInt
  refine Run.q (e := vWd) (gv := vT_I_B) (ok_impl_WideOf _) fun r1 _ => ?_
  refine Run.y (gv := vT_I_B) (fun _ => ?_) (fun _ => ?_)
  · exact Run.x 0
  · exact Run.x 0

theorem ok_impl_MulDivFloor (a0 : I64) (a1 : I64) (a2 : I64) : Fun Tryz.prog 74 [] #[vI a0, vI a1, vI a2] (vT_I_B (F_impl_MulDivFloor a0 a1 a2)) [] := by
  refine Fun.ofH 400 E_ok mixed Tryz.func74 (by kernel_rfl) (by kernel_rfl) ?_
  unfold F_impl_MulDivFloor
  refine Run.q (e := vWd) (gv := vT_I_B) (ok_impl_WideMul _ _) fun r1 _ => ?_
  refine Run.q (e := vT_Wd_I_B) (gv := vT_I_B) (ok_impl_WideDiv _ _) fun r2 _ => ?_
  refine Run.y (gv := vT_I_B) (fun _ => ?_) (fun _ => ?_)
  · exact Run.x 0
  · refine Run.q (e := vT_I_B) (gv := vT_I_B) (ok_impl_WideInt _) fun r3 _ => ?_
    exact Run.x 0

theorem ok_impl_RadiansOf_r : ∀ (fu : Nat) (a0 : I64) (hm : min (0 - a0.val).toNat 1 < fu), Fun Tryz.prog 36 [] #[vI a0] (vIv (F_impl_RadiansOf_r fu a0)) [] := by
  intro fu
  induction fu with
  | zero => intro a0 hm; exact absurd hm (Nat.not_lt_zero _)
  | succ fu ih =>
    intro a0 hm
    refine Fun.ofH 400 E_ok mixed Tryz.func36 (by kernel_rfl) (by kernel_rfl) ?_
    unfold F_impl_RadiansOf_r
    refine Run.q (e := vB) (gv := vIv) (ok_impl_within _ _ _) fun r1 hr1 => ?_
    refine Run.y (gv := vIv) (fun h2 => ?_) (fun h2 => ?_)
    · refine Run.q (e := vIv) (gv := vIv) (ok_impl_Whole) fun r3 hr3 => ?_
      exact Run.x 0
    · refine Run.y (gv := vIv) (fun h4 => ?_) (fun h4 => ?_)
      · refine Run.q (e := vIv) (gv := vIv) (ih (w64 (0 - a0.val)) (by rw [hr1] at h2; simp [F_impl_within, c64_val] at h2; simp only [w64_val, decide_eq_true_eq, decide_eq_false_iff_not] at *; omega)) fun r5 hr5 => ?_
        refine Run.q (e := vIv) (gv := vIv) (ok_impl_NegI _) fun r6 hr6 => ?_
        exact Run.x 0
      · refine Run.y (gv := vIv) (fun h7 => ?_) (fun h7 => ?_)
        · exact Run.x 0
        · refine Run.q (e := vT_I_B) (gv := vIv) (ok_impl_MulDivFloor _ _ _) fun r8 hr8 => ?_
          refine Run.q (e := vT_I_B) (gv := vIv) (ok_impl_MulDivFloor _ _ _) fun r9 hr9 => ?_
          exact Run.x 0
theorem ok_impl_RadiansOf (a0 : I64) : Fun Tryz.prog 36 [] #[vI a0] (vIv (F_impl_RadiansOf a0)) [] := ok_impl_RadiansOf_r 2 a0 (by omega)

theorem ok_impl_LatOf (a0 : Pt) : Fun Tryz.prog 54 [] #[vPt a0] (vIv (F_impl_LatOf a0)) [] := by
  refine Fun.ofH 400 E_ok mixed Tryz.func54 (by kernel_rfl) (by kernel_rfl) ?_
  unfold F_impl_LatOf
  refine Run.q (e := vB) (gv := vIv) (ok_impl_ValidPoint _) fun r1 _ => ?_
  refine Run.y (gv := vIv) (fun _ => ?_) (fun _ => ?_)
  · refine Run.q (e := vIv) (gv := vIv) (ok_impl_Whole) fun r2 _ => ?_
    exact Run.x 0
  · refine Run.q (e := vIv) (gv := vIv) (ok_impl_RadiansOf _) fun r3 _ => ?_
    exact Run.x 0

theorem ok_impl_LonFrom (a0 : Pj) (a1 : Pt) : Fun Tryz.prog 55 [] #[vPj a0, vPt a1] (vIv (F_impl_LonFrom a0 a1)) [] := by
  refine Fun.ofH 400 E_ok mixed Tryz.func55 (by kernel_rfl) (by kernel_rfl) ?_
  unfold F_impl_LonFrom
  refine Run.q (e := vB) (gv := vIv) (ok_impl_ValidProjection _) fun r1 _ => ?_
  refine Run.y (gv := vIv) (fun _ => ?_) (fun _ => ?_)
  · refine Run.z [true, true, true, true] ?_
    refine Run.q (e := vIv) (gv := vIv) (ok_impl_Whole) fun r2 _ => ?_
    exact Run.x 0
  · refine Run.z [false] ?_
    refine Run.q (e := vB) (gv := vIv) (ok_impl_ValidPoint _) fun r3 _ => ?_
    refine Run.z [false, false] ?_
    refine Run.y (gv := vIv) (fun _ => ?_) (fun _ => ?_)
    · refine Run.q (e := vIv) (gv := vIv) (ok_impl_Whole) fun r4 _ => ?_
      exact Run.x 0
    · refine Run.q (e := vI) (gv := vIv) (ok_impl_WrapLon _) fun r5 _ => ?_
      refine Run.q (e := vIv) (gv := vIv) (ok_impl_RadiansOf _) fun r6 _ => ?_
      exact Run.x 0

theorem ok_impl_isAngle (a0 : I64) : Fun Tryz.prog 145 [] #[vI a0] (vB (F_impl_isAngle a0)) [] := by
  refine Fun.ofH 400 E_ok mixed Tryz.func145 (by kernel_rfl) (by kernel_rfl) ?_
  unfold F_impl_isAngle
  refine Run.q (e := vB) (gv := vB) (ok_impl_within _ _ _) fun r1 _ => ?_
  exact Run.x 0

theorem ok_impl_areAngles (a0 : Iv) : Fun Tryz.prog 102 [] #[vIv a0] (vB (F_impl_areAngles a0)) [] := by
  refine Fun.ofH 400 E_ok mixed Tryz.func102 (by kernel_rfl) (by kernel_rfl) ?_
  unfold F_impl_areAngles
  refine Run.q (e := vB) (gv := vB) (ok_impl_ValidInterval _) fun r1 _ => ?_
  refine Run.y (gv := vB) (fun _ => ?_) (fun _ => ?_)
  · refine Run.z [true, true] ?_
    refine Run.q (e := vB) (gv := vB) (ok_impl_isAngle _) fun r2 _ => ?_
    refine Run.z [true] ?_
    refine Run.y (gv := vB) (fun _ => ?_) (fun _ => ?_)
    · refine Run.z [true, true] ?_
      refine Run.q (e := vB) (gv := vB) (ok_impl_isAngle _) fun r3 _ => ?_
      refine Run.z [true] ?_
      exact Run.x 0
    · refine Run.z [false, false, false] ?_
      exact Run.x 0
  · refine Run.z [false, false, false, false, false, false, false] ?_
    exact Run.x 0

theorem ok_impl_ring : Fun Tryz.prog 103 [] #[] (vIv (F_impl_ring)) [] := by
  refine Fun.ofH 400 E_ok mixed Tryz.func103 (by kernel_rfl) (by kernel_rfl) ?_
  unfold F_impl_ring
  exact Run.x 0

theorem ok_impl_QuarterOf (a0 : I64) : Fun Tryz.prog 146 [] #[vI a0] (vI (F_impl_QuarterOf a0)) [] := by
  refine Fun.ofH 400 E_ok mixed Tryz.func146 (by kernel_rfl) (by kernel_rfl) ?_
  unfold F_impl_QuarterOf
  refine Run.q (e := vB) (gv := vI) (ok_impl_isAngle _) fun r1 _ => ?_
  refine Run.y (gv := vI) (fun _ => ?_) (fun _ => ?_)
  · exact Run.x 0
  · refine Run.z [true] ?_
    refine Run.y (gv := vI) (fun _ => ?_) (fun _ => ?_)
    · exact Run.x 0
    · exact Run.x 0

theorem ok_impl_at (a0 : I64) : Fun Tryz.prog 64 [] #[vI a0] (vIv (F_impl_at a0)) [] := by
  refine Fun.ofH 400 E_ok mixed Tryz.func64 (by kernel_rfl) (by kernel_rfl) ?_
  unfold F_impl_at
  exact Run.x 0

theorem ok_impl_WideShift (a0 : Wd) (a1 : I64) : Fun Tryz.prog 151 [] #[vWd a0, vI a1] (vWd (F_impl_WideShift a0 a1)) [] := by
  refine Fun.ofH 400 E_ok mixed Tryz.func151 (by kernel_rfl) (by kernel_rfl) ?_
  unfold F_impl_WideShift
  refine Run.q (e := vB) (gv := vWd) (ok_impl_within _ _ _) fun r1 hr1 => ?_
  refine Run.y (gv := vWd) (fun h2 => ?_) (fun h2 => ?_)
  · exact Run.x 0
  · refine Run.y (gv := vWd) (fun h3 => ?_) (fun h3 => ?_)
    · refine Run.z [true] ?_
      refine Run.k (c := (decide (0 ≤ (w64 (a1.val - 64)).val))) (by kernel_rfl) (by have q := a1.hi; rw [hr1] at h2; simp [F_impl_within, c64_val] at h2; simp only [w64_val, decide_eq_true_eq, decide_eq_false_iff_not] at *; omega) ?_
      exact Run.x 0
    · refine Run.k (c := (decide (0 ≤ a1.val))) (by kernel_rfl) (by have q := a1.hi; rw [hr1] at h2; simp [F_impl_within, c64_val] at h2; simp only [w64_val, decide_eq_true_eq, decide_eq_false_iff_not] at *; omega) ?_
      refine Run.k (c := (decide (0 ≤ a1.val))) (by kernel_rfl) (by have q := a1.hi; rw [hr1] at h2; simp [F_impl_within, c64_val] at h2; simp only [w64_val, decide_eq_true_eq, decide_eq_false_iff_not] at *; omega) ?_
      refine Run.k (c := (decide (0 ≤ (w64 (64 - a1.val)).val))) (by kernel_rfl) (by have q := a1.hi; rw [hr1] at h2; simp [F_impl_within, c64_val] at h2; simp only [w64_val, decide_eq_true_eq, decide_eq_false_iff_not] at *; omega) ?_
      exact Run.x 0

theorem ok_impl_MulFloor (a0 : I64) (a1 : I64) (a2 : I64) : Fun Tryz.prog 109 [] #[vI a0, vI a1, vI a2] (vT_I_B (F_impl_MulFloor a0 a1 a2)) [] := by
  refine Fun.ofH 400 E_ok mixed Tryz.func109 (by kernel_rfl) (by kernel_rfl) ?_
  unfold F_impl_MulFloor
  refine Run.q (e := vB) (gv := vT_I_B) (ok_impl_within _ _ _) fun r1 _ => ?_
  refine Run.y (gv := vT_I_B) (fun _ => ?_) (fun _ => ?_)
  · exact Run.x 0
  · refine Run.q (e := vWd) (gv := vT_I_B) (ok_impl_WideMul _ _) fun r2 _ => ?_
    refine Run.q (e := vWd) (gv := vT_I_B) (ok_impl_WideShift _ _) fun r3 _ => ?_
    refine Run.q (e := vT_I_B) (gv := vT_I_B) (ok_impl_WideInt _) fun r4 _ => ?_
    exact Run.x 0

theorem ok_impl_TurnI_r : ∀ (fu : Nat) (a0 : I64) (hm : min (0 - a0.val).toNat 1 < fu), Fun Tryz.prog 100 [] #[vI a0] (vIv (F_impl_TurnI_r fu a0)) [] := by
  intro fu
  induction fu with
  | zero => intro a0 hm; exact absurd hm (Nat.not_lt_zero _)
  | succ fu ih =>
    intro a0 hm
    refine Fun.ofH 400 E_ok mixed Tryz.func100 (by kernel_rfl) (by kernel_rfl) ?_
    unfold F_impl_TurnI_r
    refine Run.q (e := vB) (gv := vIv) (ok_impl_within _ _ _) fun r1 hr1 => ?_
    refine Run.y (gv := vIv) (fun h2 => ?_) (fun h2 => ?_)
    · refine Run.q (e := vIv) (gv := vIv) (ok_impl_Whole) fun r3 hr3 => ?_
      exact Run.x 0
    · refine Run.y (gv := vIv) (fun h4 => ?_) (fun h4 => ?_)
      · refine Run.q (e := vIv) (gv := vIv) (ih (w64 (0 - a0.val)) (by rw [hr1] at h2; simp [F_impl_within, c64_val] at h2; simp only [w64_val, decide_eq_true_eq, decide_eq_false_iff_not] at *; omega)) fun r5 hr5 => ?_
        refine Run.q (e := vIv) (gv := vIv) (ok_impl_NegI _) fun r6 hr6 => ?_
        exact Run.x 0
      · refine Run.y (gv := vIv) (fun h7 => ?_) (fun h7 => ?_)
        · exact Run.x 0
        · refine Run.q (e := vT_I_B) (gv := vIv) (ok_impl_MulFloor _ _ _) fun r8 hr8 => ?_
          exact Run.x 0
theorem ok_impl_TurnI (a0 : I64) : Fun Tryz.prog 100 [] #[vI a0] (vIv (F_impl_TurnI a0)) [] := ok_impl_TurnI_r 2 a0 (by omega)

theorem ok_impl_areBounded (a0 : Iv) (a1 : Iv) : Fun Tryz.prog 56 [] #[vIv a0, vIv a1] (vB (F_impl_areBounded a0 a1)) [] := by
  refine Fun.ofH 400 E_ok mixed Tryz.func56 (by kernel_rfl) (by kernel_rfl) ?_
  unfold F_impl_areBounded
  refine Run.q (e := vB) (gv := vB) (ok_impl_ValidInterval _) fun r1 _ => ?_
  refine Run.y (gv := vB) (fun _ => ?_) (fun _ => ?_)
  · refine Run.z [true] ?_
    refine Run.q (e := vB) (gv := vB) (ok_impl_ValidInterval _) fun r2 _ => ?_
    refine Run.z [true] ?_
    exact Run.x 0
  · refine Run.z [false, false] ?_
    exact Run.x 0

theorem ok_impl_bounded (a0 : I64) (a1 : I64) (a2 : Bool) : Fun Tryz.prog 94 [] #[vI a0, vI a1, vB a2] (vIv (F_impl_bounded a0 a1 a2)) [] := by
  refine Fun.ofH 400 E_ok mixed Tryz.func94 (by kernel_rfl) (by kernel_rfl) ?_
  unfold F_impl_bounded
  refine Run.y (gv := vIv) (fun _ => ?_) (fun _ => ?_)
  · refine Run.z [true] ?_
    refine Run.q (e := vB) (gv := vIv) (ok_impl_ValidInterval _) fun r1 _ => ?_
    refine Run.z [true] ?_
    refine Run.y (gv := vIv) (fun _ => ?_) (fun _ => ?_)
    · exact Run.x 0
    · refine Run.q (e := vIv) (gv := vIv) (ok_impl_Whole) fun r2 _ => ?_
      exact Run.x 0
  · refine Run.z [false, false, false] ?_
    refine Run.q (e := vIv) (gv := vIv) (ok_impl_Whole) fun r3 _ => ?_
    exact Run.x 0

theorem ok_impl_AddI (a0 : Iv) (a1 : Iv) : Fun Tryz.prog 65 [] #[vIv a0, vIv a1] (vIv (F_impl_AddI a0 a1)) [] := by
  refine Fun.ofH 400 E_ok mixed Tryz.func65 (by kernel_rfl) (by kernel_rfl) ?_
  unfold F_impl_AddI
  refine Run.q (e := vB) (gv := vIv) (ok_impl_areBounded _ _) fun r1 _ => ?_
  refine Run.y (gv := vIv) (fun _ => ?_) (fun _ => ?_)
  · refine Run.q (e := vIv) (gv := vIv) (ok_impl_Whole) fun r2 _ => ?_
    exact Run.x 0
  · refine Run.q (e := vIv) (gv := vIv) (ok_impl_bounded _ _ _) fun r3 _ => ?_
    exact Run.x 0

theorem ok_impl_SubI (a0 : Iv) (a1 : Iv) : Fun Tryz.prog 31 [] #[vIv a0, vIv a1] (vIv (F_impl_SubI a0 a1)) [] := by
  refine Fun.ofH 400 E_ok mixed Tryz.func31 (by kernel_rfl) (by kernel_rfl) ?_
  unfold F_impl_SubI
  refine Run.q (e := vIv) (gv := vIv) (ok_impl_NegI _) fun r1 _ => ?_
  refine Run.q (e := vIv) (gv := vIv) (ok_impl_AddI _ _) fun r2 _ => ?_
  exact Run.x 0

theorem ok_impl_InsideI (a0 : Iv) (a1 : Iv) : Fun Tryz.prog 182 [] #[vIv a0, vIv a1] (vB (F_impl_InsideI a0 a1)) [] := by
  refine Fun.ofH 400 E_ok mixed Tryz.func182 (by kernel_rfl) (by kernel_rfl) ?_
  unfold F_impl_InsideI
  refine Run.q (e := vB) (gv := vB) (ok_impl_IsWhole _) fun r1 _ => ?_
  refine Run.y (gv := vB) (fun _ => ?_) (fun _ => ?_)
  · refine Run.z [true, true, true] ?_
    refine Run.q (e := vB) (gv := vB) (ok_impl_IsWhole _) fun r2 _ => ?_
    exact Run.x 0
  · refine Run.z [false] ?_
    refine Run.q (e := vB) (gv := vB) (ok_impl_IsWhole _) fun r3 _ => ?_
    refine Run.z [false] ?_
    refine Run.y (gv := vB) (fun _ => ?_) (fun _ => ?_)
    · refine Run.q (e := vB) (gv := vB) (ok_impl_IsWhole _) fun r4 _ => ?_
      exact Run.x 0
    · refine Run.y (gv := vB) (fun _ => ?_) (fun _ => ?_)
      · refine Run.z [true, true, true, true, true] ?_
        exact Run.x 0
      · refine Run.z [false, false, false, false, false] ?_
        exact Run.x 0

theorem ok_impl_HasI (a0 : Iv) (a1 : I64) : Fun Tryz.prog 67 [] #[vIv a0, vI a1] (vB (F_impl_HasI a0 a1)) [] := by
  refine Fun.ofH 400 E_ok mixed Tryz.func67 (by kernel_rfl) (by kernel_rfl) ?_
  unfold F_impl_HasI
  refine Run.q (e := vB) (gv := vB) (ok_impl_IsWhole _) fun r1 _ => ?_
  refine Run.y (gv := vB) (fun _ => ?_) (fun _ => ?_)
  · refine Run.z [true, true, true, true, true, true] ?_
    exact Run.x 0
  · refine Run.z [false, false, false, false, false] ?_
    refine Run.q (e := vB) (gv := vB) (ok_impl_within _ _ _) fun r2 _ => ?_
    refine Run.z [false] ?_
    exact Run.x 0

theorem ok_impl_AbsI (a0 : Iv) : Fun Tryz.prog 177 [] #[vIv a0] (vIv (F_impl_AbsI a0)) [] := by
  refine Fun.ofH 400 E_ok mixed Tryz.func177 (by kernel_rfl) (by kernel_rfl) ?_
  unfold F_impl_AbsI
  refine Run.q (e := vB) (gv := vIv) (ok_impl_IsWhole _) fun r1 _ => ?_
  refine Run.y (gv := vIv) (fun _ => ?_) (fun _ => ?_)
  · refine Run.q (e := vIv) (gv := vIv) (ok_impl_Whole) fun r2 _ => ?_
    exact Run.x 0
  · refine Run.q (e := vI) (gv := vIv) (ok_impl_abs _) fun r3 _ => ?_
    refine Run.q (e := vI) (gv := vIv) (ok_impl_abs _) fun r4 _ => ?_
    refine Run.q (e := vI) (gv := vIv) (ok_impl_abs _) fun r5 _ => ?_
    refine Run.q (e := vI) (gv := vIv) (ok_impl_abs _) fun r6 _ => ?_
    refine Run.q (e := vB) (gv := vIv) (ok_impl_HasI _ _) fun r7 _ => ?_
    refine Run.y (gv := vIv) (fun _ => ?_) (fun _ => ?_)
    · exact Run.x 0
    · exact Run.x 0

theorem ok_impl_ValidFix (a0 : I64) : Fun Tryz.prog 107 [] #[vI a0] (vB (F_impl_ValidFix a0)) [] := by
  refine Fun.ofH 400 E_ok mixed Tryz.func107 (by kernel_rfl) (by kernel_rfl) ?_
  unfold F_impl_ValidFix
  refine Run.q (e := vB) (gv := vB) (ok_impl_within _ _ _) fun r1 _ => ?_
  exact Run.x 0

theorem ok_impl_fixed (a0 : I64) (a1 : Bool) : Fun Tryz.prog 108 [] #[vI a0, vB a1] (vT_I_B (F_impl_fixed a0 a1)) [] := by
  refine Fun.ofH 400 E_ok mixed Tryz.func108 (by kernel_rfl) (by kernel_rfl) ?_
  unfold F_impl_fixed
  refine Run.y (gv := vT_I_B) (fun _ => ?_) (fun _ => ?_)
  · refine Run.z [true, true, true, true] ?_
    exact Run.x 0
  · refine Run.z [false] ?_
    refine Run.q (e := vB) (gv := vT_I_B) (ok_impl_ValidFix _) fun r1 _ => ?_
    refine Run.z [false, false] ?_
    refine Run.y (gv := vT_I_B) (fun _ => ?_) (fun _ => ?_)
    · exact Run.x 0
    · exact Run.x 0

theorem ok_impl_MulDown (a0 : I64) (a1 : I64) : Fun Tryz.prog 72 [] #[vI a0, vI a1] (vT_I_B (F_impl_MulDown a0 a1)) [] := by
  refine Fun.ofH 400 E_ok mixed Tryz.func72 (by kernel_rfl) (by kernel_rfl) ?_
  unfold F_impl_MulDown
  refine Run.q (e := vB) (gv := vT_I_B) (ok_impl_ValidFix _) fun r1 _ => ?_
  refine Run.y (gv := vT_I_B) (fun _ => ?_) (fun _ => ?_)
  · refine Run.z [true, true, true, true] ?_
    exact Run.x 0
  · refine Run.z [false] ?_
    refine Run.q (e := vB) (gv := vT_I_B) (ok_impl_ValidFix _) fun r2 _ => ?_
    refine Run.z [false, false] ?_
    refine Run.y (gv := vT_I_B) (fun _ => ?_) (fun _ => ?_)
    · exact Run.x 0
    · refine Run.q (e := vT_I_B) (gv := vT_I_B) (ok_impl_MulFloor _ _ _) fun r3 _ => ?_
      refine Run.q (e := vT_I_B) (gv := vT_I_B) (ok_impl_fixed _ _) fun r4 _ => ?_
      exact Run.x 0

theorem ok_impl_MulUp (a0 : I64) (a1 : I64) : Fun Tryz.prog 73 [] #[vI a0, vI a1] (vT_I_B (F_impl_MulUp a0 a1)) [] := by
  refine Fun.ofH 400 E_ok mixed Tryz.func73 (by kernel_rfl) (by kernel_rfl) ?_
  unfold F_impl_MulUp
  refine Run.q (e := vB) (gv := vT_I_B) (ok_impl_ValidFix _) fun r1 _ => ?_
  refine Run.y (gv := vT_I_B) (fun _ => ?_) (fun _ => ?_)
  · refine Run.z [true, true, true, true] ?_
    exact Run.x 0
  · refine Run.z [false] ?_
    refine Run.q (e := vB) (gv := vT_I_B) (ok_impl_ValidFix _) fun r2 _ => ?_
    refine Run.z [false, false] ?_
    refine Run.y (gv := vT_I_B) (fun _ => ?_) (fun _ => ?_)
    · exact Run.x 0
    · refine Run.q (e := vT_I_B) (gv := vT_I_B) (ok_impl_MulDown _ _) fun r3 _ => ?_
      exact Run.x 0

theorem ok_impl_SqrI (a0 : Iv) : Fun Tryz.prog 139 [] #[vIv a0] (vIv (F_impl_SqrI a0)) [] := by
  refine Fun.ofH 400 E_ok mixed Tryz.func139 (by kernel_rfl) (by kernel_rfl) ?_
  unfold F_impl_SqrI
  refine Run.q (e := vB) (gv := vIv) (ok_impl_IsWhole _) fun r1 _ => ?_
  refine Run.y (gv := vIv) (fun _ => ?_) (fun _ => ?_)
  · refine Run.q (e := vIv) (gv := vIv) (ok_impl_Whole) fun r2 _ => ?_
    exact Run.x 0
  · refine Run.q (e := vIv) (gv := vIv) (ok_impl_AbsI _) fun r3 _ => ?_
    refine Run.q (e := vT_I_B) (gv := vIv) (ok_impl_MulDown _ _) fun r4 _ => ?_
    refine Run.q (e := vT_I_B) (gv := vIv) (ok_impl_MulUp _ _) fun r5 _ => ?_
    refine Run.y (gv := vIv) (fun _ => ?_) (fun _ => ?_)
    · refine Run.z [true] ?_
      refine Run.q (e := vIv) (gv := vIv) (ok_impl_bounded _ _ _) fun r6 _ => ?_
      exact Run.x 0
    · refine Run.z [false] ?_
      refine Run.q (e := vIv) (gv := vIv) (ok_impl_bounded _ _ _) fun r7 _ => ?_
      exact Run.x 0

theorem ok_impl_Integer (a0 : I64) : Fun Tryz.prog 106 [] #[vI a0] (vIv (F_impl_Integer a0)) [] := by
  refine Fun.ofH 400 E_ok mixed Tryz.func106 (by kernel_rfl) (by kernel_rfl) ?_
  unfold F_impl_Integer
  refine Run.q (e := vB) (gv := vIv) (ok_impl_within _ _ _) fun r1 _ => ?_
  refine Run.y (gv := vIv) (fun _ => ?_) (fun _ => ?_)
  · refine Run.q (e := vIv) (gv := vIv) (ok_impl_Whole) fun r2 _ => ?_
    exact Run.x 0
  · refine Run.q (e := vIv) (gv := vIv) (ok_impl_bounded _ _ _) fun r3 _ => ?_
    exact Run.x 0

theorem ok_impl_DivDown (a0 : I64) (a1 : I64) : Fun Tryz.prog 97 [] #[vI a0, vI a1] (vT_I_B (F_impl_DivDown a0 a1)) [] := by
  refine Fun.ofH 400 E_ok mixed Tryz.func97 (by kernel_rfl) (by kernel_rfl) ?_
  unfold F_impl_DivDown
  refine Run.q (e := vB) (gv := vT_I_B) (ok_impl_ValidFix _) fun r1 _ => ?_
  refine Run.y (gv := vT_I_B) (fun _ => ?_) (fun _ => ?_)
  · refine Run.z [true, true, true, true] ?_
    exact Run.x 0
  · refine Run.z [false] ?_
    refine Run.q (e := vB) (gv := vT_I_B) (ok_impl_ValidFix _) fun r2 _ => ?_
    refine Run.z [false, false] ?_
    refine Run.y (gv := vT_I_B) (fun _ => ?_) (fun _ => ?_)
    · exact Run.x 0
    · refine Run.y (gv := vT_I_B) (fun _ => ?_) (fun _ => ?_)
      · refine Run.q (e := vT_I_B) (gv := vT_I_B) (ok_impl_MulDivFloor _ _ _) fun r3 _ => ?_
        refine Run.q (e := vT_I_B) (gv := vT_I_B) (ok_impl_fixed _ _) fun r4 _ => ?_
        exact Run.x 0
      · refine Run.q (e := vT_I_B) (gv := vT_I_B) (ok_impl_MulDivFloor _ _ _) fun r5 _ => ?_
        refine Run.q (e := vT_I_B) (gv := vT_I_B) (ok_impl_fixed _ _) fun r6 _ => ?_
        exact Run.x 0

theorem ok_impl_DivUp (a0 : I64) (a1 : I64) : Fun Tryz.prog 98 [] #[vI a0, vI a1] (vT_I_B (F_impl_DivUp a0 a1)) [] := by
  refine Fun.ofH 400 E_ok mixed Tryz.func98 (by kernel_rfl) (by kernel_rfl) ?_
  unfold F_impl_DivUp
  refine Run.q (e := vB) (gv := vT_I_B) (ok_impl_ValidFix _) fun r1 _ => ?_
  refine Run.y (gv := vT_I_B) (fun _ => ?_) (fun _ => ?_)
  · refine Run.z [true, true, true, true] ?_
    exact Run.x 0
  · refine Run.z [false] ?_
    refine Run.q (e := vB) (gv := vT_I_B) (ok_impl_ValidFix _) fun r2 _ => ?_
    refine Run.z [false, false] ?_
    refine Run.y (gv := vT_I_B) (fun _ => ?_) (fun _ => ?_)
    · exact Run.x 0
    · refine Run.q (e := vT_I_B) (gv := vT_I_B) (ok_impl_DivDown _ _) fun r3 _ => ?_
      exact Run.x 0

theorem ok_impl_combine__impl_DivDown__impl_DivUp (a0 : Iv) (a1 : Iv) : Fun Tryz.prog 71 [] #[vIv a0, vIv a1, .func (.func 97) #[] #[], .func (.func 98) #[] #[]] (vIv (F_impl_combine__impl_DivDown__impl_DivUp a0 a1)) [] := by
  refine Fun.ofH 400 E_ok mixed Tryz.func71 (by kernel_rfl) (by kernel_rfl) ?_
  unfold F_impl_combine__impl_DivDown__impl_DivUp
  refine Run.u 400 E_ok mixed Tryz.func71 ?_
  refine Run.z [true] ?_
  refine Run.u 400 E_ok mixed Tryz.func71 ?_
  refine Run.z [true] ?_
  refine Run.q (e := vT_I_B) (gv := vIv) (ok_impl_DivDown _ _) fun r1 _ => ?_
  refine Run.q (e := vT_I_B) (gv := vIv) (ok_impl_DivUp _ _) fun r2 _ => ?_
  refine Run.y (gv := vIv) (fun _ => ?_) (fun _ => ?_)
  · refine Run.z [true, true, true] ?_
    refine Run.q (e := vIv) (gv := vIv) (ok_impl_Whole) fun r3 _ => ?_
    exact Run.x 0
  · refine Run.z [false, false] ?_
    refine Run.y (gv := vIv) (fun _ => ?_) (fun _ => ?_)
    · refine Run.q (e := vIv) (gv := vIv) (ok_impl_Whole) fun r4 _ => ?_
      exact Run.x 0
    · refine Run.z [true] ?_
      refine Run.u 400 E_ok mixed Tryz.func71 ?_
      refine Run.z [true] ?_
      refine Run.q (e := vT_I_B) (gv := vIv) (ok_impl_DivDown _ _) fun r5 _ => ?_
      refine Run.q (e := vT_I_B) (gv := vIv) (ok_impl_DivUp _ _) fun r6 _ => ?_
      refine Run.y (gv := vIv) (fun _ => ?_) (fun _ => ?_)
      · refine Run.z [true, true, true] ?_
        refine Run.q (e := vIv) (gv := vIv) (ok_impl_Whole) fun r7 _ => ?_
        exact Run.x 0
      · refine Run.z [false, false] ?_
        refine Run.y (gv := vIv) (fun _ => ?_) (fun _ => ?_)
        · refine Run.q (e := vIv) (gv := vIv) (ok_impl_Whole) fun r8 _ => ?_
          exact Run.x 0
        · refine Run.z [false] ?_
          refine Run.u 400 E_ok mixed Tryz.func71 ?_
          refine Run.z [false] ?_
          refine Run.u 400 E_ok mixed Tryz.func71 ?_
          refine Run.z [true] ?_
          refine Run.u 400 E_ok mixed Tryz.func71 ?_
          refine Run.z [true] ?_
          refine Run.q (e := vT_I_B) (gv := vIv) (ok_impl_DivDown _ _) fun r9 _ => ?_
          refine Run.q (e := vT_I_B) (gv := vIv) (ok_impl_DivUp _ _) fun r10 _ => ?_
          refine Run.y (gv := vIv) (fun _ => ?_) (fun _ => ?_)
          · refine Run.z [true, true, true] ?_
            refine Run.q (e := vIv) (gv := vIv) (ok_impl_Whole) fun r11 _ => ?_
            exact Run.x 0
          · refine Run.z [false, false] ?_
            refine Run.y (gv := vIv) (fun _ => ?_) (fun _ => ?_)
            · refine Run.q (e := vIv) (gv := vIv) (ok_impl_Whole) fun r12 _ => ?_
              exact Run.x 0
            · refine Run.z [false] ?_
              refine Run.u 400 E_ok mixed Tryz.func71 ?_
              refine Run.z [true] ?_
              refine Run.q (e := vT_I_B) (gv := vIv) (ok_impl_DivDown _ _) fun r13 _ => ?_
              refine Run.q (e := vT_I_B) (gv := vIv) (ok_impl_DivUp _ _) fun r14 _ => ?_
              refine Run.y (gv := vIv) (fun _ => ?_) (fun _ => ?_)
              · refine Run.z [true, true, true] ?_
                refine Run.q (e := vIv) (gv := vIv) (ok_impl_Whole) fun r15 _ => ?_
                exact Run.x 0
              · refine Run.z [false, false] ?_
                refine Run.y (gv := vIv) (fun _ => ?_) (fun _ => ?_)
                · refine Run.q (e := vIv) (gv := vIv) (ok_impl_Whole) fun r16 _ => ?_
                  exact Run.x 0
                · refine Run.z [false] ?_
                  refine Run.u 400 E_ok mixed Tryz.func71 ?_
                  refine Run.z [false] ?_
                  refine Run.u 400 E_ok mixed Tryz.func71 ?_
                  refine Run.z [false] ?_
                  refine Run.q (e := vIv) (gv := vIv) (ok_impl_bounded _ _ _) fun r17 _ => ?_
                  exact Run.x 0

theorem ok_impl_DivI (a0 : Iv) (a1 : Iv) : Fun Tryz.prog 63 [] #[vIv a0, vIv a1] (vIv (F_impl_DivI a0 a1)) [] := by
  refine Fun.ofH 400 E_ok mixed Tryz.func63 (by kernel_rfl) (by kernel_rfl) ?_
  unfold F_impl_DivI
  refine Run.q (e := vB) (gv := vIv) (ok_impl_areBounded _ _) fun r1 _ => ?_
  refine Run.y (gv := vIv) (fun _ => ?_) (fun _ => ?_)
  · refine Run.z [true, true, true] ?_
    refine Run.q (e := vIv) (gv := vIv) (ok_impl_Whole) fun r2 _ => ?_
    exact Run.x 0
  · refine Run.z [false] ?_
    refine Run.q (e := vB) (gv := vIv) (ok_impl_HasI _ _) fun r3 _ => ?_
    refine Run.z [false] ?_
    refine Run.y (gv := vIv) (fun _ => ?_) (fun _ => ?_)
    · refine Run.q (e := vIv) (gv := vIv) (ok_impl_Whole) fun r4 _ => ?_
      exact Run.x 0
    · refine Run.q (e := vIv) (gv := vIv) (ok_impl_combine__impl_DivDown__impl_DivUp _ _) fun r5 _ => ?_
      exact Run.x 0

theorem ok_impl_combine__impl_MulDown__impl_MulUp (a0 : Iv) (a1 : Iv) : Fun Tryz.prog 71 [] #[vIv a0, vIv a1, .func (.func 72) #[] #[], .func (.func 73) #[] #[]] (vIv (F_impl_combine__impl_MulDown__impl_MulUp a0 a1)) [] := by
  refine Fun.ofH 400 E_ok mixed Tryz.func71 (by kernel_rfl) (by kernel_rfl) ?_
  unfold F_impl_combine__impl_MulDown__impl_MulUp
  refine Run.u 400 E_ok mixed Tryz.func71 ?_
  refine Run.z [true] ?_
  refine Run.u 400 E_ok mixed Tryz.func71 ?_
  refine Run.z [true] ?_
  refine Run.q (e := vT_I_B) (gv := vIv) (ok_impl_MulDown _ _) fun r1 _ => ?_
  refine Run.q (e := vT_I_B) (gv := vIv) (ok_impl_MulUp _ _) fun r2 _ => ?_
  refine Run.y (gv := vIv) (fun _ => ?_) (fun _ => ?_)
  · refine Run.z [true, true, true] ?_
    refine Run.q (e := vIv) (gv := vIv) (ok_impl_Whole) fun r3 _ => ?_
    exact Run.x 0
  · refine Run.z [false, false] ?_
    refine Run.y (gv := vIv) (fun _ => ?_) (fun _ => ?_)
    · refine Run.q (e := vIv) (gv := vIv) (ok_impl_Whole) fun r4 _ => ?_
      exact Run.x 0
    · refine Run.z [true] ?_
      refine Run.u 400 E_ok mixed Tryz.func71 ?_
      refine Run.z [true] ?_
      refine Run.q (e := vT_I_B) (gv := vIv) (ok_impl_MulDown _ _) fun r5 _ => ?_
      refine Run.q (e := vT_I_B) (gv := vIv) (ok_impl_MulUp _ _) fun r6 _ => ?_
      refine Run.y (gv := vIv) (fun _ => ?_) (fun _ => ?_)
      · refine Run.z [true, true, true] ?_
        refine Run.q (e := vIv) (gv := vIv) (ok_impl_Whole) fun r7 _ => ?_
        exact Run.x 0
      · refine Run.z [false, false] ?_
        refine Run.y (gv := vIv) (fun _ => ?_) (fun _ => ?_)
        · refine Run.q (e := vIv) (gv := vIv) (ok_impl_Whole) fun r8 _ => ?_
          exact Run.x 0
        · refine Run.z [false] ?_
          refine Run.u 400 E_ok mixed Tryz.func71 ?_
          refine Run.z [false] ?_
          refine Run.u 400 E_ok mixed Tryz.func71 ?_
          refine Run.z [true] ?_
          refine Run.u 400 E_ok mixed Tryz.func71 ?_
          refine Run.z [true] ?_
          refine Run.q (e := vT_I_B) (gv := vIv) (ok_impl_MulDown _ _) fun r9 _ => ?_
          refine Run.q (e := vT_I_B) (gv := vIv) (ok_impl_MulUp _ _) fun r10 _ => ?_
          refine Run.y (gv := vIv) (fun _ => ?_) (fun _ => ?_)
          · refine Run.z [true, true, true] ?_
            refine Run.q (e := vIv) (gv := vIv) (ok_impl_Whole) fun r11 _ => ?_
            exact Run.x 0
          · refine Run.z [false, false] ?_
            refine Run.y (gv := vIv) (fun _ => ?_) (fun _ => ?_)
            · refine Run.q (e := vIv) (gv := vIv) (ok_impl_Whole) fun r12 _ => ?_
              exact Run.x 0
            · refine Run.z [false] ?_
              refine Run.u 400 E_ok mixed Tryz.func71 ?_
              refine Run.z [true] ?_
              refine Run.q (e := vT_I_B) (gv := vIv) (ok_impl_MulDown _ _) fun r13 _ => ?_
              refine Run.q (e := vT_I_B) (gv := vIv) (ok_impl_MulUp _ _) fun r14 _ => ?_
              refine Run.y (gv := vIv) (fun _ => ?_) (fun _ => ?_)
              · refine Run.z [true, true, true] ?_
                refine Run.q (e := vIv) (gv := vIv) (ok_impl_Whole) fun r15 _ => ?_
                exact Run.x 0
              · refine Run.z [false, false] ?_
                refine Run.y (gv := vIv) (fun _ => ?_) (fun _ => ?_)
                · refine Run.q (e := vIv) (gv := vIv) (ok_impl_Whole) fun r16 _ => ?_
                  exact Run.x 0
                · refine Run.z [false] ?_
                  refine Run.u 400 E_ok mixed Tryz.func71 ?_
                  refine Run.z [false] ?_
                  refine Run.u 400 E_ok mixed Tryz.func71 ?_
                  refine Run.z [false] ?_
                  refine Run.q (e := vIv) (gv := vIv) (ok_impl_bounded _ _ _) fun r17 _ => ?_
                  exact Run.x 0

theorem ok_impl_MulI (a0 : Iv) (a1 : Iv) : Fun Tryz.prog 34 [] #[vIv a0, vIv a1] (vIv (F_impl_MulI a0 a1)) [] := by
  refine Fun.ofH 400 E_ok mixed Tryz.func34 (by kernel_rfl) (by kernel_rfl) ?_
  unfold F_impl_MulI
  refine Run.q (e := vB) (gv := vIv) (ok_impl_areBounded _ _) fun r1 _ => ?_
  refine Run.y (gv := vIv) (fun _ => ?_) (fun _ => ?_)
  · refine Run.q (e := vIv) (gv := vIv) (ok_impl_Whole) fun r2 _ => ?_
    exact Run.x 0
  · refine Run.q (e := vIv) (gv := vIv) (ok_impl_combine__impl_MulDown__impl_MulUp _ _) fun r3 _ => ?_
    exact Run.x 0

theorem ok_impl_series (a0 : Iv) (a1 : I64) : Fun Tryz.prog 183 [] #[vIv a0, vI a1] (vIv (F_impl_series a0 a1)) [] := by
  refine Fun.ofH 400 E_ok mixed Tryz.func183 (by kernel_rfl) (by kernel_rfl) ?_
  unfold F_impl_series
  refine Run.q (e := vIv) (gv := vIv) (ok_impl_Integer _) fun r1 _ => ?_
  refine Run.u 400 E_ok mixed Tryz.func183 ?_
  refine Run.z [true] ?_
  refine Run.q (e := vIv) (gv := vIv) (ok_impl_Integer _) fun r2 _ => ?_
  refine Run.q (e := vIv) (gv := vIv) (ok_impl_Integer _) fun r3 _ => ?_
  refine Run.q (e := vIv) (gv := vIv) (ok_impl_DivI _ _) fun r4 _ => ?_
  refine Run.q (e := vIv) (gv := vIv) (ok_impl_MulI _ _) fun r5 _ => ?_
  refine Run.q (e := vIv) (gv := vIv) (ok_impl_SubI _ _) fun r6 _ => ?_
  refine Run.u 400 E_ok mixed Tryz.func183 ?_
  refine Run.z [true] ?_
  refine Run.q (e := vIv) (gv := vIv) (ok_impl_Integer _) fun r7 _ => ?_
  refine Run.q (e := vIv) (gv := vIv) (ok_impl_Integer _) fun r8 _ => ?_
  refine Run.q (e := vIv) (gv := vIv) (ok_impl_DivI _ _) fun r9 _ => ?_
  refine Run.q (e := vIv) (gv := vIv) (ok_impl_MulI _ _) fun r10 _ => ?_
  refine Run.q (e := vIv) (gv := vIv) (ok_impl_SubI _ _) fun r11 _ => ?_
  refine Run.u 400 E_ok mixed Tryz.func183 ?_
  refine Run.z [true] ?_
  refine Run.q (e := vIv) (gv := vIv) (ok_impl_Integer _) fun r12 _ => ?_
  refine Run.q (e := vIv) (gv := vIv) (ok_impl_Integer _) fun r13 _ => ?_
  refine Run.q (e := vIv) (gv := vIv) (ok_impl_DivI _ _) fun r14 _ => ?_
  refine Run.q (e := vIv) (gv := vIv) (ok_impl_MulI _ _) fun r15 _ => ?_
  refine Run.q (e := vIv) (gv := vIv) (ok_impl_SubI _ _) fun r16 _ => ?_
  refine Run.u 400 E_ok mixed Tryz.func183 ?_
  refine Run.z [true] ?_
  refine Run.q (e := vIv) (gv := vIv) (ok_impl_Integer _) fun r17 _ => ?_
  refine Run.q (e := vIv) (gv := vIv) (ok_impl_Integer _) fun r18 _ => ?_
  refine Run.q (e := vIv) (gv := vIv) (ok_impl_DivI _ _) fun r19 _ => ?_
  refine Run.q (e := vIv) (gv := vIv) (ok_impl_MulI _ _) fun r20 _ => ?_
  refine Run.q (e := vIv) (gv := vIv) (ok_impl_SubI _ _) fun r21 _ => ?_
  refine Run.u 400 E_ok mixed Tryz.func183 ?_
  refine Run.z [true] ?_
  refine Run.q (e := vIv) (gv := vIv) (ok_impl_Integer _) fun r22 _ => ?_
  refine Run.q (e := vIv) (gv := vIv) (ok_impl_Integer _) fun r23 _ => ?_
  refine Run.q (e := vIv) (gv := vIv) (ok_impl_DivI _ _) fun r24 _ => ?_
  refine Run.q (e := vIv) (gv := vIv) (ok_impl_MulI _ _) fun r25 _ => ?_
  refine Run.q (e := vIv) (gv := vIv) (ok_impl_SubI _ _) fun r26 _ => ?_
  refine Run.u 400 E_ok mixed Tryz.func183 ?_
  refine Run.z [true] ?_
  refine Run.q (e := vIv) (gv := vIv) (ok_impl_Integer _) fun r27 _ => ?_
  refine Run.q (e := vIv) (gv := vIv) (ok_impl_Integer _) fun r28 _ => ?_
  refine Run.q (e := vIv) (gv := vIv) (ok_impl_DivI _ _) fun r29 _ => ?_
  refine Run.q (e := vIv) (gv := vIv) (ok_impl_MulI _ _) fun r30 _ => ?_
  refine Run.q (e := vIv) (gv := vIv) (ok_impl_SubI _ _) fun r31 _ => ?_
  refine Run.u 400 E_ok mixed Tryz.func183 ?_
  refine Run.z [true] ?_
  refine Run.q (e := vIv) (gv := vIv) (ok_impl_Integer _) fun r32 _ => ?_
  refine Run.q (e := vIv) (gv := vIv) (ok_impl_Integer _) fun r33 _ => ?_
  refine Run.q (e := vIv) (gv := vIv) (ok_impl_DivI _ _) fun r34 _ => ?_
  refine Run.q (e := vIv) (gv := vIv) (ok_impl_MulI _ _) fun r35 _ => ?_
  refine Run.q (e := vIv) (gv := vIv) (ok_impl_SubI _ _) fun r36 _ => ?_
  refine Run.u 400 E_ok mixed Tryz.func183 ?_
  refine Run.z [true] ?_
  refine Run.q (e := vIv) (gv := vIv) (ok_impl_Integer _) fun r37 _ => ?_
  refine Run.q (e := vIv) (gv := vIv) (ok_impl_Integer _) fun r38 _ => ?_
  refine Run.q (e := vIv) (gv := vIv) (ok_impl_DivI _ _) fun r39 _ => ?_
  refine Run.q (e := vIv) (gv := vIv) (ok_impl_MulI _ _) fun r40 _ => ?_
  refine Run.q (e := vIv) (gv := vIv) (ok_impl_SubI _ _) fun r41 _ => ?_
  refine Run.u 400 E_ok mixed Tryz.func183 ?_
  refine Run.z [false] ?_
  exact Run.x 0

theorem ok_impl_tiny : Fun Tryz.prog 184 [] #[] (vIv (F_impl_tiny)) [] := by
  refine Fun.ofH 400 E_ok mixed Tryz.func184 (by kernel_rfl) (by kernel_rfl) ?_
  unfold F_impl_tiny
  exact Run.x 0

theorem ok_impl_SinSeries (a0 : Iv) : Fun Tryz.prog 148 [] #[vIv a0] (vIv (F_impl_SinSeries a0)) [] := by
  refine Fun.ofH 400 E_ok mixed Tryz.func148 (by kernel_rfl) (by kernel_rfl) ?_
  unfold F_impl_SinSeries
  refine Run.q (e := vIv) (gv := vIv) (ok_impl_ring) fun r1 _ => ?_
  refine Run.q (e := vB) (gv := vIv) (ok_impl_InsideI _ _) fun r2 _ => ?_
  refine Run.y (gv := vIv) (fun _ => ?_) (fun _ => ?_)
  · refine Run.q (e := vIv) (gv := vIv) (ok_impl_Whole) fun r3 _ => ?_
    exact Run.x 0
  · refine Run.q (e := vIv) (gv := vIv) (ok_impl_SqrI _) fun r4 _ => ?_
    refine Run.q (e := vIv) (gv := vIv) (ok_impl_series _ _) fun r5 _ => ?_
    refine Run.q (e := vIv) (gv := vIv) (ok_impl_MulI _ _) fun r6 _ => ?_
    refine Run.q (e := vIv) (gv := vIv) (ok_impl_tiny) fun r7 _ => ?_
    refine Run.q (e := vIv) (gv := vIv) (ok_impl_AddI _ _) fun r8 _ => ?_
    exact Run.x 0

theorem ok_impl_MeetI (a0 : Iv) (a1 : Iv) : Fun Tryz.prog 181 [] #[vIv a0, vIv a1] (vT_Iv_B (F_impl_MeetI a0 a1)) [] := by
  refine Fun.ofH 400 E_ok mixed Tryz.func181 (by kernel_rfl) (by kernel_rfl) ?_
  unfold F_impl_MeetI
  refine Run.q (e := vB) (gv := vT_Iv_B) (ok_impl_IsWhole _) fun r1 _ => ?_
  refine Run.y (gv := vT_Iv_B) (fun _ => ?_) (fun _ => ?_)
  · refine Run.z [true] ?_
    refine Run.q (e := vB) (gv := vT_Iv_B) (ok_impl_IsWhole _) fun r2 _ => ?_
    refine Run.z [true] ?_
    refine Run.y (gv := vT_Iv_B) (fun _ => ?_) (fun _ => ?_)
    · refine Run.q (e := vIv) (gv := vT_Iv_B) (ok_impl_Whole) fun r3 _ => ?_
      exact Run.x 0
    · refine Run.q (e := vB) (gv := vT_Iv_B) (ok_impl_IsWhole _) fun r4 _ => ?_
      refine Run.y (gv := vT_Iv_B) (fun _ => ?_) (fun _ => ?_)
      · exact Run.x 0
      · refine Run.q (e := vB) (gv := vT_Iv_B) (ok_impl_IsWhole _) fun r5 _ => ?_
        refine Run.y (gv := vT_Iv_B) (fun _ => ?_) (fun _ => ?_)
        · exact Run.x 0
        · refine Run.y (gv := vT_Iv_B) (fun _ => ?_) (fun _ => ?_)
          · exact Run.x 0
          · exact Run.x 0
  · refine Run.z [false, false, false] ?_
    refine Run.q (e := vB) (gv := vT_Iv_B) (ok_impl_IsWhole _) fun r6 _ => ?_
    refine Run.y (gv := vT_Iv_B) (fun _ => ?_) (fun _ => ?_)
    · exact Run.x 0
    · refine Run.q (e := vB) (gv := vT_Iv_B) (ok_impl_IsWhole _) fun r7 _ => ?_
      refine Run.y (gv := vT_Iv_B) (fun _ => ?_) (fun _ => ?_)
      · exact Run.x 0
      · refine Run.y (gv := vT_Iv_B) (fun _ => ?_) (fun _ => ?_)
        · exact Run.x 0
        · exact Run.x 0

theorem ok_impl_inRing (a0 : Iv) : Fun Tryz.prog 147 [] #[vIv a0] (vIv (F_impl_inRing a0)) [] := by
  refine Fun.ofH 400 E_ok mixed Tryz.func147 (by kernel_rfl) (by kernel_rfl) ?_
  unfold F_impl_inRing
  refine Run.q (e := vIv) (gv := vIv) (ok_impl_ring) fun r1 _ => ?_
  refine Run.q (e := vT_Iv_B) (gv := vIv) (ok_impl_MeetI _ _) fun r2 _ => ?_
  exact Run.x 0

theorem ok_impl_CosSeries (a0 : Iv) : Fun Tryz.prog 149 [] #[vIv a0] (vIv (F_impl_CosSeries a0)) [] := by
  refine Fun.ofH 400 E_ok mixed Tryz.func149 (by kernel_rfl) (by kernel_rfl) ?_
  unfold F_impl_CosSeries
  refine Run.q (e := vIv) (gv := vIv) (ok_impl_ring) fun r1 _ => ?_
  refine Run.q (e := vB) (gv := vIv) (ok_impl_InsideI _ _) fun r2 _ => ?_
  refine Run.y (gv := vIv) (fun _ => ?_) (fun _ => ?_)
  · refine Run.q (e := vIv) (gv := vIv) (ok_impl_Whole) fun r3 _ => ?_
    exact Run.x 0
  · refine Run.q (e := vIv) (gv := vIv) (ok_impl_SqrI _) fun r4 _ => ?_
    refine Run.q (e := vIv) (gv := vIv) (ok_impl_series _ _) fun r5 _ => ?_
    refine Run.q (e := vIv) (gv := vIv) (ok_impl_tiny) fun r6 _ => ?_
    refine Run.q (e := vIv) (gv := vIv) (ok_impl_AddI _ _) fun r7 _ => ?_
    exact Run.x 0

end Go.Proofs.YtlgbjanlofomoaaGreat.Abs
