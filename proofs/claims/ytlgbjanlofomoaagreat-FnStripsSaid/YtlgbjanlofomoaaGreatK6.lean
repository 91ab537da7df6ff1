/- The program's functions are these; part 6 (written by w.py). -/
import Derived.Test.YtlgbjanlofomoaaGreatE
import Derived.Test.YtlgbjanlofomoaaGreatF3
import Derived.Test.YtlgbjanlofomoaaGreatQpre
import Derived.Test.YtlgbjanlofomoaaGreatK1
import Derived.Test.YtlgbjanlofomoaaGreatK2
import Derived.Test.YtlgbjanlofomoaaGreatK3
import Derived.Test.YtlgbjanlofomoaaGreatK4
import Derived.Test.YtlgbjanlofomoaaGreatK5
set_option linter.unusedVariables false
set_option linter.unusedSimpArgs false
namespace Go.Proofs.YtlgbjanlofomoaaGreat.Abs
open Go Go.RowKit

theorem ok_laws_d8Size (a0 : I64) : Fun Tryz.prog 8 [] #[vI a0] (vI (F_laws_d8Size a0)) [] := by
  refine Fun.ofH 400 E_ok mixed Tryz.func8 (by kernel_rfl) (by kernel_rfl) ?_
  unfold F_laws_d8Size
  refine Run.y (gv := vI) (fun _ => ?_) (fun _ => ?_)
  · exact Run.x 0
  · exact Run.x 0

theorem ok_laws_FnStrips (c0 : Cd) : Fun Tryz.prog 3 [(c0.row, c0.ty)] #[c0.sl 0] (vB (F_laws_FnStrips c0)) [(c0.row, c0.ty)] := by
  refine Fun.ofH 400 E_ok mixed Tryz.func3 (by kernel_rfl) (by kernel_rfl) ?_
  unfold F_laws_FnStrips
  refine Run.y (gv := vB) (fun _ => ?_) (fun _ => ?_)
  · exact Run.x 1
  · refine Run.vl (e := vPt) (gv := vB) [0] (ok_spec_E8Point _) (allc (c0.calm) rfl) fun r1 _ => ?_
    refine Run.q (e := vT_I_I) (gv := vB) (ok_impl_ZoneOf _) fun r2 _ => ?_
    refine Run.q (e := vT_I_I) (gv := vB) (ok_impl_ZoneMiddle _) fun r3 _ => ?_
    refine Run.q (e := vT_Pj_I) (gv := vB) (ok_impl_ZoneProjection _) fun r4 _ => ?_
    refine Run.y (gv := vB) (fun _ => ?_) (fun _ => ?_)
    · refine Run.z [true, true, true, true, true, true, true, true, true, true, true, true, true, true, true, true, true, true, true, true, true, true, true] ?_
      exact Run.x 1
    · refine Run.z [false, false] ?_
      refine Run.y (gv := vB) (fun _ => ?_) (fun _ => ?_)
      · refine Run.z [true, true, true, true, true, true, true, true, true, true, true, true, true, true, true, true, true, true, true, true] ?_
        exact Run.x 1
      · refine Run.z [false, false] ?_
        refine Run.y (gv := vB) (fun _ => ?_) (fun _ => ?_)
        · refine Run.z [true, true, true, true, true, true, true, true, true, true, true, true, true, true, true, true, true] ?_
          exact Run.x 1
        · refine Run.z [false, false, false, false] ?_
          refine Run.q (e := vI) (gv := vB) (ok_spec_WrapLon _) fun r5 _ => ?_
          refine Run.z [false] ?_
          refine Run.q (e := vI) (gv := vB) (ok_laws_d8Size _) fun r6 _ => ?_
          refine Run.z [false, false] ?_
          refine Run.y (gv := vB) (fun _ => ?_) (fun _ => ?_)
          · refine Run.z [true, true, true, true, true, true, true, true, true] ?_
            exact Run.x 1
          · refine Run.z [false] ?_
            refine Run.q (e := vB) (gv := vB) (ok_spec_ValidProjection _) fun r7 _ => ?_
            refine Run.z [false, false] ?_
            refine Run.y (gv := vB) (fun _ => ?_) (fun _ => ?_)
            · refine Run.z [true, true, true, true, true] ?_
              exact Run.x 1
            · refine Run.z [false, false, false, false] ?_
              refine Run.y (gv := vB) (fun _ => ?_) (fun _ => ?_)
              · exact Run.x 1
              · refine Run.q (e := vT_I_Pn_I) (gv := vB) (ok_impl_ZoneForward _) fun r8 _ => ?_
                refine Run.q (e := vT_Pn_I) (gv := vB) (ok_spec_TransverseForward _ _) fun r9 _ => ?_
                refine Run.y (gv := vB) (fun _ => ?_) (fun _ => ?_)
                · exact Run.x 1
                · refine Run.y (gv := vB) (fun _ => ?_) (fun _ => ?_)
                  · refine Run.z [true, true, true] ?_
                    refine Run.y (gv := vB) (fun _ => ?_) (fun _ => ?_)
                    · refine Run.z [true, true, true, true, true, true] ?_
                      exact Run.x 1
                    · refine Run.z [false, false, true, false, true] ?_
                      refine Run.y (gv := vB) (fun _ => ?_) (fun _ => ?_)
                      · exact Run.x 1
                      · refine Run.q (e := vT_I_I) (gv := vB) (ok_impl_ZoneMiddle _) fun r10 _ => ?_
                        refine Run.y (gv := vB) (fun _ => ?_) (fun _ => ?_)
                        · refine Run.z [true, true] ?_
                          refine Run.y (gv := vB) (fun _ => ?_) (fun _ => ?_)
                          · refine Run.z [true, true, true, true] ?_
                            exact Run.x 1
                          · refine Run.z [false, false] ?_
                            refine Run.y (gv := vB) (fun _ => ?_) (fun _ => ?_)
                            · refine Run.z [true, true, true, false, true, false] ?_
                              exact Run.x 1
                            · refine Run.z [false, false, false, false, false, false] ?_
                              exact Run.x 1
                        · refine Run.z [false, false, false, false, false] ?_
                          refine Run.y (gv := vB) (fun _ => ?_) (fun _ => ?_)
                          · refine Run.z [true, true, true, false, true, false] ?_
                            exact Run.x 1
                          · refine Run.z [false, false, false, false, false, false] ?_
                            exact Run.x 1
                  · refine Run.z [false, false, false, false, false, false] ?_
                    refine Run.q (e := vT_I_I) (gv := vB) (ok_impl_ZoneMiddle _) fun r11 _ => ?_
                    refine Run.y (gv := vB) (fun _ => ?_) (fun _ => ?_)
                    · refine Run.z [true, true] ?_
                      refine Run.y (gv := vB) (fun _ => ?_) (fun _ => ?_)
                      · refine Run.z [true, true, true, true] ?_
                        exact Run.x 1
                      · refine Run.z [false, false] ?_
                        refine Run.y (gv := vB) (fun _ => ?_) (fun _ => ?_)
                        · refine Run.z [true, true, true, false, true, false] ?_
                          exact Run.x 1
                        · refine Run.z [false, false, false, false, false, false] ?_
                          exact Run.x 1
                    · refine Run.z [false, false, false, false, false] ?_
                      refine Run.y (gv := vB) (fun _ => ?_) (fun _ => ?_)
                      · refine Run.z [true, true, true, false, true, false] ?_
                        exact Run.x 1
                      · refine Run.z [false, false, false, false, false, false] ?_
                        exact Run.x 1

theorem ok_laws_FnStrips_n : Fun Tryz.prog 3 [] #[.slice none 0 0] (vB (F_laws_FnStrips Cd.nil)) [] := by
  refine Fun.ofH 400 E_ok mixed Tryz.func3 (by kernel_rfl) (by kernel_rfl) ?_
  unfold F_laws_FnStrips
  refine Run.y (gv := vB) (fun _ => ?_) (fun _ => ?_)
  · exact Run.x 0
  · refine Run.q (e := vPt) (gv := vB) (ok_spec_E8Point_n) fun r1 _ => ?_
    refine Run.q (e := vT_I_I) (gv := vB) (ok_impl_ZoneOf _) fun r2 _ => ?_
    refine Run.q (e := vT_I_I) (gv := vB) (ok_impl_ZoneMiddle _) fun r3 _ => ?_
    refine Run.q (e := vT_Pj_I) (gv := vB) (ok_impl_ZoneProjection _) fun r4 _ => ?_
    refine Run.y (gv := vB) (fun _ => ?_) (fun _ => ?_)
    · refine Run.z [true, true, true, true, true, true, true, true, true, true, true, true, true, true, true, true, true, true, true, true, true, true, true] ?_
      exact Run.x 0
    · refine Run.z [false, false] ?_
      refine Run.y (gv := vB) (fun _ => ?_) (fun _ => ?_)
      · refine Run.z [true, true, true, true, true, true, true, true, true, true, true, true, true, true, true, true, true, true, true, true] ?_
        exact Run.x 0
      · refine Run.z [false, false] ?_
        refine Run.y (gv := vB) (fun _ => ?_) (fun _ => ?_)
        · refine Run.z [true, true, true, true, true, true, true, true, true, true, true, true, true, true, true, true, true] ?_
          exact Run.x 0
        · refine Run.z [false, false, false, false] ?_
          refine Run.q (e := vI) (gv := vB) (ok_spec_WrapLon _) fun r5 _ => ?_
          refine Run.z [false] ?_
          refine Run.q (e := vI) (gv := vB) (ok_laws_d8Size _) fun r6 _ => ?_
          refine Run.z [false, false] ?_
          refine Run.y (gv := vB) (fun _ => ?_) (fun _ => ?_)
          · refine Run.z [true, true, true, true, true, true, true, true, true] ?_
            exact Run.x 0
          · refine Run.z [false] ?_
            refine Run.q (e := vB) (gv := vB) (ok_spec_ValidProjection _) fun r7 _ => ?_
            refine Run.z [false, false] ?_
            refine Run.y (gv := vB) (fun _ => ?_) (fun _ => ?_)
            · refine Run.z [true, true, true, true, true] ?_
              exact Run.x 0
            · refine Run.z [false, false, false, false] ?_
              refine Run.y (gv := vB) (fun _ => ?_) (fun _ => ?_)
              · exact Run.x 0
              · refine Run.q (e := vT_I_Pn_I) (gv := vB) (ok_impl_ZoneForward _) fun r8 _ => ?_
                refine Run.q (e := vT_Pn_I) (gv := vB) (ok_spec_TransverseForward _ _) fun r9 _ => ?_
                refine Run.y (gv := vB) (fun _ => ?_) (fun _ => ?_)
                · exact Run.x 0
                · refine Run.y (gv := vB) (fun _ => ?_) (fun _ => ?_)
                  · refine Run.z [true, true, true] ?_
                    refine Run.y (gv := vB) (fun _ => ?_) (fun _ => ?_)
                    · refine Run.z [true, true, true, true, true, true] ?_
                      exact Run.x 0
                    · refine Run.z [false, false, true, false, true] ?_
                      refine Run.y (gv := vB) (fun _ => ?_) (fun _ => ?_)
                      · exact Run.x 0
                      · refine Run.q (e := vT_I_I) (gv := vB) (ok_impl_ZoneMiddle _) fun r10 _ => ?_
                        refine Run.y (gv := vB) (fun _ => ?_) (fun _ => ?_)
                        · refine Run.z [true, true] ?_
                          refine Run.y (gv := vB) (fun _ => ?_) (fun _ => ?_)
                          · refine Run.z [true, true, true, true] ?_
                            exact Run.x 0
                          · refine Run.z [false, false] ?_
                            refine Run.y (gv := vB) (fun _ => ?_) (fun _ => ?_)
                            · refine Run.z [true, true, true, false, true, false] ?_
                              exact Run.x 0
                            · refine Run.z [false, false, false, false, false, false] ?_
                              exact Run.x 0
                        · refine Run.z [false, false, false, false, false] ?_
                          refine Run.y (gv := vB) (fun _ => ?_) (fun _ => ?_)
                          · refine Run.z [true, true, true, false, true, false] ?_
                            exact Run.x 0
                          · refine Run.z [false, false, false, false, false, false] ?_
                            exact Run.x 0
                  · refine Run.z [false, false, false, false, false, false] ?_
                    refine Run.q (e := vT_I_I) (gv := vB) (ok_impl_ZoneMiddle _) fun r11 _ => ?_
                    refine Run.y (gv := vB) (fun _ => ?_) (fun _ => ?_)
                    · refine Run.z [true, true] ?_
                      refine Run.y (gv := vB) (fun _ => ?_) (fun _ => ?_)
                      · refine Run.z [true, true, true, true] ?_
                        exact Run.x 0
                      · refine Run.z [false, false] ?_
                        refine Run.y (gv := vB) (fun _ => ?_) (fun _ => ?_)
                        · refine Run.z [true, true, true, false, true, false] ?_
                          exact Run.x 0
                        · refine Run.z [false, false, false, false, false, false] ?_
                          exact Run.x 0
                    · refine Run.z [false, false, false, false, false] ?_
                      refine Run.y (gv := vB) (fun _ => ?_) (fun _ => ?_)
                      · refine Run.z [true, true, true, false, true, false] ?_
                        exact Run.x 0
                      · refine Run.z [false, false, false, false, false, false] ?_
                        exact Run.x 0

end Go.Proofs.YtlgbjanlofomoaaGreat.Abs
