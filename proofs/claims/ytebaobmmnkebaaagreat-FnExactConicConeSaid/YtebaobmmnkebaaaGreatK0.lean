/- The program's functions are these; part 0 (written by w.py). -/
import Derived.Test.YtebaobmmnkebaaaGreatE
import Derived.Test.YtebaobmmnkebaaaGreatF3
import Derived.Test.YtebaobmmnkebaaaGreatQpre
set_option linter.unusedVariables false
set_option linter.unusedSimpArgs false
namespace Go.Proofs.YtebaobmmnkebaaaGreat.Abs
open Go Go.RowKit

theorem ok_laws_toProjection (a0 : Pj) : Fun Tryz.prog 10 [] #[vPj a0] (vPj (F_laws_toProjection a0)) [] := by
  refine Fun.ofH 400 E_ok mixed Tryz.func10 (by kernel_rfl) (by kernel_rfl) ?_
  unfold F_laws_toProjection
  exact Run.rh (k := 0) (by kernel_rfl) (by kernel_rfl)

theorem ok_spec_l00In (a0 : I64) (a1 : I64) (a2 : I64) : Fun Tryz.prog 81 [] #[vI a0, vI a1, vI a2] (vB (F_spec_l00In a0 a1 a2)) [] := by
  refine Fun.ofH 400 E_ok mixed Tryz.func81 (by kernel_rfl) (by kernel_rfl) ?_
  unfold F_spec_l00In
  refine Run.jH (gv := vB) (by kernel_rfl) (?_) (?_)
  · refine Run.p [true, true, true] (by kernel_rfl) ?_
    exact Run.rh (k := 0) (by kernel_rfl) (by kernel_rfl)
  · refine Run.p [false, false, false] (by kernel_rfl) ?_
    exact Run.rh (k := 0) (by kernel_rfl) (by kernel_rfl)

theorem ok_spec_l11Ok (a0 : Pt) : Fun Tryz.prog 27 [] #[vPt a0] (vB (F_spec_l11Ok a0)) [] := by
  refine Fun.ofH 400 E_ok mixed Tryz.func27 (by kernel_rfl) (by kernel_rfl) ?_
  unfold F_spec_l11Ok
  refine Run.bH (e := vB) (gv := vB) (by kernel_rfl) (by kernel_rfl) (ok_spec_l00In _ _ _) (fun _ => rfl) fun r1 => ?_
  refine Run.jH (gv := vB) (by kernel_rfl) (?_) (?_)
  · refine Run.p [true, true] (by kernel_rfl) ?_
    refine Run.bH (e := vB) (gv := vB) (by kernel_rfl) (by kernel_rfl) (ok_spec_l00In _ _ _) (fun _ => rfl) fun r2 => ?_
    refine Run.p [true] (by kernel_rfl) ?_
    exact Run.rh (k := 0) (by kernel_rfl) (by kernel_rfl)
  · refine Run.p [false, false, false] (by kernel_rfl) ?_
    exact Run.rh (k := 0) (by kernel_rfl) (by kernel_rfl)

theorem ok_spec_l17Standard (a0 : I64) : Fun Tryz.prog 192 [] #[vI a0] (vB (F_spec_l17Standard a0)) [] := by
  refine Fun.ofH 400 E_ok mixed Tryz.func192 (by kernel_rfl) (by kernel_rfl) ?_
  unfold F_spec_l17Standard
  refine Run.bH (e := vB) (gv := vB) (by kernel_rfl) (by kernel_rfl) (ok_spec_l00In _ _ _) (fun _ => rfl) fun r1 => ?_
  exact Run.rh (k := 0) (by kernel_rfl) (by kernel_rfl)

theorem ok_spec_l17Ok (a0 : Pj) : Fun Tryz.prog 138 [] #[vPj a0] (vB (F_spec_l17Ok a0)) [] := by
  refine Fun.ofH 400 E_ok mixed Tryz.func138 (by kernel_rfl) (by kernel_rfl) ?_
  unfold F_spec_l17Ok
  refine Run.bH (e := vB) (gv := vB) (by kernel_rfl) (by kernel_rfl) (ok_spec_l11Ok _) (fun _ => rfl) fun r1 => ?_
  refine Run.jH (gv := vB) (by kernel_rfl) (?_) (?_)
  · refine Run.p [true, true, true, true, true, true, true, true, true, true] (by kernel_rfl) ?_
    exact Run.rh (k := 0) (by kernel_rfl) (by kernel_rfl)
  · refine Run.p [false, false] (by kernel_rfl) ?_
    refine Run.bH (e := vB) (gv := vB) (by kernel_rfl) (by kernel_rfl) (ok_spec_l17Standard _) (fun _ => rfl) fun r2 => ?_
    refine Run.p [false, false] (by kernel_rfl) ?_
    refine Run.jH (gv := vB) (by kernel_rfl) (?_) (?_)
    · refine Run.p [true, true, true, true, true] (by kernel_rfl) ?_
      exact Run.rh (k := 0) (by kernel_rfl) (by kernel_rfl)
    · refine Run.p [false, false] (by kernel_rfl) ?_
      refine Run.bH (e := vB) (gv := vB) (by kernel_rfl) (by kernel_rfl) (ok_spec_l17Standard _) (fun _ => rfl) fun r3 => ?_
      refine Run.p [false, false] (by kernel_rfl) ?_
      refine Run.jH (gv := vB) (by kernel_rfl) (?_) (?_)
      · exact Run.rh (k := 0) (by kernel_rfl) (by kernel_rfl)
      · refine Run.jH (gv := vB) (by kernel_rfl) (?_) (?_)
        · refine Run.p [true] (by kernel_rfl) ?_
          refine Run.jH (gv := vB) (by kernel_rfl) (?_) (?_)
          · refine Run.p [true, true, true] (by kernel_rfl) ?_
            exact Run.rh (k := 0) (by kernel_rfl) (by kernel_rfl)
          · refine Run.p [false, false, false] (by kernel_rfl) ?_
            exact Run.rh (k := 0) (by kernel_rfl) (by kernel_rfl)
        · refine Run.jH (gv := vB) (by kernel_rfl) (?_) (?_)
          · refine Run.jH (gv := vB) (by kernel_rfl) (?_) (?_)
            · refine Run.p [true, true, true] (by kernel_rfl) ?_
              exact Run.rh (k := 0) (by kernel_rfl) (by kernel_rfl)
            · refine Run.p [false, false, false] (by kernel_rfl) ?_
              exact Run.rh (k := 0) (by kernel_rfl) (by kernel_rfl)
          · refine Run.jH (gv := vB) (by kernel_rfl) (?_) (?_)
            · refine Run.p [true] (by kernel_rfl) ?_
              refine Run.jH (gv := vB) (by kernel_rfl) (?_) (?_)
              · refine Run.p [true, true, true] (by kernel_rfl) ?_
                refine Run.jH (gv := vB) (by kernel_rfl) (?_) (?_)
                · refine Run.p [true, true, true] (by kernel_rfl) ?_
                  exact Run.rh (k := 0) (by kernel_rfl) (by kernel_rfl)
                · refine Run.p [false, false, false] (by kernel_rfl) ?_
                  exact Run.rh (k := 0) (by kernel_rfl) (by kernel_rfl)
              · refine Run.p [false, false, false, false, false, false, false] (by kernel_rfl) ?_
                exact Run.rh (k := 0) (by kernel_rfl) (by kernel_rfl)
            · refine Run.jH (gv := vB) (by kernel_rfl) (?_) (?_)
              · refine Run.p [true] (by kernel_rfl) ?_
                refine Run.jH (gv := vB) (by kernel_rfl) (?_) (?_)
                · refine Run.p [true, true, true] (by kernel_rfl) ?_
                  refine Run.jH (gv := vB) (by kernel_rfl) (?_) (?_)
                  · refine Run.p [true, true, true] (by kernel_rfl) ?_
                    exact Run.rh (k := 0) (by kernel_rfl) (by kernel_rfl)
                  · refine Run.p [false, false, false] (by kernel_rfl) ?_
                    exact Run.rh (k := 0) (by kernel_rfl) (by kernel_rfl)
                · refine Run.p [false, false, false, false, false, false, false] (by kernel_rfl) ?_
                  exact Run.rh (k := 0) (by kernel_rfl) (by kernel_rfl)
              · refine Run.jH (gv := vB) (by kernel_rfl) (?_) (?_)
                · refine Run.p [true] (by kernel_rfl) ?_
                  refine Run.jH (gv := vB) (by kernel_rfl) (?_) (?_)
                  · refine Run.p [true, true, true] (by kernel_rfl) ?_
                    refine Run.jH (gv := vB) (by kernel_rfl) (?_) (?_)
                    · refine Run.p [true, true, true] (by kernel_rfl) ?_
                      exact Run.rh (k := 0) (by kernel_rfl) (by kernel_rfl)
                    · refine Run.p [false, false, false] (by kernel_rfl) ?_
                      exact Run.rh (k := 0) (by kernel_rfl) (by kernel_rfl)
                  · refine Run.p [false, false, false, false, false, false, false] (by kernel_rfl) ?_
                    exact Run.rh (k := 0) (by kernel_rfl) (by kernel_rfl)
                · refine Run.jH (gv := vB) (by kernel_rfl) (?_) (?_)
                  · refine Run.p [true] (by kernel_rfl) ?_
                    refine Run.jH (gv := vB) (by kernel_rfl) (?_) (?_)
                    · refine Run.p [true, true, true] (by kernel_rfl) ?_
                      refine Run.jH (gv := vB) (by kernel_rfl) (?_) (?_)
                      · refine Run.p [true, true, true] (by kernel_rfl) ?_
                        exact Run.rh (k := 0) (by kernel_rfl) (by kernel_rfl)
                      · refine Run.p [false, false, false] (by kernel_rfl) ?_
                        exact Run.rh (k := 0) (by kernel_rfl) (by kernel_rfl)
                    · refine Run.p [false, false, false, false, false, false, false] (by kernel_rfl) ?_
                      exact Run.rh (k := 0) (by kernel_rfl) (by kernel_rfl)
                  · refine Run.jH (gv := vB) (by kernel_rfl) (?_) (?_)
                    · refine Run.jH (gv := vB) (by kernel_rfl) (?_) (?_)
                      · refine Run.p [true, true, true] (by kernel_rfl) ?_
                        refine Run.jH (gv := vB) (by kernel_rfl) (?_) (?_)
                        · refine Run.p [true, true, true] (by kernel_rfl) ?_
                          exact Run.rh (k := 0) (by kernel_rfl) (by kernel_rfl)
                        · refine Run.p [false, false, false] (by kernel_rfl) ?_
                          exact Run.rh (k := 0) (by kernel_rfl) (by kernel_rfl)
                      · refine Run.p [false, false, false, false, false, false, false] (by kernel_rfl) ?_
                        exact Run.rh (k := 0) (by kernel_rfl) (by kernel_rfl)
                    · refine Run.jH (gv := vB) (by kernel_rfl) (?_) (?_)
                      · refine Run.p [true] (by kernel_rfl) ?_
                        refine Run.jH (gv := vB) (by kernel_rfl) (?_) (?_)
                        · refine Run.p [true, true, true] (by kernel_rfl) ?_
                          exact Run.rh (k := 0) (by kernel_rfl) (by kernel_rfl)
                        · refine Run.p [false, false, false] (by kernel_rfl) ?_
                          exact Run.rh (k := 0) (by kernel_rfl) (by kernel_rfl)
                      · refine Run.jH (gv := vB) (by kernel_rfl) (?_) (?_)
                        · refine Run.p [true] (by kernel_rfl) ?_
                          refine Run.jH (gv := vB) (by kernel_rfl) (?_) (?_)
                          · refine Run.p [true, true, true] (by kernel_rfl) ?_
                            exact Run.rh (k := 0) (by kernel_rfl) (by kernel_rfl)
                          · refine Run.p [false, false, false] (by kernel_rfl) ?_
                            exact Run.rh (k := 0) (by kernel_rfl) (by kernel_rfl)
                        · refine Run.jH (gv := vB) (by kernel_rfl) (?_) (?_)
                          · refine Run.p [true] (by kernel_rfl) ?_
                            refine Run.jH (gv := vB) (by kernel_rfl) (?_) (?_)
                            · refine Run.p [true, true, true] (by kernel_rfl) ?_
                              exact Run.rh (k := 0) (by kernel_rfl) (by kernel_rfl)
                            · refine Run.p [false, false, false] (by kernel_rfl) ?_
                              exact Run.rh (k := 0) (by kernel_rfl) (by kernel_rfl)
                          · refine Run.jH (gv := vB) (by kernel_rfl) (?_) (?_)
                            · refine Run.p [true] (by kernel_rfl) ?_
                              refine Run.jH (gv := vB) (by kernel_rfl) (?_) (?_)
                              · refine Run.p [true, true, true] (by kernel_rfl) ?_
                                exact Run.rh (k := 0) (by kernel_rfl) (by kernel_rfl)
                              · refine Run.p [false, false, false] (by kernel_rfl) ?_
                                exact Run.rh (k := 0) (by kernel_rfl) (by kernel_rfl)
                            · refine Run.jH (gv := vB) (by kernel_rfl) (?_) (?_)
                              · refine Run.p [true] (by kernel_rfl) ?_
                                refine Run.jH (gv := vB) (by kernel_rfl) (?_) (?_)
                                · refine Run.p [true, true, true] (by kernel_rfl) ?_
                                  exact Run.rh (k := 0) (by kernel_rfl) (by kernel_rfl)
                                · refine Run.p [false, false, false] (by kernel_rfl) ?_
                                  exact Run.rh (k := 0) (by kernel_rfl) (by kernel_rfl)
                              · refine Run.jH (gv := vB) (by kernel_rfl) (?_) (?_)
                                · refine Run.jH (gv := vB) (by kernel_rfl) (?_) (?_)
                                  · refine Run.p [true, true, true] (by kernel_rfl) ?_
                                    exact Run.rh (k := 0) (by kernel_rfl) (by kernel_rfl)
                                  · refine Run.p [false, false, false] (by kernel_rfl) ?_
                                    exact Run.rh (k := 0) (by kernel_rfl) (by kernel_rfl)
                                · refine Run.jH (gv := vB) (by kernel_rfl) (?_) (?_)
                                  · refine Run.p [true] (by kernel_rfl) ?_
                                    refine Run.jH (gv := vB) (by kernel_rfl) (?_) (?_)
                                    · refine Run.p [true, true] (by kernel_rfl) ?_
                                      exact Run.rh (k := 0) (by kernel_rfl) (by kernel_rfl)
                                    · refine Run.p [false, false] (by kernel_rfl) ?_
                                      exact Run.rh (k := 0) (by kernel_rfl) (by kernel_rfl)
                                  · refine Run.jH (gv := vB) (by kernel_rfl) (?_) (?_)
                                    · refine Run.p [true] (by kernel_rfl) ?_
                                      refine Run.jH (gv := vB) (by kernel_rfl) (?_) (?_)
                                      · refine Run.p [true, true] (by kernel_rfl) ?_
                                        exact Run.rh (k := 0) (by kernel_rfl) (by kernel_rfl)
                                      · refine Run.p [false, false] (by kernel_rfl) ?_
                                        exact Run.rh (k := 0) (by kernel_rfl) (by kernel_rfl)
                                    · refine Run.jH (gv := vB) (by kernel_rfl) (?_) (?_)
                                      · refine Run.jH (gv := vB) (by kernel_rfl) (?_) (?_)
                                        · refine Run.p [true, true] (by kernel_rfl) ?_
                                          exact Run.rh (k := 0) (by kernel_rfl) (by kernel_rfl)
                                        · refine Run.p [false, false] (by kernel_rfl) ?_
                                          exact Run.rh (k := 0) (by kernel_rfl) (by kernel_rfl)
                                      · exact Run.rh (k := 0) (by kernel_rfl) (by kernel_rfl)

theorem ok_spec_l19Ok (a0 : Pj) : Fun Tryz.prog 70 [] #[vPj a0] (vB (F_spec_l19Ok a0)) [] := by
  refine Fun.ofH 400 E_ok mixed Tryz.func70 (by kernel_rfl) (by kernel_rfl) ?_
  unfold F_spec_l19Ok
  refine Run.bH (e := vB) (gv := vB) (by kernel_rfl) (by kernel_rfl) (ok_spec_l00In _ _ _) (fun _ => rfl) fun r1 => ?_
  refine Run.jH (gv := vB) (by kernel_rfl) (?_) (?_)
  · refine Run.p [true] (by kernel_rfl) ?_
    refine Run.bH (e := vB) (gv := vB) (by kernel_rfl) (by kernel_rfl) (ok_spec_l17Ok _) (fun _ => rfl) fun r2 => ?_
    refine Run.p [true] (by kernel_rfl) ?_
    exact Run.rh (k := 0) (by kernel_rfl) (by kernel_rfl)
  · refine Run.p [false, false] (by kernel_rfl) ?_
    exact Run.rh (k := 0) (by kernel_rfl) (by kernel_rfl)

theorem ok_spec_l04Whole : Fun Tryz.prog 88 [] #[] (vIv (F_spec_l04Whole)) [] := by
  refine Fun.ofH 400 E_ok mixed Tryz.func88 (by kernel_rfl) (by kernel_rfl) ?_
  unfold F_spec_l04Whole
  exact Run.rh (k := 0) (by kernel_rfl) (by kernel_rfl)

theorem ok_spec_Whole : Fun Tryz.prog 84 [] #[] (vIv (F_spec_Whole)) [] := by
  refine Fun.ofH 400 E_ok mixed Tryz.func84 (by kernel_rfl) (by kernel_rfl) ?_
  unfold F_spec_Whole
  refine Run.bH (e := vIv) (gv := vIv) (by kernel_rfl) (by kernel_rfl) (ok_spec_l04Whole) (fun _ => rfl) fun r1 => ?_
  exact Run.rh (k := 0) (by kernel_rfl) (by kernel_rfl)

theorem ok_spec_l04Ok (a0 : Iv) : Fun Tryz.prog 87 [] #[vIv a0] (vB (F_spec_l04Ok a0)) [] := by
  refine Fun.ofH 400 E_ok mixed Tryz.func87 (by kernel_rfl) (by kernel_rfl) ?_
  unfold F_spec_l04Ok
  refine Run.jH (gv := vB) (by kernel_rfl) (?_) (?_)
  · refine Run.p [true, true, true, true, true] (by kernel_rfl) ?_
    refine Run.jH (gv := vB) (by kernel_rfl) (?_) (?_)
    · refine Run.p [true, true, true] (by kernel_rfl) ?_
      exact Run.rh (k := 0) (by kernel_rfl) (by kernel_rfl)
    · refine Run.p [false, false, false] (by kernel_rfl) ?_
      exact Run.rh (k := 0) (by kernel_rfl) (by kernel_rfl)
  · refine Run.p [false, false, false, false, false, false, false, false, false] (by kernel_rfl) ?_
    exact Run.rh (k := 0) (by kernel_rfl) (by kernel_rfl)

theorem ok_spec_l04Make (a0 : I64) (a1 : I64) : Fun Tryz.prog 93 [] #[vI a0, vI a1] (vIv (F_spec_l04Make a0 a1)) [] := by
  refine Fun.ofH 400 E_ok mixed Tryz.func93 (by kernel_rfl) (by kernel_rfl) ?_
  unfold F_spec_l04Make
  refine Run.bH (e := vB) (gv := vIv) (by kernel_rfl) (by kernel_rfl) (ok_spec_l04Ok _) (fun _ => rfl) fun r1 => ?_
  refine Run.jH (gv := vIv) (by kernel_rfl) (?_) (?_)
  · refine Run.bH (e := vIv) (gv := vIv) (by kernel_rfl) (by kernel_rfl) (ok_spec_l04Whole) (fun _ => rfl) fun r2 => ?_
    exact Run.rh (k := 0) (by kernel_rfl) (by kernel_rfl)
  · exact Run.rh (k := 0) (by kernel_rfl) (by kernel_rfl)

theorem ok_spec_NegI (a0 : Iv) : Fun Tryz.prog 95 [] #[vIv a0] (vIv (F_spec_NegI a0)) [] := by
  refine Fun.ofH 400 E_ok mixed Tryz.func95 (by kernel_rfl) (by kernel_rfl) ?_
  unfold F_spec_NegI
  refine Run.bH (e := vB) (gv := vIv) (by kernel_rfl) (by kernel_rfl) (ok_spec_l04Ok _) (fun _ => rfl) fun r1 => ?_
  refine Run.jH (gv := vIv) (by kernel_rfl) (?_) (?_)
  · refine Run.bH (e := vIv) (gv := vIv) (by kernel_rfl) (by kernel_rfl) (ok_spec_l04Whole) (fun _ => rfl) fun r2 => ?_
    exact Run.rh (k := 0) (by kernel_rfl) (by kernel_rfl)
  · refine Run.bH (e := vIv) (gv := vIv) (by kernel_rfl) (by kernel_rfl) (ok_spec_l04Make _ _) (fun _ => rfl) fun r3 => ?_
    exact Run.rh (k := 0) (by kernel_rfl) (by kernel_rfl)

theorem ok_spec_l02Size (a0 : I64) : Fun Tryz.prog 216 [] #[vI a0] (vU (F_spec_l02Size a0)) [] := by
  refine Fun.ofH 400 E_ok mixed Tryz.func216 (by kernel_rfl) (by kernel_rfl) ?_
  unfold F_spec_l02Size
  refine Run.jH (gv := vU) (by kernel_rfl) (?_) (?_)
  · exact Run.rh (k := 0) (by kernel_rfl) (by kernel_rfl)
  · exact Run.rh (k := 0) (by kernel_rfl) (by kernel_rfl)

theorem ok_spec_l02Times (a0 : U64) (a1 : U64) : Fun Tryz.prog 215 [] #[vU a0, vU a1] (vT_U_U (F_spec_l02Times a0 a1)) [] := by
  refine Fun.ofH 400 E_ok mixed Tryz.func215 (by kernel_rfl) (by kernel_rfl) ?_
  unfold F_spec_l02Times
  refine Run.p [true, true, true, true, true, true, true] (by kernel_rfl) ?_
  exact Run.rh (k := 0) (by kernel_rfl) (by kernel_rfl)

theorem ok_spec_l02Minus (a0 : Wd) : Fun Tryz.prog 212 [] #[vWd a0] (vWd (F_spec_l02Minus a0)) [] := by
  refine Fun.ofH 400 E_ok mixed Tryz.func212 (by kernel_rfl) (by kernel_rfl) ?_
  unfold F_spec_l02Minus
  refine Run.jH (gv := vWd) (by kernel_rfl) (?_) (?_)
  · exact Run.rh (k := 0) (by kernel_rfl) (by kernel_rfl)
  · exact Run.rh (k := 0) (by kernel_rfl) (by kernel_rfl)

theorem ok_spec_l02Mul (a0 : I64) (a1 : I64) : Fun Tryz.prog 167 [] #[vI a0, vI a1] (vWd (F_spec_l02Mul a0 a1)) [] := by
  refine Fun.ofH 400 E_ok mixed Tryz.func167 (by kernel_rfl) (by kernel_rfl) ?_
  unfold F_spec_l02Mul
  refine Run.bH (e := vU) (gv := vWd) (by kernel_rfl) (by kernel_rfl) (ok_spec_l02Size _) (fun _ => rfl) fun r1 => ?_
  refine Run.bH (e := vU) (gv := vWd) (by kernel_rfl) (by kernel_rfl) (ok_spec_l02Size _) (fun _ => rfl) fun r2 => ?_
  refine Run.bH (e := vT_U_U) (gv := vWd) (by kernel_rfl) (by kernel_rfl) (ok_spec_l02Times _ _) (fun _ => rfl) fun r3 => ?_
  refine Run.jH (gv := vWd) (by kernel_rfl) (?_) (?_)
  · refine Run.bH (e := vWd) (gv := vWd) (by kernel_rfl) (by kernel_rfl) (ok_spec_l02Minus _) (fun _ => rfl) fun r4 => ?_
    exact Run.rh (k := 0) (by kernel_rfl) (by kernel_rfl)
  · exact Run.rh (k := 0) (by kernel_rfl) (by kernel_rfl)

theorem ok_spec_l02Divide_L0 : ∀ (fu : Nat) (a1 : U64) (a2 : U64) (x_qhi : U64) (x_rest : U64) (x_q : U64) (x_i : I64) (q0 : x_i.val ≤ 63) (hm : (x_i.val + 1).toNat < fu) (t : Array Value) (ht : maskA t [0, 3, 4, 5, 13, 14, 15, 16, 17, 18, 19, 20, 21, 22, 23, 24, 25, 26, 27, 28, 29, 30, 31, 32, 33, 34, 35, 36, 37, 38, 39, 40, 41, 42, 43, 44, 45, 46, 47, 48, 49, 50] = #[undef, .int .u64 a1.val, .int .u64 a2.val, undef, undef, undef, .int .u64 0, .int .u64 0, .int .u64 0, .int .u64 x_qhi.val, .int .u64 x_rest.val, .int .u64 x_q.val, .int .i64 x_i.val, undef, undef, undef, undef, undef, undef, undef, undef, undef, undef, undef, undef, undef, undef, undef, undef, undef, undef, undef, undef, undef, undef, undef, undef, undef, undef, undef, undef, undef, undef, undef, undef, undef, undef, undef, undef, undef, undef]), Cfg Tryz.prog 211 (loopAt Tryz.f211 0) t [] (RvH [] (vT_U_U_U (F_spec_l02Divide_L0 fu a1 a2 x_qhi x_rest x_q x_i))) := by
  intro fu
  induction fu with
  | zero => intro a1 a2 x_qhi x_rest x_q x_i q0 hm; exact absurd hm (Nat.not_lt_zero _)
  | succ fu ih =>
    intro a1 a2 x_qhi x_rest x_q x_i q0 hm t ht
    refine Cfg.round E_ok mixed Tryz.func211 ht fun g => ?_
    unfold F_spec_l02Divide_L0
    refine Run.jk (gv := vT_U_U_U) (by kernel_rfl) (fun h1 => ?_) (fun h1 => ?_)
    · refine Run.p [true, true] (by kernel_rfl) ?_
      refine Run.k (c := (decide (0 ≤ (wu64 x_i.val).val))) (by kernel_rfl) (by simp only [w64_val, wu64_val, c64_val, cu64_val, decide_eq_true_eq] at *; first | assumption | omega) ?_
      refine Run.p [true] (by kernel_rfl) ?_
      refine Run.jk (gv := vT_U_U_U) (by kernel_rfl) (fun h2 => ?_) (fun h2 => ?_)
      · refine Run.p [true, true, true, true] (by kernel_rfl) ?_
        exact Run.l (by kernel_rfl) (by kernel_rfl) (by kernel_rfl) (by kernel_rfl) (ih a1 a2 x_qhi (wu64 ((ior .u64 (ishl .u64 x_rest.val 1).val (iand .u64 (ishr a1 (wu64 x_i.val).val).val 1).val).val - a2.val)) (ior .u64 (ishl .u64 x_q.val 1).val 1) (w64 (x_i.val - 1)) (by have q1 := x_i.lo; simp only [w64_val, wu64_val, c64_val, cu64_val, decide_eq_true_eq] at *; omega) (by have q1 := x_i.lo; simp only [w64_val, wu64_val, c64_val, cu64_val, decide_eq_true_eq] at *; omega))
      · refine Run.p [false, false, false] (by kernel_rfl) ?_
        refine Run.jk (gv := vT_U_U_U) (by kernel_rfl) (fun h3 => ?_) (fun h3 => ?_)
        · exact Run.l (by kernel_rfl) (by kernel_rfl) (by kernel_rfl) (by kernel_rfl) (ih a1 a2 x_qhi (wu64 ((ior .u64 (ishl .u64 x_rest.val 1).val (iand .u64 (ishr a1 (wu64 x_i.val).val).val 1).val).val - a2.val)) (ior .u64 (ishl .u64 x_q.val 1).val 1) (w64 (x_i.val - 1)) (by have q1 := x_i.lo; simp only [w64_val, wu64_val, c64_val, cu64_val, decide_eq_true_eq] at *; omega) (by have q1 := x_i.lo; simp only [w64_val, wu64_val, c64_val, cu64_val, decide_eq_true_eq] at *; omega))
        · exact Run.l (by kernel_rfl) (by kernel_rfl) (by kernel_rfl) (by kernel_rfl) (ih a1 a2 x_qhi (ior .u64 (ishl .u64 x_rest.val 1).val (iand .u64 (ishr a1 (wu64 x_i.val).val).val 1).val) (ishl .u64 x_q.val 1) (w64 (x_i.val - 1)) (by have q1 := x_i.lo; simp only [w64_val, wu64_val, c64_val, cu64_val, decide_eq_true_eq] at *; omega) (by have q1 := x_i.lo; simp only [w64_val, wu64_val, c64_val, cu64_val, decide_eq_true_eq] at *; omega))
    · exact Run.rh (k := 0) (by kernel_rfl) (by kernel_rfl)

theorem ok_spec_l02Divide (a0 : U64) (a1 : U64) (a2 : U64) (p0 : a2.val ≠ 0) : Fun Tryz.prog 211 [] #[vU a0, vU a1, vU a2] (vT_U_U_U (F_spec_l02Divide a0 a1 a2)) [] := by
  refine Fun.ofH 400 E_ok mixed Tryz.func211 (by kernel_rfl) (by kernel_rfl) ?_
  unfold F_spec_l02Divide
  refine Run.k (c := (decide (a2.val ≠ 0))) (by kernel_rfl) (by simp only [w64_val, wu64_val, c64_val, cu64_val, decide_eq_true_eq] at *; first | assumption | omega) ?_
  refine Run.k (c := (decide (a2.val ≠ 0))) (by kernel_rfl) (by simp only [w64_val, wu64_val, c64_val, cu64_val, decide_eq_true_eq] at *; first | assumption | omega) ?_
  exact Run.l (by kernel_rfl) (by kernel_rfl) (by kernel_rfl) (by kernel_rfl) (ok_spec_l02Divide_L0 65 a1 a2 (wu64 (Int.tdiv a0.val a2.val)) (imod a0 a2.val) (cu64 0) (c64 63) (by decide) (by decide))

theorem ok_spec_l02Of (a0 : I64) : Fun Tryz.prog 214 [] #[vI a0] (vWd (F_spec_l02Of a0)) [] := by
  refine Fun.ofH 400 E_ok mixed Tryz.func214 (by kernel_rfl) (by kernel_rfl) ?_
  unfold F_spec_l02Of
  refine Run.jH (gv := vWd) (by kernel_rfl) (?_) (?_)
  · exact Run.rh (k := 0) (by kernel_rfl) (by kernel_rfl)
  · exact Run.rh (k := 0) (by kernel_rfl) (by kernel_rfl)

theorem ok_spec_l02Plus (a0 : Wd) (a1 : Wd) : Fun Tryz.prog 213 [] #[vWd a0, vWd a1] (vWd (F_spec_l02Plus a0 a1)) [] := by
  refine Fun.ofH 400 E_ok mixed Tryz.func213 (by kernel_rfl) (by kernel_rfl) ?_
  unfold F_spec_l02Plus
  refine Run.jH (gv := vWd) (by kernel_rfl) (?_) (?_)
  · exact Run.rh (k := 0) (by kernel_rfl) (by kernel_rfl)
  · exact Run.rh (k := 0) (by kernel_rfl) (by kernel_rfl)

theorem ok_spec_l02Div (a0 : Wd) (a1 : I64) (p0 : 0 < a1.val) : Fun Tryz.prog 166 [] #[vWd a0, vI a1] (vT_Wd_I (F_spec_l02Div a0 a1)) [] := by
  refine Fun.ofH 400 E_ok mixed Tryz.func166 (by kernel_rfl) (by kernel_rfl) ?_
  unfold F_spec_l02Div
  refine Run.jk (gv := vT_Wd_I) (by kernel_rfl) (fun h1 => ?_) (fun h1 => ?_)
  · refine Run.bk (e := vT_U_U_U) (gv := vT_Wd_I) (by kernel_rfl) (by kernel_rfl) (ok_spec_l02Divide _ _ _ (by have q1 := a1.hi; simp only [w64_val, wu64_val, decide_eq_true_eq] at *; omega)) (fun _ => rfl) fun r2 hr2 => ?_
    exact Run.rh (k := 0) (by kernel_rfl) (by kernel_rfl)
  · refine Run.bk (e := vWd) (gv := vT_Wd_I) (by kernel_rfl) (by kernel_rfl) (ok_spec_l02Minus _) (fun _ => rfl) fun r3 hr3 => ?_
    refine Run.bk (e := vT_U_U_U) (gv := vT_Wd_I) (by kernel_rfl) (by kernel_rfl) (ok_spec_l02Divide _ _ _ (by have q1 := a1.hi; simp only [w64_val, wu64_val, decide_eq_true_eq] at *; omega)) (fun _ => rfl) fun r4 hr4 => ?_
    refine Run.bk (e := vWd) (gv := vT_Wd_I) (by kernel_rfl) (by kernel_rfl) (ok_spec_l02Minus _) (fun _ => rfl) fun r5 hr5 => ?_
    refine Run.jk (gv := vT_Wd_I) (by kernel_rfl) (fun h6 => ?_) (fun h6 => ?_)
    · exact Run.rh (k := 0) (by kernel_rfl) (by kernel_rfl)
    · refine Run.bk (e := vWd) (gv := vT_Wd_I) (by kernel_rfl) (by kernel_rfl) (ok_spec_l02Of _) (fun _ => rfl) fun r7 hr7 => ?_
      refine Run.bk (e := vWd) (gv := vT_Wd_I) (by kernel_rfl) (by kernel_rfl) (ok_spec_l02Plus _ _) (fun _ => rfl) fun r8 hr8 => ?_
      exact Run.rh (k := 0) (by kernel_rfl) (by kernel_rfl)

theorem ok_spec_l02Int (a0 : Wd) : Fun Tryz.prog 168 [] #[vWd a0] (vT_I_B (F_spec_l02Int a0)) [] := by
  refine Fun.ofH 400 E_ok mixed Tryz.func168 (by kernel_rfl) (by kernel_rfl) ?_
  unfold F_spec_l02Int
  refine Run.bH (e := vWd) (gv := vT_I_B) (by kernel_rfl) (by kernel_rfl) (ok_spec_l02Of _) (fun _ => rfl) fun r1 => ?_
  refine Run.jH (gv := vT_I_B) (by kernel_rfl) (?_) (?_)
  · exact Run.rh (k := 0) (by kernel_rfl) (by kernel_rfl)
  · exact Run.rh (k := 0) (by kernel_rfl) (by kernel_rfl)

theorem ok_spec_MulDivFloor (a0 : I64) (a1 : I64) (a2 : I64) : Fun Tryz.prog 96 [] #[vI a0, vI a1, vI a2] (vT_I_B (F_spec_MulDivFloor a0 a1 a2)) [] := by
  refine Fun.ofH 400 E_ok mixed Tryz.func96 (by kernel_rfl) (by kernel_rfl) ?_
  unfold F_spec_MulDivFloor
  refine Run.jk (gv := vT_I_B) (by kernel_rfl) (fun h1 => ?_) (fun h1 => ?_)
  · exact Run.rh (k := 0) (by kernel_rfl) (by kernel_rfl)
  · refine Run.bk (e := vWd) (gv := vT_I_B) (by kernel_rfl) (by kernel_rfl) (ok_spec_l02Mul _ _) (fun _ => rfl) fun r2 hr2 => ?_
    refine Run.bk (e := vT_Wd_I) (gv := vT_I_B) (by kernel_rfl) (by kernel_rfl) (ok_spec_l02Div _ _ (by simp only [c64_val, decide_eq_true_eq, decide_eq_false_iff_not] at *; omega)) (fun _ => rfl) fun r3 hr3 => ?_
    refine Run.bk (e := vT_I_B) (gv := vT_I_B) (by kernel_rfl) (by kernel_rfl) (ok_spec_l02Int _) (fun _ => rfl) fun r4 hr4 => ?_
    exact Run.rh (k := 0) (by kernel_rfl) (by kernel_rfl)

theorem ok_spec_RadiansOf_r : ∀ (fu : Nat) (a0 : I64) (hm : min (0 - a0.val).toNat 1 < fu), Fun Tryz.prog 34 [] #[vI a0] (vIv (F_spec_RadiansOf_r fu a0)) [] := by
  intro fu
  induction fu with
  | zero => intro a0 hm; exact absurd hm (Nat.not_lt_zero _)
  | succ fu ih =>
    intro a0 hm
    refine Fun.ofH 400 E_ok mixed Tryz.func34 (by kernel_rfl) (by kernel_rfl) ?_
    unfold F_spec_RadiansOf_r
    unfold F_spec_RadiansOf_b
    refine Run.bk (e := vB) (gv := vIv) (by kernel_rfl) (by kernel_rfl) (ok_spec_l00In _ _ _) (fun _ => rfl) fun r1 hr1 => ?_
    refine Run.jk (gv := vIv) (by kernel_rfl) (fun h2 => ?_) (fun h2 => ?_)
    · refine Run.bk (e := vIv) (gv := vIv) (by kernel_rfl) (by kernel_rfl) (ok_spec_Whole) (fun _ => rfl) fun r3 hr3 => ?_
      exact Run.rh (k := 0) (by kernel_rfl) (by kernel_rfl)
    · refine Run.jk (gv := vIv) (by kernel_rfl) (fun h4 => ?_) (fun h4 => ?_)
      · exact Run.rh (k := 0) (by kernel_rfl) (by kernel_rfl)
      · refine Run.jk (gv := vIv) (by kernel_rfl) (fun h5 => ?_) (fun h5 => ?_)
        · refine Run.bk (e := vIv) (gv := vIv) (by kernel_rfl) (by kernel_rfl) (ih (w64 (0 - a0.val)) (by rw [hr1] at h2; simp [F_spec_l00In, c64_val] at h2; simp only [w64_val, decide_eq_true_eq, decide_eq_false_iff_not] at *; omega)) (fun _ => rfl) fun r6 hr6 => ?_
          refine Run.bk (e := vIv) (gv := vIv) (by kernel_rfl) (by kernel_rfl) (ok_spec_NegI _) (fun _ => rfl) fun r7 hr7 => ?_
          exact Run.rh (k := 0) (by kernel_rfl) (by kernel_rfl)
        · refine Run.bk (e := vT_I_B) (gv := vIv) (by kernel_rfl) (by kernel_rfl) (ok_spec_MulDivFloor _ _ _) (fun _ => rfl) fun r8 hr8 => ?_
          refine Run.bk (e := vT_I_B) (gv := vIv) (by kernel_rfl) (by kernel_rfl) (ok_spec_MulDivFloor _ _ _) (fun _ => rfl) fun r9 hr9 => ?_
          exact Run.rh (k := 0) (by kernel_rfl) (by kernel_rfl)
theorem ok_spec_RadiansOf (a0 : I64) : Fun Tryz.prog 34 [] #[vI a0] (vIv (F_spec_RadiansOf a0)) [] := ok_spec_RadiansOf_r 2 a0 (by omega)

theorem ok_spec_ValidInterval (a0 : Iv) : Fun Tryz.prog 205 [] #[vIv a0] (vB (F_spec_ValidInterval a0)) [] := by
  refine Fun.ofH 400 E_ok mixed Tryz.func205 (by kernel_rfl) (by kernel_rfl) ?_
  unfold F_spec_ValidInterval
  refine Run.bH (e := vB) (gv := vB) (by kernel_rfl) (by kernel_rfl) (ok_spec_l04Ok _) (fun _ => rfl) fun r1 => ?_
  exact Run.rh (k := 0) (by kernel_rfl) (by kernel_rfl)

theorem ok_spec_l06Angle (a0 : I64) : Fun Tryz.prog 206 [] #[vI a0] (vB (F_spec_l06Angle a0)) [] := by
  refine Fun.ofH 400 E_ok mixed Tryz.func206 (by kernel_rfl) (by kernel_rfl) ?_
  unfold F_spec_l06Angle
  refine Run.bH (e := vB) (gv := vB) (by kernel_rfl) (by kernel_rfl) (ok_spec_l00In _ _ _) (fun _ => rfl) fun r1 => ?_
  exact Run.rh (k := 0) (by kernel_rfl) (by kernel_rfl)

theorem ok_spec_l06Fits (a0 : Iv) : Fun Tryz.prog 161 [] #[vIv a0] (vB (F_spec_l06Fits a0)) [] := by
  refine Fun.ofH 400 E_ok mixed Tryz.func161 (by kernel_rfl) (by kernel_rfl) ?_
  unfold F_spec_l06Fits
  refine Run.bH (e := vB) (gv := vB) (by kernel_rfl) (by kernel_rfl) (ok_spec_ValidInterval _) (fun _ => rfl) fun r1 => ?_
  refine Run.jH (gv := vB) (by kernel_rfl) (?_) (?_)
  · refine Run.p [true, true] (by kernel_rfl) ?_
    refine Run.bH (e := vB) (gv := vB) (by kernel_rfl) (by kernel_rfl) (ok_spec_l06Angle _) (fun _ => rfl) fun r2 => ?_
    refine Run.p [true] (by kernel_rfl) ?_
    refine Run.jH (gv := vB) (by kernel_rfl) (?_) (?_)
    · refine Run.p [true, true] (by kernel_rfl) ?_
      refine Run.bH (e := vB) (gv := vB) (by kernel_rfl) (by kernel_rfl) (ok_spec_l06Angle _) (fun _ => rfl) fun r3 => ?_
      refine Run.p [true] (by kernel_rfl) ?_
      exact Run.rh (k := 0) (by kernel_rfl) (by kernel_rfl)
    · refine Run.p [false, false, false] (by kernel_rfl) ?_
      exact Run.rh (k := 0) (by kernel_rfl) (by kernel_rfl)
  · refine Run.p [false, false, false, false, false, false, false] (by kernel_rfl) ?_
    exact Run.rh (k := 0) (by kernel_rfl) (by kernel_rfl)

theorem ok_spec_l06Ring : Fun Tryz.prog 162 [] #[] (vIv (F_spec_l06Ring)) [] := by
  refine Fun.ofH 400 E_ok mixed Tryz.func162 (by kernel_rfl) (by kernel_rfl) ?_
  unfold F_spec_l06Ring
  exact Run.rh (k := 0) (by kernel_rfl) (by kernel_rfl)

theorem ok_spec_l06Floor (a0 : I64) (a1 : I64) (p0 : a1.val ≠ 0) : Fun Tryz.prog 210 [] #[vI a0, vI a1] (vI (F_spec_l06Floor a0 a1)) [] := by
  refine Fun.ofH 400 E_ok mixed Tryz.func210 (by kernel_rfl) (by kernel_rfl) ?_
  unfold F_spec_l06Floor
  refine Run.k (c := (decide (a1.val ≠ 0))) (by kernel_rfl) (by exact decide_eq_true p0) ?_
  refine Run.k (c := (decide (a1.val ≠ 0))) (by kernel_rfl) (by exact decide_eq_true p0) ?_
  refine Run.jk (gv := vI) (by kernel_rfl) (fun h1 => ?_) (fun h1 => ?_)
  · exact Run.rh (k := 0) (by kernel_rfl) (by kernel_rfl)
  · exact Run.rh (k := 0) (by kernel_rfl) (by kernel_rfl)

theorem ok_spec_QuarterOf (a0 : I64) : Fun Tryz.prog 164 [] #[vI a0] (vI (F_spec_QuarterOf a0)) [] := by
  refine Fun.ofH 400 E_ok mixed Tryz.func164 (by kernel_rfl) (by kernel_rfl) ?_
  unfold F_spec_QuarterOf
  refine Run.bk (e := vB) (gv := vI) (by kernel_rfl) (by kernel_rfl) (ok_spec_l06Angle _) (fun _ => rfl) fun r1 hr1 => ?_
  refine Run.jk (gv := vI) (by kernel_rfl) (fun h2 => ?_) (fun h2 => ?_)
  · exact Run.rh (k := 0) (by kernel_rfl) (by kernel_rfl)
  · refine Run.bk (e := vI) (gv := vI) (by kernel_rfl) (by kernel_rfl) (ok_spec_l06Floor _ _ (by decide)) (fun _ => rfl) fun r3 hr3 => ?_
    exact Run.rh (k := 0) (by kernel_rfl) (by kernel_rfl)

theorem ok_spec_l05At (a0 : I64) : Fun Tryz.prog 157 [] #[vI a0] (vIv (F_spec_l05At a0)) [] := by
  refine Fun.ofH 400 E_ok mixed Tryz.func157 (by kernel_rfl) (by kernel_rfl) ?_
  unfold F_spec_l05At
  exact Run.rh (k := 0) (by kernel_rfl) (by kernel_rfl)

theorem ok_spec_l02Shift (a0 : Wd) (a1 : I64) : Fun Tryz.prog 204 [] #[vWd a0, vI a1] (vWd (F_spec_l02Shift a0 a1)) [] := by
  refine Fun.ofH 400 E_ok mixed Tryz.func204 (by kernel_rfl) (by kernel_rfl) ?_
  unfold F_spec_l02Shift
  refine Run.jk (gv := vWd) (by kernel_rfl) (fun h1 => ?_) (fun h1 => ?_)
  · exact Run.rh (k := 0) (by kernel_rfl) (by kernel_rfl)
  · refine Run.jk (gv := vWd) (by kernel_rfl) (fun h2 => ?_) (fun h2 => ?_)
    · refine Run.k (c := (decide (0 ≤ (wu64 a1.val).val))) (by kernel_rfl) (by simp only [w64_val, wu64_val, c64_val, cu64_val, decide_eq_true_eq, decide_eq_false_iff_not, cond_true, cond_false] at *; omega) ?_
      refine Run.k (c := (decide (0 ≤ (wu64 a1.val).val))) (by kernel_rfl) (by simp only [w64_val, wu64_val, c64_val, cu64_val, decide_eq_true_eq, decide_eq_false_iff_not, cond_true, cond_false] at *; omega) ?_
      refine Run.k (c := (decide (0 ≤ (wu64 (w64 (64 - a1.val)).val).val))) (by kernel_rfl) (by simp only [w64_val, wu64_val, c64_val, cu64_val, decide_eq_true_eq, decide_eq_false_iff_not, cond_true, cond_false] at *; omega) ?_
      exact Run.rh (k := 0) (by kernel_rfl) (by kernel_rfl)
    · refine Run.p [true] (by kernel_rfl) ?_
      refine Run.k (c := (decide (0 ≤ (wu64 (w64 (a1.val - 64)).val).val))) (by kernel_rfl) (by simp only [w64_val, wu64_val, c64_val, cu64_val, decide_eq_true_eq, decide_eq_false_iff_not, cond_true, cond_false] at *; omega) ?_
      exact Run.rh (k := 0) (by kernel_rfl) (by kernel_rfl)

theorem ok_spec_MulFloor (a0 : I64) (a1 : I64) (a2 : I64) : Fun Tryz.prog 159 [] #[vI a0, vI a1, vI a2] (vT_I_B (F_spec_MulFloor a0 a1 a2)) [] := by
  refine Fun.ofH 400 E_ok mixed Tryz.func159 (by kernel_rfl) (by kernel_rfl) ?_
  unfold F_spec_MulFloor
  refine Run.bH (e := vB) (gv := vT_I_B) (by kernel_rfl) (by kernel_rfl) (ok_spec_l00In _ _ _) (fun _ => rfl) fun r1 => ?_
  refine Run.jH (gv := vT_I_B) (by kernel_rfl) (?_) (?_)
  · exact Run.rh (k := 0) (by kernel_rfl) (by kernel_rfl)
  · refine Run.bH (e := vWd) (gv := vT_I_B) (by kernel_rfl) (by kernel_rfl) (ok_spec_l02Mul _ _) (fun _ => rfl) fun r2 => ?_
    refine Run.bH (e := vWd) (gv := vT_I_B) (by kernel_rfl) (by kernel_rfl) (ok_spec_l02Shift _ _) (fun _ => rfl) fun r3 => ?_
    refine Run.bH (e := vT_I_B) (gv := vT_I_B) (by kernel_rfl) (by kernel_rfl) (ok_spec_l02Int _) (fun _ => rfl) fun r4 => ?_
    exact Run.rh (k := 0) (by kernel_rfl) (by kernel_rfl)

theorem ok_spec_l05Turn_r : ∀ (fu : Nat) (a0 : I64) (p0 : -9223372036854775808 < a0.val) (hm : min (0 - a0.val).toNat 1 < fu), Fun Tryz.prog 119 [] #[vI a0] (vIv (F_spec_l05Turn_r fu a0)) [] := by
  intro fu
  induction fu with
  | zero => intro a0 p0 hm; exact absurd hm (Nat.not_lt_zero _)
  | succ fu ih =>
    intro a0 p0 hm
    refine Fun.ofH 400 E_ok mixed Tryz.func119 (by kernel_rfl) (by kernel_rfl) ?_
    unfold F_spec_l05Turn_r
    refine Run.jk (gv := vIv) (by kernel_rfl) (fun h1 => ?_) (fun h1 => ?_)
    · exact Run.rh (k := 0) (by kernel_rfl) (by kernel_rfl)
    · refine Run.jk (gv := vIv) (by kernel_rfl) (fun h2 => ?_) (fun h2 => ?_)
      · refine Run.bk (e := vIv) (gv := vIv) (by kernel_rfl) (by kernel_rfl) (ih (w64 (0 - a0.val)) (by simp only [w64_val, decide_eq_true_eq, decide_eq_false_iff_not] at *; omega) (by simp only [w64_val, decide_eq_true_eq, decide_eq_false_iff_not] at *; omega)) (fun _ => rfl) fun r3 hr3 => ?_
        exact Run.rh (k := 0) (by kernel_rfl) (by kernel_rfl)
      · refine Run.bk (e := vT_I_B) (gv := vIv) (by kernel_rfl) (by kernel_rfl) (ok_spec_MulFloor _ _ _) (fun _ => rfl) fun r4 hr4 => ?_
        exact Run.rh (k := 0) (by kernel_rfl) (by kernel_rfl)
theorem ok_spec_l05Turn (a0 : I64) (p0 : -9223372036854775808 < a0.val) : Fun Tryz.prog 119 [] #[vI a0] (vIv (F_spec_l05Turn a0)) [] := ok_spec_l05Turn_r 2 a0 p0 (by omega)

theorem ok_spec_TurnI (a0 : I64) : Fun Tryz.prog 113 [] #[vI a0] (vIv (F_spec_TurnI a0)) [] := by
  refine Fun.ofH 400 E_ok mixed Tryz.func113 (by kernel_rfl) (by kernel_rfl) ?_
  unfold F_spec_TurnI
  refine Run.bk (e := vB) (gv := vIv) (by kernel_rfl) (by kernel_rfl) (ok_spec_l00In _ _ _) (fun _ => rfl) fun r1 hr1 => ?_
  refine Run.jk (gv := vIv) (by kernel_rfl) (fun h2 => ?_) (fun h2 => ?_)
  · refine Run.bk (e := vIv) (gv := vIv) (by kernel_rfl) (by kernel_rfl) (ok_spec_Whole) (fun _ => rfl) fun r3 hr3 => ?_
    exact Run.rh (k := 0) (by kernel_rfl) (by kernel_rfl)
  · refine Run.bk (e := vIv) (gv := vIv) (by kernel_rfl) (by kernel_rfl) (ok_spec_l05Turn _ (by rw [hr1] at h2; simp only [F_spec_l00In, c64_val] at h2; by_cases z : a0.val ≥ -4096 <;> simp [z] at h2 <;> omega)) (fun _ => rfl) fun r4 hr4 => ?_
    exact Run.rh (k := 0) (by kernel_rfl) (by kernel_rfl)

theorem ok_spec_SubI (a0 : Iv) (a1 : Iv) : Fun Tryz.prog 60 [] #[vIv a0, vIv a1] (vIv (F_spec_SubI a0 a1)) [] := by
  refine Fun.ofH 400 E_ok mixed Tryz.func60 (by kernel_rfl) (by kernel_rfl) ?_
  unfold F_spec_SubI
  refine Run.bH (e := vB) (gv := vIv) (by kernel_rfl) (by kernel_rfl) (ok_spec_l04Ok _) (fun _ => rfl) fun r1 => ?_
  refine Run.jH (gv := vIv) (by kernel_rfl) (?_) (?_)
  · refine Run.p [true, true, true, true] (by kernel_rfl) ?_
    refine Run.bH (e := vIv) (gv := vIv) (by kernel_rfl) (by kernel_rfl) (ok_spec_l04Whole) (fun _ => rfl) fun r2 => ?_
    exact Run.rh (k := 0) (by kernel_rfl) (by kernel_rfl)
  · refine Run.p [false] (by kernel_rfl) ?_
    refine Run.bH (e := vB) (gv := vIv) (by kernel_rfl) (by kernel_rfl) (ok_spec_l04Ok _) (fun _ => rfl) fun r3 => ?_
    refine Run.p [false, false] (by kernel_rfl) ?_
    refine Run.jH (gv := vIv) (by kernel_rfl) (?_) (?_)
    · refine Run.bH (e := vIv) (gv := vIv) (by kernel_rfl) (by kernel_rfl) (ok_spec_l04Whole) (fun _ => rfl) fun r4 => ?_
      exact Run.rh (k := 0) (by kernel_rfl) (by kernel_rfl)
    · refine Run.bH (e := vIv) (gv := vIv) (by kernel_rfl) (by kernel_rfl) (ok_spec_l04Make _ _) (fun _ => rfl) fun r5 => ?_
      exact Run.rh (k := 0) (by kernel_rfl) (by kernel_rfl)

theorem ok_spec_InsideI (a0 : Iv) (a1 : Iv) : Fun Tryz.prog 256 [] #[vIv a0, vIv a1] (vB (F_spec_InsideI a0 a1)) [] := by
  refine Fun.ofH 400 E_ok mixed Tryz.func256 (by kernel_rfl) (by kernel_rfl) ?_
  unfold F_spec_InsideI
  refine Run.bH (e := vB) (gv := vB) (by kernel_rfl) (by kernel_rfl) (ok_spec_l04Ok _) (fun _ => rfl) fun r1 => ?_
  refine Run.jH (gv := vB) (by kernel_rfl) (?_) (?_)
  · exact Run.rh (k := 0) (by kernel_rfl) (by kernel_rfl)
  · refine Run.bH (e := vB) (gv := vB) (by kernel_rfl) (by kernel_rfl) (ok_spec_l04Ok _) (fun _ => rfl) fun r2 => ?_
    refine Run.jH (gv := vB) (by kernel_rfl) (?_) (?_)
    · refine Run.p [true, true, true, true, true] (by kernel_rfl) ?_
      refine Run.jH (gv := vB) (by kernel_rfl) (?_) (?_)
      · refine Run.p [true, true, true, true, true] (by kernel_rfl) ?_
        exact Run.rh (k := 0) (by kernel_rfl) (by kernel_rfl)
      · refine Run.p [false, false, false, false, false] (by kernel_rfl) ?_
        exact Run.rh (k := 0) (by kernel_rfl) (by kernel_rfl)
    · refine Run.p [false, false, false, false, false, false, false, false, false, false, false] (by kernel_rfl) ?_
      exact Run.rh (k := 0) (by kernel_rfl) (by kernel_rfl)

theorem ok_spec_l00Max (a0 : I64) (a1 : I64) : Fun Tryz.prog 92 [] #[vI a0, vI a1] (vI (F_spec_l00Max a0 a1)) [] := by
  refine Fun.ofH 400 E_ok mixed Tryz.func92 (by kernel_rfl) (by kernel_rfl) ?_
  unfold F_spec_l00Max
  refine Run.jH (gv := vI) (by kernel_rfl) (?_) (?_)
  · exact Run.rh (k := 0) (by kernel_rfl) (by kernel_rfl)
  · exact Run.rh (k := 0) (by kernel_rfl) (by kernel_rfl)

theorem ok_spec_l04Has (a0 : Iv) (a1 : I64) : Fun Tryz.prog 148 [] #[vIv a0, vI a1] (vB (F_spec_l04Has a0 a1)) [] := by
  refine Fun.ofH 400 E_ok mixed Tryz.func148 (by kernel_rfl) (by kernel_rfl) ?_
  unfold F_spec_l04Has
  refine Run.bH (e := vB) (gv := vB) (by kernel_rfl) (by kernel_rfl) (ok_spec_l00In _ _ _) (fun _ => rfl) fun r1 => ?_
  exact Run.rh (k := 0) (by kernel_rfl) (by kernel_rfl)

theorem ok_spec_l00Min (a0 : I64) (a1 : I64) : Fun Tryz.prog 91 [] #[vI a0, vI a1] (vI (F_spec_l00Min a0 a1)) [] := by
  refine Fun.ofH 400 E_ok mixed Tryz.func91 (by kernel_rfl) (by kernel_rfl) ?_
  unfold F_spec_l00Min
  refine Run.jH (gv := vI) (by kernel_rfl) (?_) (?_)
  · exact Run.rh (k := 0) (by kernel_rfl) (by kernel_rfl)
  · exact Run.rh (k := 0) (by kernel_rfl) (by kernel_rfl)

theorem ok_spec_l04Ends (a0 : Iv) : Fun Tryz.prog 115 [] #[vIv a0] (vT_I_I (F_spec_l04Ends a0)) [] := by
  refine Fun.ofH 400 E_ok mixed Tryz.func115 (by kernel_rfl) (by kernel_rfl) ?_
  unfold F_spec_l04Ends
  refine Run.bH (e := vI) (gv := vT_I_I) (by kernel_rfl) (by kernel_rfl) (ok_spec_l00Max _ _) (fun _ => rfl) fun r1 => ?_
  refine Run.bH (e := vI) (gv := vT_I_I) (by kernel_rfl) (by kernel_rfl) (ok_spec_l00Max _ _) (fun _ => rfl) fun r2 => ?_
  refine Run.bH (e := vB) (gv := vT_I_I) (by kernel_rfl) (by kernel_rfl) (ok_spec_l04Has _ _) (fun _ => rfl) fun r3 => ?_
  refine Run.jH (gv := vT_I_I) (by kernel_rfl) (?_) (?_)
  · refine Run.bH (e := vI) (gv := vT_I_I) (by kernel_rfl) (by kernel_rfl) (ok_spec_l00Max _ _) (fun _ => rfl) fun r4 => ?_
    exact Run.rh (k := 0) (by kernel_rfl) (by kernel_rfl)
  · refine Run.bH (e := vI) (gv := vT_I_I) (by kernel_rfl) (by kernel_rfl) (ok_spec_l00Min _ _) (fun _ => rfl) fun r5 => ?_
    refine Run.bH (e := vI) (gv := vT_I_I) (by kernel_rfl) (by kernel_rfl) (ok_spec_l00Max _ _) (fun _ => rfl) fun r6 => ?_
    exact Run.rh (k := 0) (by kernel_rfl) (by kernel_rfl)

theorem ok_spec_l03Ok (a0 : I64) : Fun Tryz.prog 158 [] #[vI a0] (vB (F_spec_l03Ok a0)) [] := by
  refine Fun.ofH 400 E_ok mixed Tryz.func158 (by kernel_rfl) (by kernel_rfl) ?_
  unfold F_spec_l03Ok
  refine Run.bH (e := vB) (gv := vB) (by kernel_rfl) (by kernel_rfl) (ok_spec_l00In _ _ _) (fun _ => rfl) fun r1 => ?_
  exact Run.rh (k := 0) (by kernel_rfl) (by kernel_rfl)

theorem ok_spec_l03End (a0 : I64) (a1 : Bool) : Fun Tryz.prog 160 [] #[vI a0, vB a1] (vT_I_B (F_spec_l03End a0 a1)) [] := by
  refine Fun.ofH 400 E_ok mixed Tryz.func160 (by kernel_rfl) (by kernel_rfl) ?_
  unfold F_spec_l03End
  refine Run.jH (gv := vT_I_B) (by kernel_rfl) (?_) (?_)
  · refine Run.p [true, true, true, true] (by kernel_rfl) ?_
    exact Run.rh (k := 0) (by kernel_rfl) (by kernel_rfl)
  · refine Run.p [false] (by kernel_rfl) ?_
    refine Run.bH (e := vB) (gv := vT_I_B) (by kernel_rfl) (by kernel_rfl) (ok_spec_l03Ok _) (fun _ => rfl) fun r1 => ?_
    refine Run.p [false, false] (by kernel_rfl) ?_
    refine Run.jH (gv := vT_I_B) (by kernel_rfl) (?_) (?_)
    · exact Run.rh (k := 0) (by kernel_rfl) (by kernel_rfl)
    · exact Run.rh (k := 0) (by kernel_rfl) (by kernel_rfl)

theorem ok_spec_l03MulDown (a0 : I64) (a1 : I64) : Fun Tryz.prog 89 [] #[vI a0, vI a1] (vT_I_B (F_spec_l03MulDown a0 a1)) [] := by
  refine Fun.ofH 400 E_ok mixed Tryz.func89 (by kernel_rfl) (by kernel_rfl) ?_
  unfold F_spec_l03MulDown
  refine Run.bH (e := vB) (gv := vT_I_B) (by kernel_rfl) (by kernel_rfl) (ok_spec_l03Ok _) (fun _ => rfl) fun r1 => ?_
  refine Run.jH (gv := vT_I_B) (by kernel_rfl) (?_) (?_)
  · refine Run.p [true, true, true, true] (by kernel_rfl) ?_
    exact Run.rh (k := 0) (by kernel_rfl) (by kernel_rfl)
  · refine Run.p [false] (by kernel_rfl) ?_
    refine Run.bH (e := vB) (gv := vT_I_B) (by kernel_rfl) (by kernel_rfl) (ok_spec_l03Ok _) (fun _ => rfl) fun r2 => ?_
    refine Run.p [false, false] (by kernel_rfl) ?_
    refine Run.jH (gv := vT_I_B) (by kernel_rfl) (?_) (?_)
    · exact Run.rh (k := 0) (by kernel_rfl) (by kernel_rfl)
    · refine Run.bH (e := vT_I_B) (gv := vT_I_B) (by kernel_rfl) (by kernel_rfl) (ok_spec_MulFloor _ _ _) (fun _ => rfl) fun r3 => ?_
      refine Run.bH (e := vT_I_B) (gv := vT_I_B) (by kernel_rfl) (by kernel_rfl) (ok_spec_l03End _ _) (fun _ => rfl) fun r4 => ?_
      exact Run.rh (k := 0) (by kernel_rfl) (by kernel_rfl)

theorem ok_spec_l03MulUp (a0 : I64) (a1 : I64) : Fun Tryz.prog 90 [] #[vI a0, vI a1] (vT_I_B (F_spec_l03MulUp a0 a1)) [] := by
  refine Fun.ofH 400 E_ok mixed Tryz.func90 (by kernel_rfl) (by kernel_rfl) ?_
  unfold F_spec_l03MulUp
  refine Run.bH (e := vT_I_B) (gv := vT_I_B) (by kernel_rfl) (by kernel_rfl) (ok_spec_l03MulDown _ _) (fun _ => rfl) fun r1 => ?_
  refine Run.bH (e := vB) (gv := vT_I_B) (by kernel_rfl) (by kernel_rfl) (ok_spec_l03Ok _) (fun _ => rfl) fun r2 => ?_
  refine Run.jH (gv := vT_I_B) (by kernel_rfl) (?_) (?_)
  · refine Run.p [true, true, true] (by kernel_rfl) ?_
    exact Run.rh (k := 0) (by kernel_rfl) (by kernel_rfl)
  · refine Run.p [false, false] (by kernel_rfl) ?_
    refine Run.jH (gv := vT_I_B) (by kernel_rfl) (?_) (?_)
    · exact Run.rh (k := 0) (by kernel_rfl) (by kernel_rfl)
    · exact Run.rh (k := 0) (by kernel_rfl) (by kernel_rfl)

theorem ok_spec_SqrI (a0 : Iv) : Fun Tryz.prog 144 [] #[vIv a0] (vIv (F_spec_SqrI a0)) [] := by
  refine Fun.ofH 400 E_ok mixed Tryz.func144 (by kernel_rfl) (by kernel_rfl) ?_
  unfold F_spec_SqrI
  refine Run.bH (e := vB) (gv := vIv) (by kernel_rfl) (by kernel_rfl) (ok_spec_l04Ok _) (fun _ => rfl) fun r1 => ?_
  refine Run.jH (gv := vIv) (by kernel_rfl) (?_) (?_)
  · refine Run.bH (e := vIv) (gv := vIv) (by kernel_rfl) (by kernel_rfl) (ok_spec_l04Whole) (fun _ => rfl) fun r2 => ?_
    exact Run.rh (k := 0) (by kernel_rfl) (by kernel_rfl)
  · refine Run.bH (e := vT_I_I) (gv := vIv) (by kernel_rfl) (by kernel_rfl) (ok_spec_l04Ends _) (fun _ => rfl) fun r3 => ?_
    refine Run.bH (e := vT_I_B) (gv := vIv) (by kernel_rfl) (by kernel_rfl) (ok_spec_l03MulDown _ _) (fun _ => rfl) fun r4 => ?_
    refine Run.bH (e := vT_I_B) (gv := vIv) (by kernel_rfl) (by kernel_rfl) (ok_spec_l03MulUp _ _) (fun _ => rfl) fun r5 => ?_
    refine Run.jH (gv := vIv) (by kernel_rfl) (?_) (?_)
    · refine Run.p [true, true, true] (by kernel_rfl) ?_
      refine Run.bH (e := vIv) (gv := vIv) (by kernel_rfl) (by kernel_rfl) (ok_spec_l04Whole) (fun _ => rfl) fun r6 => ?_
      exact Run.rh (k := 0) (by kernel_rfl) (by kernel_rfl)
    · refine Run.p [false, false] (by kernel_rfl) ?_
      refine Run.jH (gv := vIv) (by kernel_rfl) (?_) (?_)
      · refine Run.bH (e := vIv) (gv := vIv) (by kernel_rfl) (by kernel_rfl) (ok_spec_l04Whole) (fun _ => rfl) fun r7 => ?_
        exact Run.rh (k := 0) (by kernel_rfl) (by kernel_rfl)
      · refine Run.bH (e := vIv) (gv := vIv) (by kernel_rfl) (by kernel_rfl) (ok_spec_l04Make _ _) (fun _ => rfl) fun r8 => ?_
        exact Run.rh (k := 0) (by kernel_rfl) (by kernel_rfl)

theorem ok_spec_Integer (a0 : I64) : Fun Tryz.prog 116 [] #[vI a0] (vIv (F_spec_Integer a0)) [] := by
  refine Fun.ofH 400 E_ok mixed Tryz.func116 (by kernel_rfl) (by kernel_rfl) ?_
  unfold F_spec_Integer
  refine Run.bH (e := vB) (gv := vIv) (by kernel_rfl) (by kernel_rfl) (ok_spec_l00In _ _ _) (fun _ => rfl) fun r1 => ?_
  refine Run.jH (gv := vIv) (by kernel_rfl) (?_) (?_)
  · refine Run.bH (e := vIv) (gv := vIv) (by kernel_rfl) (by kernel_rfl) (ok_spec_l04Whole) (fun _ => rfl) fun r2 => ?_
    exact Run.rh (k := 0) (by kernel_rfl) (by kernel_rfl)
  · refine Run.bH (e := vIv) (gv := vIv) (by kernel_rfl) (by kernel_rfl) (ok_spec_l04Make _ _) (fun _ => rfl) fun r3 => ?_
    exact Run.rh (k := 0) (by kernel_rfl) (by kernel_rfl)

theorem ok_spec_l03DivDown (a0 : I64) (a1 : I64) : Fun Tryz.prog 149 [] #[vI a0, vI a1] (vT_I_B (F_spec_l03DivDown a0 a1)) [] := by
  refine Fun.ofH 400 E_ok mixed Tryz.func149 (by kernel_rfl) (by kernel_rfl) ?_
  unfold F_spec_l03DivDown
  refine Run.bH (e := vB) (gv := vT_I_B) (by kernel_rfl) (by kernel_rfl) (ok_spec_l03Ok _) (fun _ => rfl) fun r1 => ?_
  refine Run.jH (gv := vT_I_B) (by kernel_rfl) (?_) (?_)
  · refine Run.p [true, true, true, true, true, true, true] (by kernel_rfl) ?_
    exact Run.rh (k := 0) (by kernel_rfl) (by kernel_rfl)
  · refine Run.p [false] (by kernel_rfl) ?_
    refine Run.bH (e := vB) (gv := vT_I_B) (by kernel_rfl) (by kernel_rfl) (ok_spec_l03Ok _) (fun _ => rfl) fun r2 => ?_
    refine Run.p [false, false] (by kernel_rfl) ?_
    refine Run.jH (gv := vT_I_B) (by kernel_rfl) (?_) (?_)
    · refine Run.p [true, true, true] (by kernel_rfl) ?_
      exact Run.rh (k := 0) (by kernel_rfl) (by kernel_rfl)
    · refine Run.p [false, false] (by kernel_rfl) ?_
      refine Run.jH (gv := vT_I_B) (by kernel_rfl) (?_) (?_)
      · exact Run.rh (k := 0) (by kernel_rfl) (by kernel_rfl)
      · refine Run.jH (gv := vT_I_B) (by kernel_rfl) (?_) (?_)
        · refine Run.bH (e := vT_I_B) (gv := vT_I_B) (by kernel_rfl) (by kernel_rfl) (ok_spec_MulDivFloor _ _ _) (fun _ => rfl) fun r3 => ?_
          refine Run.bH (e := vT_I_B) (gv := vT_I_B) (by kernel_rfl) (by kernel_rfl) (ok_spec_l03End _ _) (fun _ => rfl) fun r4 => ?_
          exact Run.rh (k := 0) (by kernel_rfl) (by kernel_rfl)
        · refine Run.bH (e := vT_I_B) (gv := vT_I_B) (by kernel_rfl) (by kernel_rfl) (ok_spec_MulDivFloor _ _ _) (fun _ => rfl) fun r5 => ?_
          refine Run.bH (e := vT_I_B) (gv := vT_I_B) (by kernel_rfl) (by kernel_rfl) (ok_spec_l03End _ _) (fun _ => rfl) fun r6 => ?_
          exact Run.rh (k := 0) (by kernel_rfl) (by kernel_rfl)

theorem ok_spec_l03DivUp (a0 : I64) (a1 : I64) : Fun Tryz.prog 150 [] #[vI a0, vI a1] (vT_I_B (F_spec_l03DivUp a0 a1)) [] := by
  refine Fun.ofH 400 E_ok mixed Tryz.func150 (by kernel_rfl) (by kernel_rfl) ?_
  unfold F_spec_l03DivUp
  refine Run.bH (e := vB) (gv := vT_I_B) (by kernel_rfl) (by kernel_rfl) (ok_spec_l03Ok _) (fun _ => rfl) fun r1 => ?_
  refine Run.jH (gv := vT_I_B) (by kernel_rfl) (?_) (?_)
  · exact Run.rh (k := 0) (by kernel_rfl) (by kernel_rfl)
  · refine Run.bH (e := vT_I_B) (gv := vT_I_B) (by kernel_rfl) (by kernel_rfl) (ok_spec_l03DivDown _ _) (fun _ => rfl) fun r2 => ?_
    exact Run.rh (k := 0) (by kernel_rfl) (by kernel_rfl)

theorem ok_spec_DivI (a0 : Iv) (a1 : Iv) : Fun Tryz.prog 76 [] #[vIv a0, vIv a1] (vIv (F_spec_DivI a0 a1)) [] := by
  refine Fun.ofH 400 E_ok mixed Tryz.func76 (by kernel_rfl) (by kernel_rfl) ?_
  unfold F_spec_DivI
  refine Run.bH (e := vB) (gv := vIv) (by kernel_rfl) (by kernel_rfl) (ok_spec_l04Ok _) (fun _ => rfl) fun r1 => ?_
  refine Run.jH (gv := vIv) (by kernel_rfl) (?_) (?_)
  · refine Run.p [true, true, true, true, true, true, true] (by kernel_rfl) ?_
    refine Run.bH (e := vIv) (gv := vIv) (by kernel_rfl) (by kernel_rfl) (ok_spec_l04Whole) (fun _ => rfl) fun r2 => ?_
    exact Run.rh (k := 0) (by kernel_rfl) (by kernel_rfl)
  · refine Run.p [false] (by kernel_rfl) ?_
    refine Run.bH (e := vB) (gv := vIv) (by kernel_rfl) (by kernel_rfl) (ok_spec_l04Ok _) (fun _ => rfl) fun r3 => ?_
    refine Run.p [false, false] (by kernel_rfl) ?_
    refine Run.jH (gv := vIv) (by kernel_rfl) (?_) (?_)
    · refine Run.p [true, true, true] (by kernel_rfl) ?_
      refine Run.bH (e := vIv) (gv := vIv) (by kernel_rfl) (by kernel_rfl) (ok_spec_l04Whole) (fun _ => rfl) fun r4 => ?_
      exact Run.rh (k := 0) (by kernel_rfl) (by kernel_rfl)
    · refine Run.p [false] (by kernel_rfl) ?_
      refine Run.bH (e := vB) (gv := vIv) (by kernel_rfl) (by kernel_rfl) (ok_spec_l04Has _ _) (fun _ => rfl) fun r5 => ?_
      refine Run.p [false] (by kernel_rfl) ?_
      refine Run.jH (gv := vIv) (by kernel_rfl) (?_) (?_)
      · refine Run.bH (e := vIv) (gv := vIv) (by kernel_rfl) (by kernel_rfl) (ok_spec_l04Whole) (fun _ => rfl) fun r6 => ?_
        exact Run.rh (k := 0) (by kernel_rfl) (by kernel_rfl)
      · refine Run.u 400 E_ok mixed Tryz.func76 ?_
        refine Run.p [true] (by kernel_rfl) ?_
        refine Run.u 400 E_ok mixed Tryz.func76 ?_
        refine Run.p [true, true, true] (by kernel_rfl) ?_
        refine Run.bH (e := vT_I_B) (gv := vIv) (by kernel_rfl) (by kernel_rfl) (ok_spec_l03DivDown _ _) (fun _ => rfl) fun r7 => ?_
        refine Run.p [true, true] (by kernel_rfl) ?_
        refine Run.bH (e := vT_I_B) (gv := vIv) (by kernel_rfl) (by kernel_rfl) (ok_spec_l03DivUp _ _) (fun _ => rfl) fun r8 => ?_
        refine Run.jH (gv := vIv) (by kernel_rfl) (?_) (?_)
        · refine Run.p [true, true, true] (by kernel_rfl) ?_
          refine Run.bH (e := vIv) (gv := vIv) (by kernel_rfl) (by kernel_rfl) (ok_spec_l04Whole) (fun _ => rfl) fun r9 => ?_
          exact Run.rh (k := 0) (by kernel_rfl) (by kernel_rfl)
        · refine Run.p [false, false] (by kernel_rfl) ?_
          refine Run.jH (gv := vIv) (by kernel_rfl) (?_) (?_)
          · refine Run.bH (e := vIv) (gv := vIv) (by kernel_rfl) (by kernel_rfl) (ok_spec_l04Whole) (fun _ => rfl) fun r10 => ?_
            exact Run.rh (k := 0) (by kernel_rfl) (by kernel_rfl)
          · refine Run.bH (e := vI) (gv := vIv) (by kernel_rfl) (by kernel_rfl) (ok_spec_l00Min _ _) (fun _ => rfl) fun r11 => ?_
            refine Run.bH (e := vI) (gv := vIv) (by kernel_rfl) (by kernel_rfl) (ok_spec_l00Max _ _) (fun _ => rfl) fun r12 => ?_
            refine Run.u 400 E_ok mixed Tryz.func76 ?_
            refine Run.p [true, true, true] (by kernel_rfl) ?_
            refine Run.bH (e := vT_I_B) (gv := vIv) (by kernel_rfl) (by kernel_rfl) (ok_spec_l03DivDown _ _) (fun _ => rfl) fun r13 => ?_
            refine Run.p [true, true] (by kernel_rfl) ?_
            refine Run.bH (e := vT_I_B) (gv := vIv) (by kernel_rfl) (by kernel_rfl) (ok_spec_l03DivUp _ _) (fun _ => rfl) fun r14 => ?_
            refine Run.jH (gv := vIv) (by kernel_rfl) (?_) (?_)
            · refine Run.p [true, true, true] (by kernel_rfl) ?_
              refine Run.bH (e := vIv) (gv := vIv) (by kernel_rfl) (by kernel_rfl) (ok_spec_l04Whole) (fun _ => rfl) fun r15 => ?_
              exact Run.rh (k := 0) (by kernel_rfl) (by kernel_rfl)
            · refine Run.p [false, false] (by kernel_rfl) ?_
              refine Run.jH (gv := vIv) (by kernel_rfl) (?_) (?_)
              · refine Run.bH (e := vIv) (gv := vIv) (by kernel_rfl) (by kernel_rfl) (ok_spec_l04Whole) (fun _ => rfl) fun r16 => ?_
                exact Run.rh (k := 0) (by kernel_rfl) (by kernel_rfl)
              · refine Run.bH (e := vI) (gv := vIv) (by kernel_rfl) (by kernel_rfl) (ok_spec_l00Min _ _) (fun _ => rfl) fun r17 => ?_
                refine Run.bH (e := vI) (gv := vIv) (by kernel_rfl) (by kernel_rfl) (ok_spec_l00Max _ _) (fun _ => rfl) fun r18 => ?_
                refine Run.u 400 E_ok mixed Tryz.func76 ?_
                refine Run.p [false] (by kernel_rfl) ?_
                refine Run.u 400 E_ok mixed Tryz.func76 ?_
                refine Run.p [true] (by kernel_rfl) ?_
                refine Run.u 400 E_ok mixed Tryz.func76 ?_
                refine Run.p [true, true, true] (by kernel_rfl) ?_
                refine Run.bH (e := vT_I_B) (gv := vIv) (by kernel_rfl) (by kernel_rfl) (ok_spec_l03DivDown _ _) (fun _ => rfl) fun r19 => ?_
                refine Run.p [true, true] (by kernel_rfl) ?_
                refine Run.bH (e := vT_I_B) (gv := vIv) (by kernel_rfl) (by kernel_rfl) (ok_spec_l03DivUp _ _) (fun _ => rfl) fun r20 => ?_
                refine Run.jH (gv := vIv) (by kernel_rfl) (?_) (?_)
                · refine Run.p [true, true, true] (by kernel_rfl) ?_
                  refine Run.bH (e := vIv) (gv := vIv) (by kernel_rfl) (by kernel_rfl) (ok_spec_l04Whole) (fun _ => rfl) fun r21 => ?_
                  exact Run.rh (k := 0) (by kernel_rfl) (by kernel_rfl)
                · refine Run.p [false, false] (by kernel_rfl) ?_
                  refine Run.jH (gv := vIv) (by kernel_rfl) (?_) (?_)
                  · refine Run.bH (e := vIv) (gv := vIv) (by kernel_rfl) (by kernel_rfl) (ok_spec_l04Whole) (fun _ => rfl) fun r22 => ?_
                    exact Run.rh (k := 0) (by kernel_rfl) (by kernel_rfl)
                  · refine Run.bH (e := vI) (gv := vIv) (by kernel_rfl) (by kernel_rfl) (ok_spec_l00Min _ _) (fun _ => rfl) fun r23 => ?_
                    refine Run.bH (e := vI) (gv := vIv) (by kernel_rfl) (by kernel_rfl) (ok_spec_l00Max _ _) (fun _ => rfl) fun r24 => ?_
                    refine Run.u 400 E_ok mixed Tryz.func76 ?_
                    refine Run.p [true, true, true] (by kernel_rfl) ?_
                    refine Run.bH (e := vT_I_B) (gv := vIv) (by kernel_rfl) (by kernel_rfl) (ok_spec_l03DivDown _ _) (fun _ => rfl) fun r25 => ?_
                    refine Run.p [true, true] (by kernel_rfl) ?_
                    refine Run.bH (e := vT_I_B) (gv := vIv) (by kernel_rfl) (by kernel_rfl) (ok_spec_l03DivUp _ _) (fun _ => rfl) fun r26 => ?_
                    refine Run.jH (gv := vIv) (by kernel_rfl) (?_) (?_)
                    · refine Run.p [true, true, true] (by kernel_rfl) ?_
                      refine Run.bH (e := vIv) (gv := vIv) (by kernel_rfl) (by kernel_rfl) (ok_spec_l04Whole) (fun _ => rfl) fun r27 => ?_
                      exact Run.rh (k := 0) (by kernel_rfl) (by kernel_rfl)
                    · refine Run.p [false, false] (by kernel_rfl) ?_
                      refine Run.jH (gv := vIv) (by kernel_rfl) (?_) (?_)
                      · refine Run.bH (e := vIv) (gv := vIv) (by kernel_rfl) (by kernel_rfl) (ok_spec_l04Whole) (fun _ => rfl) fun r28 => ?_
                        exact Run.rh (k := 0) (by kernel_rfl) (by kernel_rfl)
                      · refine Run.bH (e := vI) (gv := vIv) (by kernel_rfl) (by kernel_rfl) (ok_spec_l00Min _ _) (fun _ => rfl) fun r29 => ?_
                        refine Run.bH (e := vI) (gv := vIv) (by kernel_rfl) (by kernel_rfl) (ok_spec_l00Max _ _) (fun _ => rfl) fun r30 => ?_
                        refine Run.u 400 E_ok mixed Tryz.func76 ?_
                        refine Run.p [false] (by kernel_rfl) ?_
                        refine Run.u 400 E_ok mixed Tryz.func76 ?_
                        refine Run.p [false] (by kernel_rfl) ?_
                        refine Run.bH (e := vIv) (gv := vIv) (by kernel_rfl) (by kernel_rfl) (ok_spec_l04Make _ _) (fun _ => rfl) fun r31 => ?_
                        exact Run.rh (k := 0) (by kernel_rfl) (by kernel_rfl)

theorem ok_spec_MulI (a0 : Iv) (a1 : Iv) : Fun Tryz.prog 32 [] #[vIv a0, vIv a1] (vIv (F_spec_MulI a0 a1)) [] := by
  refine Fun.ofH 400 E_ok mixed Tryz.func32 (by kernel_rfl) (by kernel_rfl) ?_
  unfold F_spec_MulI
  refine Run.bH (e := vB) (gv := vIv) (by kernel_rfl) (by kernel_rfl) (ok_spec_l04Ok _) (fun _ => rfl) fun r1 => ?_
  refine Run.jH (gv := vIv) (by kernel_rfl) (?_) (?_)
  · refine Run.p [true, true, true, true] (by kernel_rfl) ?_
    refine Run.bH (e := vIv) (gv := vIv) (by kernel_rfl) (by kernel_rfl) (ok_spec_l04Whole) (fun _ => rfl) fun r2 => ?_
    exact Run.rh (k := 0) (by kernel_rfl) (by kernel_rfl)
  · refine Run.p [false] (by kernel_rfl) ?_
    refine Run.bH (e := vB) (gv := vIv) (by kernel_rfl) (by kernel_rfl) (ok_spec_l04Ok _) (fun _ => rfl) fun r3 => ?_
    refine Run.p [false, false] (by kernel_rfl) ?_
    refine Run.jH (gv := vIv) (by kernel_rfl) (?_) (?_)
    · refine Run.bH (e := vIv) (gv := vIv) (by kernel_rfl) (by kernel_rfl) (ok_spec_l04Whole) (fun _ => rfl) fun r4 => ?_
      exact Run.rh (k := 0) (by kernel_rfl) (by kernel_rfl)
    · refine Run.u 400 E_ok mixed Tryz.func32 ?_
      refine Run.p [true] (by kernel_rfl) ?_
      refine Run.u 400 E_ok mixed Tryz.func32 ?_
      refine Run.p [true, true, true] (by kernel_rfl) ?_
      refine Run.bH (e := vT_I_B) (gv := vIv) (by kernel_rfl) (by kernel_rfl) (ok_spec_l03MulDown _ _) (fun _ => rfl) fun r5 => ?_
      refine Run.p [true, true] (by kernel_rfl) ?_
      refine Run.bH (e := vT_I_B) (gv := vIv) (by kernel_rfl) (by kernel_rfl) (ok_spec_l03MulUp _ _) (fun _ => rfl) fun r6 => ?_
      refine Run.jH (gv := vIv) (by kernel_rfl) (?_) (?_)
      · refine Run.p [true, true, true] (by kernel_rfl) ?_
        refine Run.bH (e := vIv) (gv := vIv) (by kernel_rfl) (by kernel_rfl) (ok_spec_l04Whole) (fun _ => rfl) fun r7 => ?_
        exact Run.rh (k := 0) (by kernel_rfl) (by kernel_rfl)
      · refine Run.p [false, false] (by kernel_rfl) ?_
        refine Run.jH (gv := vIv) (by kernel_rfl) (?_) (?_)
        · refine Run.bH (e := vIv) (gv := vIv) (by kernel_rfl) (by kernel_rfl) (ok_spec_l04Whole) (fun _ => rfl) fun r8 => ?_
          exact Run.rh (k := 0) (by kernel_rfl) (by kernel_rfl)
        · refine Run.bH (e := vI) (gv := vIv) (by kernel_rfl) (by kernel_rfl) (ok_spec_l00Min _ _) (fun _ => rfl) fun r9 => ?_
          refine Run.bH (e := vI) (gv := vIv) (by kernel_rfl) (by kernel_rfl) (ok_spec_l00Max _ _) (fun _ => rfl) fun r10 => ?_
          refine Run.u 400 E_ok mixed Tryz.func32 ?_
          refine Run.p [true, true, true] (by kernel_rfl) ?_
          refine Run.bH (e := vT_I_B) (gv := vIv) (by kernel_rfl) (by kernel_rfl) (ok_spec_l03MulDown _ _) (fun _ => rfl) fun r11 => ?_
          refine Run.p [true, true] (by kernel_rfl) ?_
          refine Run.bH (e := vT_I_B) (gv := vIv) (by kernel_rfl) (by kernel_rfl) (ok_spec_l03MulUp _ _) (fun _ => rfl) fun r12 => ?_
          refine Run.jH (gv := vIv) (by kernel_rfl) (?_) (?_)
          · refine Run.p [true, true, true] (by kernel_rfl) ?_
            refine Run.bH (e := vIv) (gv := vIv) (by kernel_rfl) (by kernel_rfl) (ok_spec_l04Whole) (fun _ => rfl) fun r13 => ?_
            exact Run.rh (k := 0) (by kernel_rfl) (by kernel_rfl)
          · refine Run.p [false, false] (by kernel_rfl) ?_
            refine Run.jH (gv := vIv) (by kernel_rfl) (?_) (?_)
            · refine Run.bH (e := vIv) (gv := vIv) (by kernel_rfl) (by kernel_rfl) (ok_spec_l04Whole) (fun _ => rfl) fun r14 => ?_
              exact Run.rh (k := 0) (by kernel_rfl) (by kernel_rfl)
            · refine Run.bH (e := vI) (gv := vIv) (by kernel_rfl) (by kernel_rfl) (ok_spec_l00Min _ _) (fun _ => rfl) fun r15 => ?_
              refine Run.bH (e := vI) (gv := vIv) (by kernel_rfl) (by kernel_rfl) (ok_spec_l00Max _ _) (fun _ => rfl) fun r16 => ?_
              refine Run.u 400 E_ok mixed Tryz.func32 ?_
              refine Run.p [false] (by kernel_rfl) ?_
              refine Run.u 400 E_ok mixed Tryz.func32 ?_
              refine Run.p [true] (by kernel_rfl) ?_
              refine Run.u 400 E_ok mixed Tryz.func32 ?_
              refine Run.p [true, true, true] (by kernel_rfl) ?_
              refine Run.bH (e := vT_I_B) (gv := vIv) (by kernel_rfl) (by kernel_rfl) (ok_spec_l03MulDown _ _) (fun _ => rfl) fun r17 => ?_
              refine Run.p [true, true] (by kernel_rfl) ?_
              refine Run.bH (e := vT_I_B) (gv := vIv) (by kernel_rfl) (by kernel_rfl) (ok_spec_l03MulUp _ _) (fun _ => rfl) fun r18 => ?_
              refine Run.jH (gv := vIv) (by kernel_rfl) (?_) (?_)
              · refine Run.p [true, true, true] (by kernel_rfl) ?_
                refine Run.bH (e := vIv) (gv := vIv) (by kernel_rfl) (by kernel_rfl) (ok_spec_l04Whole) (fun _ => rfl) fun r19 => ?_
                exact Run.rh (k := 0) (by kernel_rfl) (by kernel_rfl)
              · refine Run.p [false, false] (by kernel_rfl) ?_
                refine Run.jH (gv := vIv) (by kernel_rfl) (?_) (?_)
                · refine Run.bH (e := vIv) (gv := vIv) (by kernel_rfl) (by kernel_rfl) (ok_spec_l04Whole) (fun _ => rfl) fun r20 => ?_
                  exact Run.rh (k := 0) (by kernel_rfl) (by kernel_rfl)
                · refine Run.bH (e := vI) (gv := vIv) (by kernel_rfl) (by kernel_rfl) (ok_spec_l00Min _ _) (fun _ => rfl) fun r21 => ?_
                  refine Run.bH (e := vI) (gv := vIv) (by kernel_rfl) (by kernel_rfl) (ok_spec_l00Max _ _) (fun _ => rfl) fun r22 => ?_
                  refine Run.u 400 E_ok mixed Tryz.func32 ?_
                  refine Run.p [true, true, true] (by kernel_rfl) ?_
                  refine Run.bH (e := vT_I_B) (gv := vIv) (by kernel_rfl) (by kernel_rfl) (ok_spec_l03MulDown _ _) (fun _ => rfl) fun r23 => ?_
                  refine Run.p [true, true] (by kernel_rfl) ?_
                  refine Run.bH (e := vT_I_B) (gv := vIv) (by kernel_rfl) (by kernel_rfl) (ok_spec_l03MulUp _ _) (fun _ => rfl) fun r24 => ?_
                  refine Run.jH (gv := vIv) (by kernel_rfl) (?_) (?_)
                  · refine Run.p [true, true, true] (by kernel_rfl) ?_
                    refine Run.bH (e := vIv) (gv := vIv) (by kernel_rfl) (by kernel_rfl) (ok_spec_l04Whole) (fun _ => rfl) fun r25 => ?_
                    exact Run.rh (k := 0) (by kernel_rfl) (by kernel_rfl)
                  · refine Run.p [false, false] (by kernel_rfl) ?_
                    refine Run.jH (gv := vIv) (by kernel_rfl) (?_) (?_)
                    · refine Run.bH (e := vIv) (gv := vIv) (by kernel_rfl) (by kernel_rfl) (ok_spec_l04Whole) (fun _ => rfl) fun r26 => ?_
                      exact Run.rh (k := 0) (by kernel_rfl) (by kernel_rfl)
                    · refine Run.bH (e := vI) (gv := vIv) (by kernel_rfl) (by kernel_rfl) (ok_spec_l00Min _ _) (fun _ => rfl) fun r27 => ?_
                      refine Run.bH (e := vI) (gv := vIv) (by kernel_rfl) (by kernel_rfl) (ok_spec_l00Max _ _) (fun _ => rfl) fun r28 => ?_
                      refine Run.u 400 E_ok mixed Tryz.func32 ?_
                      refine Run.p [false] (by kernel_rfl) ?_
                      refine Run.u 400 E_ok mixed Tryz.func32 ?_
                      refine Run.p [false] (by kernel_rfl) ?_
                      refine Run.bH (e := vIv) (gv := vIv) (by kernel_rfl) (by kernel_rfl) (ok_spec_l04Make _ _) (fun _ => rfl) fun r29 => ?_
                      exact Run.rh (k := 0) (by kernel_rfl) (by kernel_rfl)

theorem ok_spec_l06Series (a0 : Iv) (a1 : I64) : Fun Tryz.prog 257 [] #[vIv a0, vI a1] (vIv (F_spec_l06Series a0 a1)) [] := by
  refine Fun.ofH 400 E_ok mixed Tryz.func257 (by kernel_rfl) (by kernel_rfl) ?_
  unfold F_spec_l06Series
  refine Run.bH (e := vIv) (gv := vIv) (by kernel_rfl) (by kernel_rfl) (ok_spec_Integer _) (fun _ => rfl) fun r1 => ?_
  refine Run.u 400 E_ok mixed Tryz.func257 ?_
  refine Run.p [true] (by kernel_rfl) ?_
  refine Run.bH (e := vIv) (gv := vIv) (by kernel_rfl) (by kernel_rfl) (ok_spec_Integer _) (fun _ => rfl) fun r2 => ?_
  refine Run.bH (e := vIv) (gv := vIv) (by kernel_rfl) (by kernel_rfl) (ok_spec_Integer _) (fun _ => rfl) fun r3 => ?_
  refine Run.bH (e := vIv) (gv := vIv) (by kernel_rfl) (by kernel_rfl) (ok_spec_DivI _ _) (fun _ => rfl) fun r4 => ?_
  refine Run.bH (e := vIv) (gv := vIv) (by kernel_rfl) (by kernel_rfl) (ok_spec_MulI _ _) (fun _ => rfl) fun r5 => ?_
  refine Run.bH (e := vIv) (gv := vIv) (by kernel_rfl) (by kernel_rfl) (ok_spec_SubI _ _) (fun _ => rfl) fun r6 => ?_
  refine Run.u 400 E_ok mixed Tryz.func257 ?_
  refine Run.p [true] (by kernel_rfl) ?_
  refine Run.bH (e := vIv) (gv := vIv) (by kernel_rfl) (by kernel_rfl) (ok_spec_Integer _) (fun _ => rfl) fun r7 => ?_
  refine Run.bH (e := vIv) (gv := vIv) (by kernel_rfl) (by kernel_rfl) (ok_spec_Integer _) (fun _ => rfl) fun r8 => ?_
  refine Run.bH (e := vIv) (gv := vIv) (by kernel_rfl) (by kernel_rfl) (ok_spec_DivI _ _) (fun _ => rfl) fun r9 => ?_
  refine Run.bH (e := vIv) (gv := vIv) (by kernel_rfl) (by kernel_rfl) (ok_spec_MulI _ _) (fun _ => rfl) fun r10 => ?_
  refine Run.bH (e := vIv) (gv := vIv) (by kernel_rfl) (by kernel_rfl) (ok_spec_SubI _ _) (fun _ => rfl) fun r11 => ?_
  refine Run.u 400 E_ok mixed Tryz.func257 ?_
  refine Run.p [true] (by kernel_rfl) ?_
  refine Run.bH (e := vIv) (gv := vIv) (by kernel_rfl) (by kernel_rfl) (ok_spec_Integer _) (fun _ => rfl) fun r12 => ?_
  refine Run.bH (e := vIv) (gv := vIv) (by kernel_rfl) (by kernel_rfl) (ok_spec_Integer _) (fun _ => rfl) fun r13 => ?_
  refine Run.bH (e := vIv) (gv := vIv) (by kernel_rfl) (by kernel_rfl) (ok_spec_DivI _ _) (fun _ => rfl) fun r14 => ?_
  refine Run.bH (e := vIv) (gv := vIv) (by kernel_rfl) (by kernel_rfl) (ok_spec_MulI _ _) (fun _ => rfl) fun r15 => ?_
  refine Run.bH (e := vIv) (gv := vIv) (by kernel_rfl) (by kernel_rfl) (ok_spec_SubI _ _) (fun _ => rfl) fun r16 => ?_
  refine Run.u 400 E_ok mixed Tryz.func257 ?_
  refine Run.p [true] (by kernel_rfl) ?_
  refine Run.bH (e := vIv) (gv := vIv) (by kernel_rfl) (by kernel_rfl) (ok_spec_Integer _) (fun _ => rfl) fun r17 => ?_
  refine Run.bH (e := vIv) (gv := vIv) (by kernel_rfl) (by kernel_rfl) (ok_spec_Integer _) (fun _ => rfl) fun r18 => ?_
  refine Run.bH (e := vIv) (gv := vIv) (by kernel_rfl) (by kernel_rfl) (ok_spec_DivI _ _) (fun _ => rfl) fun r19 => ?_
  refine Run.bH (e := vIv) (gv := vIv) (by kernel_rfl) (by kernel_rfl) (ok_spec_MulI _ _) (fun _ => rfl) fun r20 => ?_
  refine Run.bH (e := vIv) (gv := vIv) (by kernel_rfl) (by kernel_rfl) (ok_spec_SubI _ _) (fun _ => rfl) fun r21 => ?_
  refine Run.u 400 E_ok mixed Tryz.func257 ?_
  refine Run.p [true] (by kernel_rfl) ?_
  refine Run.bH (e := vIv) (gv := vIv) (by kernel_rfl) (by kernel_rfl) (ok_spec_Integer _) (fun _ => rfl) fun r22 => ?_
  refine Run.bH (e := vIv) (gv := vIv) (by kernel_rfl) (by kernel_rfl) (ok_spec_Integer _) (fun _ => rfl) fun r23 => ?_
  refine Run.bH (e := vIv) (gv := vIv) (by kernel_rfl) (by kernel_rfl) (ok_spec_DivI _ _) (fun _ => rfl) fun r24 => ?_
  refine Run.bH (e := vIv) (gv := vIv) (by kernel_rfl) (by kernel_rfl) (ok_spec_MulI _ _) (fun _ => rfl) fun r25 => ?_
  refine Run.bH (e := vIv) (gv := vIv) (by kernel_rfl) (by kernel_rfl) (ok_spec_SubI _ _) (fun _ => rfl) fun r26 => ?_
  refine Run.u 400 E_ok mixed Tryz.func257 ?_
  refine Run.p [true] (by kernel_rfl) ?_
  refine Run.bH (e := vIv) (gv := vIv) (by kernel_rfl) (by kernel_rfl) (ok_spec_Integer _) (fun _ => rfl) fun r27 => ?_
  refine Run.bH (e := vIv) (gv := vIv) (by kernel_rfl) (by kernel_rfl) (ok_spec_Integer _) (fun _ => rfl) fun r28 => ?_
  refine Run.bH (e := vIv) (gv := vIv) (by kernel_rfl) (by kernel_rfl) (ok_spec_DivI _ _) (fun _ => rfl) fun r29 => ?_
  refine Run.bH (e := vIv) (gv := vIv) (by kernel_rfl) (by kernel_rfl) (ok_spec_MulI _ _) (fun _ => rfl) fun r30 => ?_
  refine Run.bH (e := vIv) (gv := vIv) (by kernel_rfl) (by kernel_rfl) (ok_spec_SubI _ _) (fun _ => rfl) fun r31 => ?_
  refine Run.u 400 E_ok mixed Tryz.func257 ?_
  refine Run.p [true] (by kernel_rfl) ?_
  refine Run.bH (e := vIv) (gv := vIv) (by kernel_rfl) (by kernel_rfl) (ok_spec_Integer _) (fun _ => rfl) fun r32 => ?_
  refine Run.bH (e := vIv) (gv := vIv) (by kernel_rfl) (by kernel_rfl) (ok_spec_Integer _) (fun _ => rfl) fun r33 => ?_
  refine Run.bH (e := vIv) (gv := vIv) (by kernel_rfl) (by kernel_rfl) (ok_spec_DivI _ _) (fun _ => rfl) fun r34 => ?_
  refine Run.bH (e := vIv) (gv := vIv) (by kernel_rfl) (by kernel_rfl) (ok_spec_MulI _ _) (fun _ => rfl) fun r35 => ?_
  refine Run.bH (e := vIv) (gv := vIv) (by kernel_rfl) (by kernel_rfl) (ok_spec_SubI _ _) (fun _ => rfl) fun r36 => ?_
  refine Run.u 400 E_ok mixed Tryz.func257 ?_
  refine Run.p [true] (by kernel_rfl) ?_
  refine Run.bH (e := vIv) (gv := vIv) (by kernel_rfl) (by kernel_rfl) (ok_spec_Integer _) (fun _ => rfl) fun r37 => ?_
  refine Run.bH (e := vIv) (gv := vIv) (by kernel_rfl) (by kernel_rfl) (ok_spec_Integer _) (fun _ => rfl) fun r38 => ?_
  refine Run.bH (e := vIv) (gv := vIv) (by kernel_rfl) (by kernel_rfl) (ok_spec_DivI _ _) (fun _ => rfl) fun r39 => ?_
  refine Run.bH (e := vIv) (gv := vIv) (by kernel_rfl) (by kernel_rfl) (ok_spec_MulI _ _) (fun _ => rfl) fun r40 => ?_
  refine Run.bH (e := vIv) (gv := vIv) (by kernel_rfl) (by kernel_rfl) (ok_spec_SubI _ _) (fun _ => rfl) fun r41 => ?_
  refine Run.u 400 E_ok mixed Tryz.func257 ?_
  refine Run.p [false] (by kernel_rfl) ?_
  exact Run.rh (k := 0) (by kernel_rfl) (by kernel_rfl)

theorem ok_spec_l06Tiny : Fun Tryz.prog 258 [] #[] (vIv (F_spec_l06Tiny)) [] := by
  refine Fun.ofH 400 E_ok mixed Tryz.func258 (by kernel_rfl) (by kernel_rfl) ?_
  unfold F_spec_l06Tiny
  exact Run.rh (k := 0) (by kernel_rfl) (by kernel_rfl)

theorem ok_spec_AddI (a0 : Iv) (a1 : Iv) : Fun Tryz.prog 61 [] #[vIv a0, vIv a1] (vIv (F_spec_AddI a0 a1)) [] := by
  refine Fun.ofH 400 E_ok mixed Tryz.func61 (by kernel_rfl) (by kernel_rfl) ?_
  unfold F_spec_AddI
  refine Run.bH (e := vB) (gv := vIv) (by kernel_rfl) (by kernel_rfl) (ok_spec_l04Ok _) (fun _ => rfl) fun r1 => ?_
  refine Run.jH (gv := vIv) (by kernel_rfl) (?_) (?_)
  · refine Run.p [true, true, true, true] (by kernel_rfl) ?_
    refine Run.bH (e := vIv) (gv := vIv) (by kernel_rfl) (by kernel_rfl) (ok_spec_l04Whole) (fun _ => rfl) fun r2 => ?_
    exact Run.rh (k := 0) (by kernel_rfl) (by kernel_rfl)
  · refine Run.p [false] (by kernel_rfl) ?_
    refine Run.bH (e := vB) (gv := vIv) (by kernel_rfl) (by kernel_rfl) (ok_spec_l04Ok _) (fun _ => rfl) fun r3 => ?_
    refine Run.p [false, false] (by kernel_rfl) ?_
    refine Run.jH (gv := vIv) (by kernel_rfl) (?_) (?_)
    · refine Run.bH (e := vIv) (gv := vIv) (by kernel_rfl) (by kernel_rfl) (ok_spec_l04Whole) (fun _ => rfl) fun r4 => ?_
      exact Run.rh (k := 0) (by kernel_rfl) (by kernel_rfl)
    · refine Run.bH (e := vIv) (gv := vIv) (by kernel_rfl) (by kernel_rfl) (ok_spec_l04Make _ _) (fun _ => rfl) fun r5 => ?_
      exact Run.rh (k := 0) (by kernel_rfl) (by kernel_rfl)

theorem ok_spec_SinSeries (a0 : Iv) : Fun Tryz.prog 208 [] #[vIv a0] (vIv (F_spec_SinSeries a0)) [] := by
  refine Fun.ofH 400 E_ok mixed Tryz.func208 (by kernel_rfl) (by kernel_rfl) ?_
  unfold F_spec_SinSeries
  refine Run.bH (e := vIv) (gv := vIv) (by kernel_rfl) (by kernel_rfl) (ok_spec_l06Ring) (fun _ => rfl) fun r1 => ?_
  refine Run.bH (e := vB) (gv := vIv) (by kernel_rfl) (by kernel_rfl) (ok_spec_InsideI _ _) (fun _ => rfl) fun r2 => ?_
  refine Run.jH (gv := vIv) (by kernel_rfl) (?_) (?_)
  · refine Run.bH (e := vIv) (gv := vIv) (by kernel_rfl) (by kernel_rfl) (ok_spec_Whole) (fun _ => rfl) fun r3 => ?_
    exact Run.rh (k := 0) (by kernel_rfl) (by kernel_rfl)
  · refine Run.bH (e := vIv) (gv := vIv) (by kernel_rfl) (by kernel_rfl) (ok_spec_SqrI _) (fun _ => rfl) fun r4 => ?_
    refine Run.bH (e := vIv) (gv := vIv) (by kernel_rfl) (by kernel_rfl) (ok_spec_l06Series _ _) (fun _ => rfl) fun r5 => ?_
    refine Run.bH (e := vIv) (gv := vIv) (by kernel_rfl) (by kernel_rfl) (ok_spec_MulI _ _) (fun _ => rfl) fun r6 => ?_
    refine Run.bH (e := vIv) (gv := vIv) (by kernel_rfl) (by kernel_rfl) (ok_spec_l06Tiny) (fun _ => rfl) fun r7 => ?_
    refine Run.bH (e := vIv) (gv := vIv) (by kernel_rfl) (by kernel_rfl) (ok_spec_AddI _ _) (fun _ => rfl) fun r8 => ?_
    exact Run.rh (k := 0) (by kernel_rfl) (by kernel_rfl)

theorem ok_spec_MeetI (a0 : Iv) (a1 : Iv) : Fun Tryz.prog 181 [] #[vIv a0, vIv a1] (vT_Iv_B (F_spec_MeetI a0 a1)) [] := by
  refine Fun.ofH 400 E_ok mixed Tryz.func181 (by kernel_rfl) (by kernel_rfl) ?_
  unfold F_spec_MeetI
  refine Run.bH (e := vB) (gv := vT_Iv_B) (by kernel_rfl) (by kernel_rfl) (ok_spec_l04Ok _) (fun _ => rfl) fun r1 => ?_
  refine Run.jH (gv := vT_Iv_B) (by kernel_rfl) (?_) (?_)
  · refine Run.p [true] (by kernel_rfl) ?_
    refine Run.bH (e := vB) (gv := vT_Iv_B) (by kernel_rfl) (by kernel_rfl) (ok_spec_l04Ok _) (fun _ => rfl) fun r2 => ?_
    refine Run.p [true, true] (by kernel_rfl) ?_
    refine Run.jH (gv := vT_Iv_B) (by kernel_rfl) (?_) (?_)
    · refine Run.bH (e := vIv) (gv := vT_Iv_B) (by kernel_rfl) (by kernel_rfl) (ok_spec_l04Whole) (fun _ => rfl) fun r3 => ?_
      exact Run.rh (k := 0) (by kernel_rfl) (by kernel_rfl)
    · refine Run.bH (e := vB) (gv := vT_Iv_B) (by kernel_rfl) (by kernel_rfl) (ok_spec_l04Ok _) (fun _ => rfl) fun r4 => ?_
      refine Run.jH (gv := vT_Iv_B) (by kernel_rfl) (?_) (?_)
      · exact Run.rh (k := 0) (by kernel_rfl) (by kernel_rfl)
      · refine Run.bH (e := vB) (gv := vT_Iv_B) (by kernel_rfl) (by kernel_rfl) (ok_spec_l04Ok _) (fun _ => rfl) fun r5 => ?_
        refine Run.jH (gv := vT_Iv_B) (by kernel_rfl) (?_) (?_)
        · exact Run.rh (k := 0) (by kernel_rfl) (by kernel_rfl)
        · refine Run.bH (e := vI) (gv := vT_Iv_B) (by kernel_rfl) (by kernel_rfl) (ok_spec_l00Max _ _) (fun _ => rfl) fun r6 => ?_
          refine Run.bH (e := vI) (gv := vT_Iv_B) (by kernel_rfl) (by kernel_rfl) (ok_spec_l00Min _ _) (fun _ => rfl) fun r7 => ?_
          refine Run.jH (gv := vT_Iv_B) (by kernel_rfl) (?_) (?_)
          · exact Run.rh (k := 0) (by kernel_rfl) (by kernel_rfl)
          · exact Run.rh (k := 0) (by kernel_rfl) (by kernel_rfl)
  · refine Run.p [false, false, false, false] (by kernel_rfl) ?_
    refine Run.bH (e := vB) (gv := vT_Iv_B) (by kernel_rfl) (by kernel_rfl) (ok_spec_l04Ok _) (fun _ => rfl) fun r8 => ?_
    refine Run.jH (gv := vT_Iv_B) (by kernel_rfl) (?_) (?_)
    · exact Run.rh (k := 0) (by kernel_rfl) (by kernel_rfl)
    · refine Run.bH (e := vB) (gv := vT_Iv_B) (by kernel_rfl) (by kernel_rfl) (ok_spec_l04Ok _) (fun _ => rfl) fun r9 => ?_
      refine Run.jH (gv := vT_Iv_B) (by kernel_rfl) (?_) (?_)
      · exact Run.rh (k := 0) (by kernel_rfl) (by kernel_rfl)
      · refine Run.bH (e := vI) (gv := vT_Iv_B) (by kernel_rfl) (by kernel_rfl) (ok_spec_l00Max _ _) (fun _ => rfl) fun r10 => ?_
        refine Run.bH (e := vI) (gv := vT_Iv_B) (by kernel_rfl) (by kernel_rfl) (ok_spec_l00Min _ _) (fun _ => rfl) fun r11 => ?_
        refine Run.jH (gv := vT_Iv_B) (by kernel_rfl) (?_) (?_)
        · exact Run.rh (k := 0) (by kernel_rfl) (by kernel_rfl)
        · exact Run.rh (k := 0) (by kernel_rfl) (by kernel_rfl)

theorem ok_spec_l06Meet (a0 : Iv) : Fun Tryz.prog 207 [] #[vIv a0] (vIv (F_spec_l06Meet a0)) [] := by
  refine Fun.ofH 400 E_ok mixed Tryz.func207 (by kernel_rfl) (by kernel_rfl) ?_
  unfold F_spec_l06Meet
  refine Run.bH (e := vIv) (gv := vIv) (by kernel_rfl) (by kernel_rfl) (ok_spec_l06Ring) (fun _ => rfl) fun r1 => ?_
  refine Run.bH (e := vT_Iv_B) (gv := vIv) (by kernel_rfl) (by kernel_rfl) (ok_spec_MeetI _ _) (fun _ => rfl) fun r2 => ?_
  refine Run.jH (gv := vIv) (by kernel_rfl) (?_) (?_)
  · refine Run.bH (e := vIv) (gv := vIv) (by kernel_rfl) (by kernel_rfl) (ok_spec_l06Ring) (fun _ => rfl) fun r3 => ?_
    exact Run.rh (k := 0) (by kernel_rfl) (by kernel_rfl)
  · exact Run.rh (k := 0) (by kernel_rfl) (by kernel_rfl)

theorem ok_spec_CosSeries (a0 : Iv) : Fun Tryz.prog 209 [] #[vIv a0] (vIv (F_spec_CosSeries a0)) [] := by
  refine Fun.ofH 400 E_ok mixed Tryz.func209 (by kernel_rfl) (by kernel_rfl) ?_
  unfold F_spec_CosSeries
  refine Run.bH (e := vIv) (gv := vIv) (by kernel_rfl) (by kernel_rfl) (ok_spec_l06Ring) (fun _ => rfl) fun r1 => ?_
  refine Run.bH (e := vB) (gv := vIv) (by kernel_rfl) (by kernel_rfl) (ok_spec_InsideI _ _) (fun _ => rfl) fun r2 => ?_
  refine Run.jH (gv := vIv) (by kernel_rfl) (?_) (?_)
  · refine Run.bH (e := vIv) (gv := vIv) (by kernel_rfl) (by kernel_rfl) (ok_spec_Whole) (fun _ => rfl) fun r3 => ?_
    exact Run.rh (k := 0) (by kernel_rfl) (by kernel_rfl)
  · refine Run.bH (e := vIv) (gv := vIv) (by kernel_rfl) (by kernel_rfl) (ok_spec_SqrI _) (fun _ => rfl) fun r4 => ?_
    refine Run.bH (e := vIv) (gv := vIv) (by kernel_rfl) (by kernel_rfl) (ok_spec_l06Series _ _) (fun _ => rfl) fun r5 => ?_
    refine Run.bH (e := vIv) (gv := vIv) (by kernel_rfl) (by kernel_rfl) (ok_spec_l06Tiny) (fun _ => rfl) fun r6 => ?_
    refine Run.bH (e := vIv) (gv := vIv) (by kernel_rfl) (by kernel_rfl) (ok_spec_AddI _ _) (fun _ => rfl) fun r7 => ?_
    exact Run.rh (k := 0) (by kernel_rfl) (by kernel_rfl)

theorem ok_spec_l06At (a0 : I64) (a1 : I64) : Fun Tryz.prog 163 [] #[vI a0, vI a1] (vIv (F_spec_l06At a0 a1)) [] := by
  refine Fun.ofH 400 E_ok mixed Tryz.func163 (by kernel_rfl) (by kernel_rfl) ?_
  unfold F_spec_l06At
  refine Run.bH (e := vB) (gv := vIv) (by kernel_rfl) (by kernel_rfl) (ok_spec_l06Angle _) (fun _ => rfl) fun r1 => ?_
  refine Run.jH (gv := vIv) (by kernel_rfl) (?_) (?_)
  · refine Run.bH (e := vIv) (gv := vIv) (by kernel_rfl) (by kernel_rfl) (ok_spec_l06Ring) (fun _ => rfl) fun r2 => ?_
    exact Run.rh (k := 0) (by kernel_rfl) (by kernel_rfl)
  · refine Run.bH (e := vI) (gv := vIv) (by kernel_rfl) (by kernel_rfl) (ok_spec_QuarterOf _) (fun _ => rfl) fun r3 => ?_
    refine Run.bH (e := vIv) (gv := vIv) (by kernel_rfl) (by kernel_rfl) (ok_spec_l05At _) (fun _ => rfl) fun r4 => ?_
    refine Run.bH (e := vIv) (gv := vIv) (by kernel_rfl) (by kernel_rfl) (ok_spec_TurnI _) (fun _ => rfl) fun r5 => ?_
    refine Run.bH (e := vIv) (gv := vIv) (by kernel_rfl) (by kernel_rfl) (ok_spec_SubI _ _) (fun _ => rfl) fun r6 => ?_
    refine Run.jH (gv := vIv) (by kernel_rfl) (?_) (?_)
    · refine Run.bH (e := vIv) (gv := vIv) (by kernel_rfl) (by kernel_rfl) (ok_spec_SinSeries _) (fun _ => rfl) fun r7 => ?_
      refine Run.bH (e := vIv) (gv := vIv) (by kernel_rfl) (by kernel_rfl) (ok_spec_l06Meet _) (fun _ => rfl) fun r8 => ?_
      exact Run.rh (k := 0) (by kernel_rfl) (by kernel_rfl)
    · refine Run.jH (gv := vIv) (by kernel_rfl) (?_) (?_)
      · refine Run.bH (e := vIv) (gv := vIv) (by kernel_rfl) (by kernel_rfl) (ok_spec_CosSeries _) (fun _ => rfl) fun r9 => ?_
        refine Run.bH (e := vIv) (gv := vIv) (by kernel_rfl) (by kernel_rfl) (ok_spec_l06Meet _) (fun _ => rfl) fun r10 => ?_
        exact Run.rh (k := 0) (by kernel_rfl) (by kernel_rfl)
      · refine Run.jH (gv := vIv) (by kernel_rfl) (?_) (?_)
        · refine Run.bH (e := vIv) (gv := vIv) (by kernel_rfl) (by kernel_rfl) (ok_spec_SinSeries _) (fun _ => rfl) fun r11 => ?_
          refine Run.bH (e := vIv) (gv := vIv) (by kernel_rfl) (by kernel_rfl) (ok_spec_NegI _) (fun _ => rfl) fun r12 => ?_
          refine Run.bH (e := vIv) (gv := vIv) (by kernel_rfl) (by kernel_rfl) (ok_spec_l06Meet _) (fun _ => rfl) fun r13 => ?_
          exact Run.rh (k := 0) (by kernel_rfl) (by kernel_rfl)
        · refine Run.bH (e := vIv) (gv := vIv) (by kernel_rfl) (by kernel_rfl) (ok_spec_CosSeries _) (fun _ => rfl) fun r14 => ?_
          refine Run.bH (e := vIv) (gv := vIv) (by kernel_rfl) (by kernel_rfl) (ok_spec_NegI _) (fun _ => rfl) fun r15 => ?_
          refine Run.bH (e := vIv) (gv := vIv) (by kernel_rfl) (by kernel_rfl) (ok_spec_l06Meet _) (fun _ => rfl) fun r16 => ?_
          exact Run.rh (k := 0) (by kernel_rfl) (by kernel_rfl)

theorem ok_spec_HullI (a0 : Iv) (a1 : Iv) : Fun Tryz.prog 85 [] #[vIv a0, vIv a1] (vIv (F_spec_HullI a0 a1)) [] := by
  refine Fun.ofH 400 E_ok mixed Tryz.func85 (by kernel_rfl) (by kernel_rfl) ?_
  unfold F_spec_HullI
  refine Run.bH (e := vB) (gv := vIv) (by kernel_rfl) (by kernel_rfl) (ok_spec_l04Ok _) (fun _ => rfl) fun r1 => ?_
  refine Run.jH (gv := vIv) (by kernel_rfl) (?_) (?_)
  · refine Run.p [true, true, true, true] (by kernel_rfl) ?_
    refine Run.bH (e := vIv) (gv := vIv) (by kernel_rfl) (by kernel_rfl) (ok_spec_l04Whole) (fun _ => rfl) fun r2 => ?_
    exact Run.rh (k := 0) (by kernel_rfl) (by kernel_rfl)
  · refine Run.p [false] (by kernel_rfl) ?_
    refine Run.bH (e := vB) (gv := vIv) (by kernel_rfl) (by kernel_rfl) (ok_spec_l04Ok _) (fun _ => rfl) fun r3 => ?_
    refine Run.p [false, false] (by kernel_rfl) ?_
    refine Run.jH (gv := vIv) (by kernel_rfl) (?_) (?_)
    · refine Run.bH (e := vIv) (gv := vIv) (by kernel_rfl) (by kernel_rfl) (ok_spec_l04Whole) (fun _ => rfl) fun r4 => ?_
      exact Run.rh (k := 0) (by kernel_rfl) (by kernel_rfl)
    · refine Run.bH (e := vI) (gv := vIv) (by kernel_rfl) (by kernel_rfl) (ok_spec_l00Min _ _) (fun _ => rfl) fun r5 => ?_
      refine Run.bH (e := vI) (gv := vIv) (by kernel_rfl) (by kernel_rfl) (ok_spec_l00Max _ _) (fun _ => rfl) fun r6 => ?_
      refine Run.bH (e := vIv) (gv := vIv) (by kernel_rfl) (by kernel_rfl) (ok_spec_l04Make _ _) (fun _ => rfl) fun r7 => ?_
      exact Run.rh (k := 0) (by kernel_rfl) (by kernel_rfl)

theorem ok_spec_OverlapI (a0 : Iv) (a1 : Iv) : Fun Tryz.prog 165 [] #[vIv a0, vIv a1] (vB (F_spec_OverlapI a0 a1)) [] := by
  refine Fun.ofH 400 E_ok mixed Tryz.func165 (by kernel_rfl) (by kernel_rfl) ?_
  unfold F_spec_OverlapI
  refine Run.bH (e := vT_Iv_B) (gv := vB) (by kernel_rfl) (by kernel_rfl) (ok_spec_MeetI _ _) (fun _ => rfl) fun r1 => ?_
  exact Run.rh (k := 0) (by kernel_rfl) (by kernel_rfl)

end Go.Proofs.YtebaobmmnkebaaaGreat.Abs
