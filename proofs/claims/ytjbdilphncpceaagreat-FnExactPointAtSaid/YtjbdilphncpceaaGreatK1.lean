/- The program's functions are these; part 1 (written by w.py). -/
import Derived.Test.YtjbdilphncpceaaGreatE
import Derived.Test.YtjbdilphncpceaaGreatF5
import Derived.Test.YtjbdilphncpceaaGreatQpre
set_option linter.unusedVariables false
set_option linter.unusedSimpArgs false
namespace Go.Proofs.YtjbdilphncpceaaGreat.Abs
open Go Go.RowKit

theorem ok_spec_l00In (a0 : I64) (a1 : I64) (a2 : I64) : Fun Tryz.prog 38 [] #[vI a0, vI a1, vI a2] (vB (F_spec_l00In a0 a1 a2)) [] := by
  refine Fun.ofH 400 E_ok mixed Tryz.func38 (by kernel_rfl) (by kernel_rfl) ?_
  unfold F_spec_l00In
  refine Run.y (gv := vB) (fun _ => ?_) (fun _ => ?_)
  · refine Run.z [true, true, true] ?_
    exact Run.x 0
  · refine Run.z [false, false, false] ?_
    exact Run.x 0

theorem ok_spec_l22Family (a0 : I64) : Fun Tryz.prog 30 [] #[vI a0] (vI (F_spec_l22Family a0)) [] := by
  refine Fun.ofH 400 E_ok mixed Tryz.func30 (by kernel_rfl) (by kernel_rfl) ?_
  unfold F_spec_l22Family
  refine Run.q (e := vB) (gv := vI) (ok_spec_l00In _ _ _) fun r1 _ => ?_
  refine Run.y (gv := vI) (fun _ => ?_) (fun _ => ?_)
  · exact Run.x 0
  · refine Run.q (e := vB) (gv := vI) (ok_spec_l00In _ _ _) fun r2 _ => ?_
    refine Run.y (gv := vI) (fun _ => ?_) (fun _ => ?_)
    · exact Run.x 0
    · refine Run.q (e := vB) (gv := vI) (ok_spec_l00In _ _ _) fun r3 _ => ?_
      refine Run.y (gv := vI) (fun _ => ?_) (fun _ => ?_)
      · exact Run.x 0
      · refine Run.q (e := vB) (gv := vI) (ok_spec_l00In _ _ _) fun r4 _ => ?_
        refine Run.y (gv := vI) (fun _ => ?_) (fun _ => ?_)
        · exact Run.x 0
        · refine Run.y (gv := vI) (fun _ => ?_) (fun _ => ?_)
          · exact Run.x 0
          · exact Run.x 0

theorem ok_spec_l11Ok (a0 : Pt) : Fun Tryz.prog 19 [] #[vPt a0] (vB (F_spec_l11Ok a0)) [] := by
  refine Fun.ofH 400 E_ok mixed Tryz.func19 (by kernel_rfl) (by kernel_rfl) ?_
  unfold F_spec_l11Ok
  refine Run.q (e := vB) (gv := vB) (ok_spec_l00In _ _ _) fun r1 _ => ?_
  refine Run.y (gv := vB) (fun _ => ?_) (fun _ => ?_)
  · refine Run.z [true, true] ?_
    refine Run.q (e := vB) (gv := vB) (ok_spec_l00In _ _ _) fun r2 _ => ?_
    refine Run.z [true] ?_
    exact Run.x 0
  · refine Run.z [false, false, false] ?_
    exact Run.x 0

theorem ok_spec_l17Standard (a0 : I64) : Fun Tryz.prog 246 [] #[vI a0] (vB (F_spec_l17Standard a0)) [] := by
  refine Fun.ofH 400 E_ok mixed Tryz.func246 (by kernel_rfl) (by kernel_rfl) ?_
  unfold F_spec_l17Standard
  refine Run.q (e := vB) (gv := vB) (ok_spec_l00In _ _ _) fun r1 _ => ?_
  exact Run.x 0

theorem ok_spec_l17Ok (a0 : Pj) : Fun Tryz.prog 179 [] #[vPj a0] (vB (F_spec_l17Ok a0)) [] := by
  refine Fun.ofH 400 E_ok mixed Tryz.func179 (by kernel_rfl) (by kernel_rfl) ?_
  unfold F_spec_l17Ok
  refine Run.q (e := vB) (gv := vB) (ok_spec_l11Ok _) fun r1 _ => ?_
  refine Run.y (gv := vB) (fun _ => ?_) (fun _ => ?_)
  · refine Run.z [true, true, true, true, true, true, true, true, true, true] ?_
    exact Run.x 0
  · refine Run.z [false, false] ?_
    refine Run.q (e := vB) (gv := vB) (ok_spec_l17Standard _) fun r2 _ => ?_
    refine Run.z [false, false] ?_
    refine Run.y (gv := vB) (fun _ => ?_) (fun _ => ?_)
    · refine Run.z [true, true, true, true, true] ?_
      exact Run.x 0
    · refine Run.z [false, false] ?_
      refine Run.q (e := vB) (gv := vB) (ok_spec_l17Standard _) fun r3 _ => ?_
      refine Run.z [false, false] ?_
      refine Run.y (gv := vB) (fun _ => ?_) (fun _ => ?_)
      · exact Run.x 0
      · refine Run.y (gv := vB) (fun _ => ?_) (fun _ => ?_)
        · refine Run.z [true] ?_
          refine Run.y (gv := vB) (fun _ => ?_) (fun _ => ?_)
          · refine Run.z [true, true, true] ?_
            exact Run.x 0
          · refine Run.z [false, false, false] ?_
            exact Run.x 0
        · refine Run.y (gv := vB) (fun _ => ?_) (fun _ => ?_)
          · refine Run.y (gv := vB) (fun _ => ?_) (fun _ => ?_)
            · refine Run.z [true, true, true] ?_
              exact Run.x 0
            · refine Run.z [false, false, false] ?_
              exact Run.x 0
          · refine Run.y (gv := vB) (fun _ => ?_) (fun _ => ?_)
            · refine Run.z [true] ?_
              refine Run.y (gv := vB) (fun _ => ?_) (fun _ => ?_)
              · refine Run.z [true, true, true] ?_
                refine Run.y (gv := vB) (fun _ => ?_) (fun _ => ?_)
                · refine Run.z [true, true, true] ?_
                  exact Run.x 0
                · refine Run.z [false, false, false] ?_
                  exact Run.x 0
              · refine Run.z [false, false, false, false, false, false, false] ?_
                exact Run.x 0
            · refine Run.y (gv := vB) (fun _ => ?_) (fun _ => ?_)
              · refine Run.z [true] ?_
                refine Run.y (gv := vB) (fun _ => ?_) (fun _ => ?_)
                · refine Run.z [true, true, true] ?_
                  refine Run.y (gv := vB) (fun _ => ?_) (fun _ => ?_)
                  · refine Run.z [true, true, true] ?_
                    exact Run.x 0
                  · refine Run.z [false, false, false] ?_
                    exact Run.x 0
                · refine Run.z [false, false, false, false, false, false, false] ?_
                  exact Run.x 0
              · refine Run.y (gv := vB) (fun _ => ?_) (fun _ => ?_)
                · refine Run.z [true] ?_
                  refine Run.y (gv := vB) (fun _ => ?_) (fun _ => ?_)
                  · refine Run.z [true, true, true] ?_
                    refine Run.y (gv := vB) (fun _ => ?_) (fun _ => ?_)
                    · refine Run.z [true, true, true] ?_
                      exact Run.x 0
                    · refine Run.z [false, false, false] ?_
                      exact Run.x 0
                  · refine Run.z [false, false, false, false, false, false, false] ?_
                    exact Run.x 0
                · refine Run.y (gv := vB) (fun _ => ?_) (fun _ => ?_)
                  · refine Run.z [true] ?_
                    refine Run.y (gv := vB) (fun _ => ?_) (fun _ => ?_)
                    · refine Run.z [true, true, true] ?_
                      refine Run.y (gv := vB) (fun _ => ?_) (fun _ => ?_)
                      · refine Run.z [true, true, true] ?_
                        exact Run.x 0
                      · refine Run.z [false, false, false] ?_
                        exact Run.x 0
                    · refine Run.z [false, false, false, false, false, false, false] ?_
                      exact Run.x 0
                  · refine Run.y (gv := vB) (fun _ => ?_) (fun _ => ?_)
                    · refine Run.y (gv := vB) (fun _ => ?_) (fun _ => ?_)
                      · refine Run.z [true, true, true] ?_
                        refine Run.y (gv := vB) (fun _ => ?_) (fun _ => ?_)
                        · refine Run.z [true, true, true] ?_
                          exact Run.x 0
                        · refine Run.z [false, false, false] ?_
                          exact Run.x 0
                      · refine Run.z [false, false, false, false, false, false, false] ?_
                        exact Run.x 0
                    · refine Run.y (gv := vB) (fun _ => ?_) (fun _ => ?_)
                      · refine Run.z [true] ?_
                        refine Run.y (gv := vB) (fun _ => ?_) (fun _ => ?_)
                        · refine Run.z [true, true, true] ?_
                          exact Run.x 0
                        · refine Run.z [false, false, false] ?_
                          exact Run.x 0
                      · refine Run.y (gv := vB) (fun _ => ?_) (fun _ => ?_)
                        · refine Run.z [true] ?_
                          refine Run.y (gv := vB) (fun _ => ?_) (fun _ => ?_)
                          · refine Run.z [true, true, true] ?_
                            exact Run.x 0
                          · refine Run.z [false, false, false] ?_
                            exact Run.x 0
                        · refine Run.y (gv := vB) (fun _ => ?_) (fun _ => ?_)
                          · refine Run.z [true] ?_
                            refine Run.y (gv := vB) (fun _ => ?_) (fun _ => ?_)
                            · refine Run.z [true, true, true] ?_
                              exact Run.x 0
                            · refine Run.z [false, false, false] ?_
                              exact Run.x 0
                          · refine Run.y (gv := vB) (fun _ => ?_) (fun _ => ?_)
                            · refine Run.z [true] ?_
                              refine Run.y (gv := vB) (fun _ => ?_) (fun _ => ?_)
                              · refine Run.z [true, true, true] ?_
                                exact Run.x 0
                              · refine Run.z [false, false, false] ?_
                                exact Run.x 0
                            · refine Run.y (gv := vB) (fun _ => ?_) (fun _ => ?_)
                              · refine Run.z [true] ?_
                                refine Run.y (gv := vB) (fun _ => ?_) (fun _ => ?_)
                                · refine Run.z [true, true, true] ?_
                                  exact Run.x 0
                                · refine Run.z [false, false, false] ?_
                                  exact Run.x 0
                              · refine Run.y (gv := vB) (fun _ => ?_) (fun _ => ?_)
                                · refine Run.y (gv := vB) (fun _ => ?_) (fun _ => ?_)
                                  · refine Run.z [true, true, true] ?_
                                    exact Run.x 0
                                  · refine Run.z [false, false, false] ?_
                                    exact Run.x 0
                                · refine Run.y (gv := vB) (fun _ => ?_) (fun _ => ?_)
                                  · refine Run.z [true] ?_
                                    refine Run.y (gv := vB) (fun _ => ?_) (fun _ => ?_)
                                    · refine Run.z [true, true] ?_
                                      exact Run.x 0
                                    · refine Run.z [false, false] ?_
                                      exact Run.x 0
                                  · refine Run.y (gv := vB) (fun _ => ?_) (fun _ => ?_)
                                    · refine Run.z [true] ?_
                                      refine Run.y (gv := vB) (fun _ => ?_) (fun _ => ?_)
                                      · refine Run.z [true, true] ?_
                                        exact Run.x 0
                                      · refine Run.z [false, false] ?_
                                        exact Run.x 0
                                    · refine Run.y (gv := vB) (fun _ => ?_) (fun _ => ?_)
                                      · refine Run.y (gv := vB) (fun _ => ?_) (fun _ => ?_)
                                        · refine Run.z [true, true] ?_
                                          exact Run.x 0
                                        · refine Run.z [false, false] ?_
                                          exact Run.x 0
                                      · exact Run.x 0

theorem ok_spec_l17Cylinder (a0 : Pj) : Fun Tryz.prog 86 [] #[vPj a0] (vB (F_spec_l17Cylinder a0)) [] := by
  refine Fun.ofH 400 E_ok mixed Tryz.func86 (by kernel_rfl) (by kernel_rfl) ?_
  unfold F_spec_l17Cylinder
  refine Run.q (e := vB) (gv := vB) (ok_spec_l17Ok _) fun r1 _ => ?_
  refine Run.y (gv := vB) (fun _ => ?_) (fun _ => ?_)
  · refine Run.z [true, true] ?_
    refine Run.q (e := vB) (gv := vB) (ok_spec_l00In _ _ _) fun r2 _ => ?_
    refine Run.z [true] ?_
    exact Run.x 0
  · refine Run.z [false, false, false] ?_
    exact Run.x 0

theorem ok_spec_l04Whole : Fun Tryz.prog 184 [] #[] (vIv (F_spec_l04Whole)) [] := by
  refine Fun.ofH 400 E_ok mixed Tryz.func184 (by kernel_rfl) (by kernel_rfl) ?_
  unfold F_spec_l04Whole
  exact Run.x 0

theorem ok_spec_Whole : Fun Tryz.prog 181 [] #[] (vIv (F_spec_Whole)) [] := by
  refine Fun.ofH 400 E_ok mixed Tryz.func181 (by kernel_rfl) (by kernel_rfl) ?_
  unfold F_spec_Whole
  refine Run.q (e := vIv) (gv := vIv) (ok_spec_l04Whole) fun r1 _ => ?_
  exact Run.x 0

theorem ok_spec_l04Ok (a0 : Iv) : Fun Tryz.prog 15 [] #[vIv a0] (vB (F_spec_l04Ok a0)) [] := by
  refine Fun.ofH 400 E_ok mixed Tryz.func15 (by kernel_rfl) (by kernel_rfl) ?_
  unfold F_spec_l04Ok
  refine Run.y (gv := vB) (fun _ => ?_) (fun _ => ?_)
  · refine Run.z [true, true, true, true, true] ?_
    refine Run.y (gv := vB) (fun _ => ?_) (fun _ => ?_)
    · refine Run.z [true, true, true] ?_
      exact Run.x 0
    · refine Run.z [false, false, false] ?_
      exact Run.x 0
  · refine Run.z [false, false, false, false, false, false, false, false, false] ?_
    exact Run.x 0

theorem ok_spec_l04Make (a0 : I64) (a1 : I64) : Fun Tryz.prog 188 [] #[vI a0, vI a1] (vIv (F_spec_l04Make a0 a1)) [] := by
  refine Fun.ofH 400 E_ok mixed Tryz.func188 (by kernel_rfl) (by kernel_rfl) ?_
  unfold F_spec_l04Make
  refine Run.q (e := vB) (gv := vIv) (ok_spec_l04Ok _) fun r1 _ => ?_
  refine Run.y (gv := vIv) (fun _ => ?_) (fun _ => ?_)
  · refine Run.q (e := vIv) (gv := vIv) (ok_spec_l04Whole) fun r2 _ => ?_
    exact Run.x 0
  · exact Run.x 0

theorem ok_spec_NegI (a0 : Iv) : Fun Tryz.prog 113 [] #[vIv a0] (vIv (F_spec_NegI a0)) [] := by
  refine Fun.ofH 400 E_ok mixed Tryz.func113 (by kernel_rfl) (by kernel_rfl) ?_
  unfold F_spec_NegI
  refine Run.q (e := vB) (gv := vIv) (ok_spec_l04Ok _) fun r1 _ => ?_
  refine Run.y (gv := vIv) (fun _ => ?_) (fun _ => ?_)
  · refine Run.q (e := vIv) (gv := vIv) (ok_spec_l04Whole) fun r2 _ => ?_
    exact Run.x 0
  · refine Run.q (e := vIv) (gv := vIv) (ok_spec_l04Make _ _) fun r3 _ => ?_
    exact Run.x 0

theorem ok_spec_l02Size (a0 : I64) : Fun Tryz.prog 272 [] #[vI a0] (vU (F_spec_l02Size a0)) [] := by
  refine Fun.ofH 400 E_ok mixed Tryz.func272 (by kernel_rfl) (by kernel_rfl) ?_
  unfold F_spec_l02Size
  refine Run.y (gv := vU) (fun _ => ?_) (fun _ => ?_)
  · exact Run.x 0
  · exact Run.x 0

theorem ok_spec_l02Times (a0 : U64) (a1 : U64) : Fun Tryz.prog 271 [] #[vU a0, vU a1] (vT_U_U (F_spec_l02Times a0 a1)) [] := by
  refine Fun.ofH 400 E_ok mixed Tryz.func271 (by kernel_rfl) (by kernel_rfl) ?_
  unfold F_spec_l02Times
  refine Run.z [true, true, true, true, true, true, true] ?_
  exact Run.x 0

theorem ok_spec_l02Minus (a0 : Wd) : Fun Tryz.prog 268 [] #[vWd a0] (vWd (F_spec_l02Minus a0)) [] := by
  refine Fun.ofH 400 E_ok mixed Tryz.func268 (by kernel_rfl) (by kernel_rfl) ?_
  unfold F_spec_l02Minus
  refine Run.y (gv := vWd) (fun _ => ?_) (fun _ => ?_)
  · exact Run.x 0
  · exact Run.x 0

theorem ok_spec_l02Mul (a0 : I64) (a1 : I64) : Fun Tryz.prog 221 [] #[vI a0, vI a1] (vWd (F_spec_l02Mul a0 a1)) [] := by
  refine Fun.ofH 400 E_ok mixed Tryz.func221 (by kernel_rfl) (by kernel_rfl) ?_
  unfold F_spec_l02Mul
  refine Run.q (e := vU) (gv := vWd) (ok_spec_l02Size _) fun r1 _ => ?_
  refine Run.q (e := vU) (gv := vWd) (ok_spec_l02Size _) fun r2 _ => ?_
  refine Run.q (e := vT_U_U) (gv := vWd) (ok_spec_l02Times _ _) fun r3 _ => ?_
  refine Run.y (gv := vWd) (fun _ => ?_) (fun _ => ?_)
  · refine Run.q (e := vWd) (gv := vWd) (ok_spec_l02Minus _) fun r4 _ => ?_
    exact Run.x 0
  · exact Run.x 0

theorem ok_spec_l02Divide_L0 : ∀ (fu : Nat) (a1 : U64) (a2 : U64) (x_qhi : U64) (x_rest : U64) (x_q : U64) (x_i : I64) (q0 : x_i.val ≤ 63) (hm : (x_i.val + 1).toNat < fu) (t : Array Value) (ht : maskA t [0, 3, 4, 5, 13, 14, 15, 16, 17, 18, 19, 20, 21, 22, 23, 24, 25, 26, 27, 28, 29, 30, 31, 32, 33, 34, 35, 36, 37, 38, 39, 40, 41, 42, 43, 44, 45, 46, 47, 48, 49, 50] = #[undef, .int .u64 a1.val, .int .u64 a2.val, undef, undef, undef, .int .u64 0, .int .u64 0, .int .u64 0, .int .u64 x_qhi.val, .int .u64 x_rest.val, .int .u64 x_q.val, .int .i64 x_i.val, undef, undef, undef, undef, undef, undef, undef, undef, undef, undef, undef, undef, undef, undef, undef, undef, undef, undef, undef, undef, undef, undef, undef, undef, undef, undef, undef, undef, undef, undef, undef, undef, undef, undef, undef, undef, undef, undef]), Cfg Tryz.prog 267 (loopAt Tryz.f267 0) t [] (RvH [] (vT_U_U_U (F_spec_l02Divide_L0 fu a1 a2 x_qhi x_rest x_q x_i))) := by
  intro fu
  induction fu with
  | zero => intro a1 a2 x_qhi x_rest x_q x_i q0 hm; exact absurd hm (Nat.not_lt_zero _)
  | succ fu ih =>
    intro a1 a2 x_qhi x_rest x_q x_i q0 hm t ht
    refine Cfg.round E_ok mixed Tryz.func267 ht fun g => ?_
    unfold F_spec_l02Divide_L0
    refine Run.y (gv := vT_U_U_U) (fun h1 => ?_) (fun h1 => ?_)
    · refine Run.z [true, true] ?_
      refine Run.k (c := (decide (0 ≤ (wu64 x_i.val).val))) (by kernel_rfl) (by simp only [w64_val, wu64_val, c64_val, cu64_val, decide_eq_true_eq] at *; first | assumption | omega) ?_
      refine Run.z [true] ?_
      refine Run.y (gv := vT_U_U_U) (fun h2 => ?_) (fun h2 => ?_)
      · refine Run.z [true, true, true, true] ?_
        exact Run.l (by kernel_rfl) (by kernel_rfl) (by kernel_rfl) (by kernel_rfl) (ih a1 a2 x_qhi (wu64 ((ior .u64 (ishl .u64 x_rest.val 1).val (iand .u64 (ishr a1 (wu64 x_i.val).val).val 1).val).val - a2.val)) (ior .u64 (ishl .u64 x_q.val 1).val 1) (w64 (x_i.val - 1)) (by have q1 := x_i.lo; simp only [w64_val, wu64_val, c64_val, cu64_val, decide_eq_true_eq] at *; omega) (by have q1 := x_i.lo; simp only [w64_val, wu64_val, c64_val, cu64_val, decide_eq_true_eq] at *; omega))
      · refine Run.z [false, false, false] ?_
        refine Run.y (gv := vT_U_U_U) (fun h3 => ?_) (fun h3 => ?_)
        · exact Run.l (by kernel_rfl) (by kernel_rfl) (by kernel_rfl) (by kernel_rfl) (ih a1 a2 x_qhi (wu64 ((ior .u64 (ishl .u64 x_rest.val 1).val (iand .u64 (ishr a1 (wu64 x_i.val).val).val 1).val).val - a2.val)) (ior .u64 (ishl .u64 x_q.val 1).val 1) (w64 (x_i.val - 1)) (by have q1 := x_i.lo; simp only [w64_val, wu64_val, c64_val, cu64_val, decide_eq_true_eq] at *; omega) (by have q1 := x_i.lo; simp only [w64_val, wu64_val, c64_val, cu64_val, decide_eq_true_eq] at *; omega))
        · exact Run.l (by kernel_rfl) (by kernel_rfl) (by kernel_rfl) (by kernel_rfl) (ih a1 a2 x_qhi (ior .u64 (ishl .u64 x_rest.val 1).val (iand .u64 (ishr a1 (wu64 x_i.val).val).val 1).val) (ishl .u64 x_q.val 1) (w64 (x_i.val - 1)) (by have q1 := x_i.lo; simp only [w64_val, wu64_val, c64_val, cu64_val, decide_eq_true_eq] at *; omega) (by have q1 := x_i.lo; simp only [w64_val, wu64_val, c64_val, cu64_val, decide_eq_true_eq] at *; omega))
    · exact Run.x 0

theorem ok_spec_l02Divide (a0 : U64) (a1 : U64) (a2 : U64) (p0 : a2.val ≠ 0) : Fun Tryz.prog 267 [] #[vU a0, vU a1, vU a2] (vT_U_U_U (F_spec_l02Divide a0 a1 a2)) [] := by
  refine Fun.ofH 400 E_ok mixed Tryz.func267 (by kernel_rfl) (by kernel_rfl) ?_
  unfold F_spec_l02Divide
  refine Run.k (c := (decide (a2.val ≠ 0))) (by kernel_rfl) (by simp only [w64_val, wu64_val, c64_val, cu64_val, decide_eq_true_eq] at *; first | assumption | omega) ?_
  refine Run.k (c := (decide (a2.val ≠ 0))) (by kernel_rfl) (by simp only [w64_val, wu64_val, c64_val, cu64_val, decide_eq_true_eq] at *; first | assumption | omega) ?_
  exact Run.l (by kernel_rfl) (by kernel_rfl) (by kernel_rfl) (by kernel_rfl) (ok_spec_l02Divide_L0 65 a1 a2 (wu64 (Int.tdiv a0.val a2.val)) (imod a0 a2.val) (cu64 0) (c64 63) (by decide) (by decide))

theorem ok_spec_l02Of (a0 : I64) : Fun Tryz.prog 270 [] #[vI a0] (vWd (F_spec_l02Of a0)) [] := by
  refine Fun.ofH 400 E_ok mixed Tryz.func270 (by kernel_rfl) (by kernel_rfl) ?_
  unfold F_spec_l02Of
  refine Run.y (gv := vWd) (fun _ => ?_) (fun _ => ?_)
  · exact Run.x 0
  · exact Run.x 0

theorem ok_spec_l02Plus (a0 : Wd) (a1 : Wd) : Fun Tryz.prog 269 [] #[vWd a0, vWd a1] (vWd (F_spec_l02Plus a0 a1)) [] := by
  refine Fun.ofH 400 E_ok mixed Tryz.func269 (by kernel_rfl) (by kernel_rfl) ?_
  unfold F_spec_l02Plus
  refine Run.y (gv := vWd) (fun _ => ?_) (fun _ => ?_)
  · exact Run.x 0
  · exact Run.x 0

theorem ok_spec_l02Div (a0 : Wd) (a1 : I64) (p0 : 0 < a1.val) : Fun Tryz.prog 220 [] #[vWd a0, vI a1] (vT_Wd_I (F_spec_l02Div a0 a1)) [] := by
  refine Fun.ofH 400 E_ok mixed Tryz.func220 (by kernel_rfl) (by kernel_rfl) ?_
  unfold F_spec_l02Div
  refine Run.y (gv := vT_Wd_I) (fun h1 => ?_) (fun h1 => ?_)
  · refine Run.q (e := vT_U_U_U) (gv := vT_Wd_I) (ok_spec_l02Divide _ _ _ (by have q1 := a1.hi; simp only [w64_val, wu64_val, decide_eq_true_eq] at *; omega)) fun r2 hr2 => ?_
    exact Run.x 0
  · refine Run.q (e := vWd) (gv := vT_Wd_I) (ok_spec_l02Minus _) fun r3 hr3 => ?_
    refine Run.q (e := vT_U_U_U) (gv := vT_Wd_I) (ok_spec_l02Divide _ _ _ (by have q1 := a1.hi; simp only [w64_val, wu64_val, decide_eq_true_eq] at *; omega)) fun r4 hr4 => ?_
    refine Run.q (e := vWd) (gv := vT_Wd_I) (ok_spec_l02Minus _) fun r5 hr5 => ?_
    refine Run.y (gv := vT_Wd_I) (fun h6 => ?_) (fun h6 => ?_)
    · exact Run.x 0
    · refine Run.q (e := vWd) (gv := vT_Wd_I) (ok_spec_l02Of _) fun r7 hr7 => ?_
      refine Run.q (e := vWd) (gv := vT_Wd_I) (ok_spec_l02Plus _ _) fun r8 hr8 => ?_
      exact Run.x 0

theorem ok_spec_l02Int (a0 : Wd) : Fun Tryz.prog 222 [] #[vWd a0] (vT_I_B (F_spec_l02Int a0)) [] := by
  refine Fun.ofH 400 E_ok mixed Tryz.func222 (by kernel_rfl) (by kernel_rfl) ?_
  unfold F_spec_l02Int
  refine Run.q (e := vWd) (gv := vT_I_B) (ok_spec_l02Of _) fun r1 _ => ?_
  refine Run.y (gv := vT_I_B) (fun _ => ?_) (fun _ => ?_)
  · exact Run.x 0
  · exact Run.x 0

theorem ok_spec_MulDivFloor (a0 : I64) (a1 : I64) (a2 : I64) : Fun Tryz.prog 126 [] #[vI a0, vI a1, vI a2] (vT_I_B (F_spec_MulDivFloor a0 a1 a2)) [] := by
  refine Fun.ofH 400 E_ok mixed Tryz.func126 (by kernel_rfl) (by kernel_rfl) ?_
  unfold F_spec_MulDivFloor
  refine Run.y (gv := vT_I_B) (fun h1 => ?_) (fun h1 => ?_)
  · exact Run.x 0
  · refine Run.q (e := vWd) (gv := vT_I_B) (ok_spec_l02Mul _ _) fun r2 hr2 => ?_
    refine Run.q (e := vT_Wd_I) (gv := vT_I_B) (ok_spec_l02Div _ _ (by simp only [c64_val, decide_eq_true_eq, decide_eq_false_iff_not] at *; omega)) fun r3 hr3 => ?_
    refine Run.q (e := vT_I_B) (gv := vT_I_B) (ok_spec_l02Int _) fun r4 hr4 => ?_
    exact Run.x 0

theorem ok_spec_RadiansOf_r : ∀ (fu : Nat) (a0 : I64) (hm : min (0 - a0.val).toNat 1 < fu), Fun Tryz.prog 88 [] #[vI a0] (vIv (F_spec_RadiansOf_r fu a0)) [] := by
  intro fu
  induction fu with
  | zero => intro a0 hm; exact absurd hm (Nat.not_lt_zero _)
  | succ fu ih =>
    intro a0 hm
    refine Fun.ofH 400 E_ok mixed Tryz.func88 (by kernel_rfl) (by kernel_rfl) ?_
    unfold F_spec_RadiansOf_r
    unfold F_spec_RadiansOf_b
    refine Run.q (e := vB) (gv := vIv) (ok_spec_l00In _ _ _) fun r1 hr1 => ?_
    refine Run.y (gv := vIv) (fun h2 => ?_) (fun h2 => ?_)
    · refine Run.q (e := vIv) (gv := vIv) (ok_spec_Whole) fun r3 hr3 => ?_
      exact Run.x 0
    · refine Run.y (gv := vIv) (fun h4 => ?_) (fun h4 => ?_)
      · exact Run.x 0
      · refine Run.y (gv := vIv) (fun h5 => ?_) (fun h5 => ?_)
        · refine Run.q (e := vIv) (gv := vIv) (ih (w64 (0 - a0.val)) (by rw [hr1] at h2; simp [F_spec_l00In, c64_val] at h2; simp only [w64_val, decide_eq_true_eq, decide_eq_false_iff_not] at *; omega)) fun r6 hr6 => ?_
          refine Run.q (e := vIv) (gv := vIv) (ok_spec_NegI _) fun r7 hr7 => ?_
          exact Run.x 0
        · refine Run.q (e := vT_I_B) (gv := vIv) (ok_spec_MulDivFloor _ _ _) fun r8 hr8 => ?_
          refine Run.q (e := vT_I_B) (gv := vIv) (ok_spec_MulDivFloor _ _ _) fun r9 hr9 => ?_
          exact Run.x 0
theorem ok_spec_RadiansOf (a0 : I64) : Fun Tryz.prog 88 [] #[vI a0] (vIv (F_spec_RadiansOf a0)) [] := ok_spec_RadiansOf_r 2 a0 (by omega)

theorem ok_spec_ValidInterval (a0 : Iv) : Fun Tryz.prog 290 [] #[vIv a0] (vB (F_spec_ValidInterval a0)) [] := by
  refine Fun.ofH 400 E_ok mixed Tryz.func290 (by kernel_rfl) (by kernel_rfl) ?_
  unfold F_spec_ValidInterval
  refine Run.q (e := vB) (gv := vB) (ok_spec_l04Ok _) fun r1 _ => ?_
  exact Run.x 0

theorem ok_spec_l06Angle (a0 : I64) : Fun Tryz.prog 291 [] #[vI a0] (vB (F_spec_l06Angle a0)) [] := by
  refine Fun.ofH 400 E_ok mixed Tryz.func291 (by kernel_rfl) (by kernel_rfl) ?_
  unfold F_spec_l06Angle
  refine Run.q (e := vB) (gv := vB) (ok_spec_l00In _ _ _) fun r1 _ => ?_
  exact Run.x 0

theorem ok_spec_l06Fits (a0 : Iv) : Fun Tryz.prog 247 [] #[vIv a0] (vB (F_spec_l06Fits a0)) [] := by
  refine Fun.ofH 400 E_ok mixed Tryz.func247 (by kernel_rfl) (by kernel_rfl) ?_
  unfold F_spec_l06Fits
  refine Run.q (e := vB) (gv := vB) (ok_spec_ValidInterval _) fun r1 _ => ?_
  refine Run.y (gv := vB) (fun _ => ?_) (fun _ => ?_)
  · refine Run.z [true, true] ?_
    refine Run.q (e := vB) (gv := vB) (ok_spec_l06Angle _) fun r2 _ => ?_
    refine Run.z [true] ?_
    refine Run.y (gv := vB) (fun _ => ?_) (fun _ => ?_)
    · refine Run.z [true, true] ?_
      refine Run.q (e := vB) (gv := vB) (ok_spec_l06Angle _) fun r3 _ => ?_
      refine Run.z [true] ?_
      exact Run.x 0
    · refine Run.z [false, false, false] ?_
      exact Run.x 0
  · refine Run.z [false, false, false, false, false, false, false] ?_
    exact Run.x 0

theorem ok_spec_l06Ring : Fun Tryz.prog 95 [] #[] (vIv (F_spec_l06Ring)) [] := by
  refine Fun.ofH 400 E_ok mixed Tryz.func95 (by kernel_rfl) (by kernel_rfl) ?_
  unfold F_spec_l06Ring
  exact Run.x 0

theorem ok_spec_l06Floor (a0 : I64) (a1 : I64) (p0 : a1.val ≠ 0) : Fun Tryz.prog 17 [] #[vI a0, vI a1] (vI (F_spec_l06Floor a0 a1)) [] := by
  refine Fun.ofH 400 E_ok mixed Tryz.func17 (by kernel_rfl) (by kernel_rfl) ?_
  unfold F_spec_l06Floor
  refine Run.k (c := (decide (a1.val ≠ 0))) (by kernel_rfl) (by exact decide_eq_true p0) ?_
  refine Run.k (c := (decide (a1.val ≠ 0))) (by kernel_rfl) (by exact decide_eq_true p0) ?_
  refine Run.y (gv := vI) (fun h1 => ?_) (fun h1 => ?_)
  · exact Run.x 0
  · exact Run.x 0

theorem ok_spec_QuarterOf (a0 : I64) : Fun Tryz.prog 249 [] #[vI a0] (vI (F_spec_QuarterOf a0)) [] := by
  refine Fun.ofH 400 E_ok mixed Tryz.func249 (by kernel_rfl) (by kernel_rfl) ?_
  unfold F_spec_QuarterOf
  refine Run.q (e := vB) (gv := vI) (ok_spec_l06Angle _) fun r1 hr1 => ?_
  refine Run.y (gv := vI) (fun h2 => ?_) (fun h2 => ?_)
  · exact Run.x 0
  · refine Run.q (e := vI) (gv := vI) (ok_spec_l06Floor _ _ (by decide)) fun r3 hr3 => ?_
    exact Run.x 0

theorem ok_spec_l05At (a0 : I64) : Fun Tryz.prog 255 [] #[vI a0] (vIv (F_spec_l05At a0)) [] := by
  refine Fun.ofH 400 E_ok mixed Tryz.func255 (by kernel_rfl) (by kernel_rfl) ?_
  unfold F_spec_l05At
  exact Run.x 0

theorem ok_spec_l02Shift (a0 : Wd) (a1 : I64) : Fun Tryz.prog 295 [] #[vWd a0, vI a1] (vWd (F_spec_l02Shift a0 a1)) [] := by
  refine Fun.ofH 400 E_ok mixed Tryz.func295 (by kernel_rfl) (by kernel_rfl) ?_
  unfold F_spec_l02Shift
  refine Run.y (gv := vWd) (fun h1 => ?_) (fun h1 => ?_)
  · exact Run.x 0
  · refine Run.y (gv := vWd) (fun h2 => ?_) (fun h2 => ?_)
    · refine Run.k (c := (decide (0 ≤ (wu64 a1.val).val))) (by kernel_rfl) (by simp only [w64_val, wu64_val, c64_val, cu64_val, decide_eq_true_eq, decide_eq_false_iff_not, cond_true, cond_false] at *; omega) ?_
      refine Run.k (c := (decide (0 ≤ (wu64 a1.val).val))) (by kernel_rfl) (by simp only [w64_val, wu64_val, c64_val, cu64_val, decide_eq_true_eq, decide_eq_false_iff_not, cond_true, cond_false] at *; omega) ?_
      refine Run.k (c := (decide (0 ≤ (wu64 (w64 (64 - a1.val)).val).val))) (by kernel_rfl) (by simp only [w64_val, wu64_val, c64_val, cu64_val, decide_eq_true_eq, decide_eq_false_iff_not, cond_true, cond_false] at *; omega) ?_
      exact Run.x 0
    · refine Run.z [true] ?_
      refine Run.k (c := (decide (0 ≤ (wu64 (w64 (a1.val - 64)).val).val))) (by kernel_rfl) (by simp only [w64_val, wu64_val, c64_val, cu64_val, decide_eq_true_eq, decide_eq_false_iff_not, cond_true, cond_false] at *; omega) ?_
      exact Run.x 0

theorem ok_spec_MulFloor (a0 : I64) (a1 : I64) (a2 : I64) : Fun Tryz.prog 250 [] #[vI a0, vI a1, vI a2] (vT_I_B (F_spec_MulFloor a0 a1 a2)) [] := by
  refine Fun.ofH 400 E_ok mixed Tryz.func250 (by kernel_rfl) (by kernel_rfl) ?_
  unfold F_spec_MulFloor
  refine Run.q (e := vB) (gv := vT_I_B) (ok_spec_l00In _ _ _) fun r1 _ => ?_
  refine Run.y (gv := vT_I_B) (fun _ => ?_) (fun _ => ?_)
  · exact Run.x 0
  · refine Run.q (e := vWd) (gv := vT_I_B) (ok_spec_l02Mul _ _) fun r2 _ => ?_
    refine Run.q (e := vWd) (gv := vT_I_B) (ok_spec_l02Shift _ _) fun r3 _ => ?_
    refine Run.q (e := vT_I_B) (gv := vT_I_B) (ok_spec_l02Int _) fun r4 _ => ?_
    exact Run.x 0

theorem ok_spec_l05Turn_r : ∀ (fu : Nat) (a0 : I64) (p0 : -9223372036854775808 < a0.val) (hm : min (0 - a0.val).toNat 1 < fu), Fun Tryz.prog 182 [] #[vI a0] (vIv (F_spec_l05Turn_r fu a0)) [] := by
  intro fu
  induction fu with
  | zero => intro a0 p0 hm; exact absurd hm (Nat.not_lt_zero _)
  | succ fu ih =>
    intro a0 p0 hm
    refine Fun.ofH 400 E_ok mixed Tryz.func182 (by kernel_rfl) (by kernel_rfl) ?_
    unfold F_spec_l05Turn_r
    refine Run.y (gv := vIv) (fun h1 => ?_) (fun h1 => ?_)
    · exact Run.x 0
    · refine Run.y (gv := vIv) (fun h2 => ?_) (fun h2 => ?_)
      · refine Run.q (e := vIv) (gv := vIv) (ih (w64 (0 - a0.val)) (by simp only [w64_val, decide_eq_true_eq, decide_eq_false_iff_not] at *; omega) (by simp only [w64_val, decide_eq_true_eq, decide_eq_false_iff_not] at *; omega)) fun r3 hr3 => ?_
        exact Run.x 0
      · refine Run.q (e := vT_I_B) (gv := vIv) (ok_spec_MulFloor _ _ _) fun r4 hr4 => ?_
        exact Run.x 0
theorem ok_spec_l05Turn (a0 : I64) (p0 : -9223372036854775808 < a0.val) : Fun Tryz.prog 182 [] #[vI a0] (vIv (F_spec_l05Turn a0)) [] := ok_spec_l05Turn_r 2 a0 p0 (by omega)

theorem ok_spec_TurnI (a0 : I64) : Fun Tryz.prog 215 [] #[vI a0] (vIv (F_spec_TurnI a0)) [] := by
  refine Fun.ofH 400 E_ok mixed Tryz.func215 (by kernel_rfl) (by kernel_rfl) ?_
  unfold F_spec_TurnI
  refine Run.q (e := vB) (gv := vIv) (ok_spec_l00In _ _ _) fun r1 hr1 => ?_
  refine Run.y (gv := vIv) (fun h2 => ?_) (fun h2 => ?_)
  · refine Run.q (e := vIv) (gv := vIv) (ok_spec_Whole) fun r3 hr3 => ?_
    exact Run.x 0
  · refine Run.q (e := vIv) (gv := vIv) (ok_spec_l05Turn _ (by rw [hr1] at h2; simp only [F_spec_l00In, c64_val] at h2; by_cases z : a0.val ≥ -4096 <;> simp [z] at h2 <;> omega)) fun r4 hr4 => ?_
    exact Run.x 0

theorem ok_spec_SubI (a0 : Iv) (a1 : Iv) : Fun Tryz.prog 107 [] #[vIv a0, vIv a1] (vIv (F_spec_SubI a0 a1)) [] := by
  refine Fun.ofH 400 E_ok mixed Tryz.func107 (by kernel_rfl) (by kernel_rfl) ?_
  unfold F_spec_SubI
  refine Run.q (e := vB) (gv := vIv) (ok_spec_l04Ok _) fun r1 _ => ?_
  refine Run.y (gv := vIv) (fun _ => ?_) (fun _ => ?_)
  · refine Run.z [true, true, true, true] ?_
    refine Run.q (e := vIv) (gv := vIv) (ok_spec_l04Whole) fun r2 _ => ?_
    exact Run.x 0
  · refine Run.z [false] ?_
    refine Run.q (e := vB) (gv := vIv) (ok_spec_l04Ok _) fun r3 _ => ?_
    refine Run.z [false, false] ?_
    refine Run.y (gv := vIv) (fun _ => ?_) (fun _ => ?_)
    · refine Run.q (e := vIv) (gv := vIv) (ok_spec_l04Whole) fun r4 _ => ?_
      exact Run.x 0
    · refine Run.q (e := vIv) (gv := vIv) (ok_spec_l04Make _ _) fun r5 _ => ?_
      exact Run.x 0

theorem ok_spec_InsideI (a0 : Iv) (a1 : Iv) : Fun Tryz.prog 309 [] #[vIv a0, vIv a1] (vB (F_spec_InsideI a0 a1)) [] := by
  refine Fun.ofH 400 E_ok mixed Tryz.func309 (by kernel_rfl) (by kernel_rfl) ?_
  unfold F_spec_InsideI
  refine Run.q (e := vB) (gv := vB) (ok_spec_l04Ok _) fun r1 _ => ?_
  refine Run.y (gv := vB) (fun _ => ?_) (fun _ => ?_)
  · exact Run.x 0
  · refine Run.q (e := vB) (gv := vB) (ok_spec_l04Ok _) fun r2 _ => ?_
    refine Run.y (gv := vB) (fun _ => ?_) (fun _ => ?_)
    · refine Run.z [true, true, true, true, true] ?_
      refine Run.y (gv := vB) (fun _ => ?_) (fun _ => ?_)
      · refine Run.z [true, true, true, true, true] ?_
        exact Run.x 0
      · refine Run.z [false, false, false, false, false] ?_
        exact Run.x 0
    · refine Run.z [false, false, false, false, false, false, false, false, false, false, false] ?_
      exact Run.x 0

theorem ok_spec_l00Max (a0 : I64) (a1 : I64) : Fun Tryz.prog 20 [] #[vI a0, vI a1] (vI (F_spec_l00Max a0 a1)) [] := by
  refine Fun.ofH 400 E_ok mixed Tryz.func20 (by kernel_rfl) (by kernel_rfl) ?_
  unfold F_spec_l00Max
  refine Run.y (gv := vI) (fun _ => ?_) (fun _ => ?_)
  · exact Run.x 0
  · exact Run.x 0

theorem ok_spec_l04Has (a0 : Iv) (a1 : I64) : Fun Tryz.prog 183 [] #[vIv a0, vI a1] (vB (F_spec_l04Has a0 a1)) [] := by
  refine Fun.ofH 400 E_ok mixed Tryz.func183 (by kernel_rfl) (by kernel_rfl) ?_
  unfold F_spec_l04Has
  refine Run.q (e := vB) (gv := vB) (ok_spec_l00In _ _ _) fun r1 _ => ?_
  exact Run.x 0

theorem ok_spec_l00Min (a0 : I64) (a1 : I64) : Fun Tryz.prog 187 [] #[vI a0, vI a1] (vI (F_spec_l00Min a0 a1)) [] := by
  refine Fun.ofH 400 E_ok mixed Tryz.func187 (by kernel_rfl) (by kernel_rfl) ?_
  unfold F_spec_l00Min
  refine Run.y (gv := vI) (fun _ => ?_) (fun _ => ?_)
  · exact Run.x 0
  · exact Run.x 0

theorem ok_spec_l04Ends (a0 : Iv) : Fun Tryz.prog 210 [] #[vIv a0] (vT_I_I (F_spec_l04Ends a0)) [] := by
  refine Fun.ofH 400 E_ok mixed Tryz.func210 (by kernel_rfl) (by kernel_rfl) ?_
  unfold F_spec_l04Ends
  refine Run.q (e := vI) (gv := vT_I_I) (ok_spec_l00Max _ _) fun r1 _ => ?_
  refine Run.q (e := vI) (gv := vT_I_I) (ok_spec_l00Max _ _) fun r2 _ => ?_
  refine Run.q (e := vB) (gv := vT_I_I) (ok_spec_l04Has _ _) fun r3 _ => ?_
  refine Run.y (gv := vT_I_I) (fun _ => ?_) (fun _ => ?_)
  · refine Run.q (e := vI) (gv := vT_I_I) (ok_spec_l00Max _ _) fun r4 _ => ?_
    exact Run.x 0
  · refine Run.q (e := vI) (gv := vT_I_I) (ok_spec_l00Min _ _) fun r5 _ => ?_
    refine Run.q (e := vI) (gv := vT_I_I) (ok_spec_l00Max _ _) fun r6 _ => ?_
    exact Run.x 0

theorem ok_spec_l03Ok (a0 : I64) : Fun Tryz.prog 251 [] #[vI a0] (vB (F_spec_l03Ok a0)) [] := by
  refine Fun.ofH 400 E_ok mixed Tryz.func251 (by kernel_rfl) (by kernel_rfl) ?_
  unfold F_spec_l03Ok
  refine Run.q (e := vB) (gv := vB) (ok_spec_l00In _ _ _) fun r1 _ => ?_
  exact Run.x 0

theorem ok_spec_l03End (a0 : I64) (a1 : Bool) : Fun Tryz.prog 252 [] #[vI a0, vB a1] (vT_I_B (F_spec_l03End a0 a1)) [] := by
  refine Fun.ofH 400 E_ok mixed Tryz.func252 (by kernel_rfl) (by kernel_rfl) ?_
  unfold F_spec_l03End
  refine Run.y (gv := vT_I_B) (fun _ => ?_) (fun _ => ?_)
  · refine Run.z [true, true, true, true] ?_
    exact Run.x 0
  · refine Run.z [false] ?_
    refine Run.q (e := vB) (gv := vT_I_B) (ok_spec_l03Ok _) fun r1 _ => ?_
    refine Run.z [false, false] ?_
    refine Run.y (gv := vT_I_B) (fun _ => ?_) (fun _ => ?_)
    · exact Run.x 0
    · exact Run.x 0

theorem ok_spec_l03MulDown (a0 : I64) (a1 : I64) : Fun Tryz.prog 194 [] #[vI a0, vI a1] (vT_I_B (F_spec_l03MulDown a0 a1)) [] := by
  refine Fun.ofH 400 E_ok mixed Tryz.func194 (by kernel_rfl) (by kernel_rfl) ?_
  unfold F_spec_l03MulDown
  refine Run.q (e := vB) (gv := vT_I_B) (ok_spec_l03Ok _) fun r1 _ => ?_
  refine Run.y (gv := vT_I_B) (fun _ => ?_) (fun _ => ?_)
  · refine Run.z [true, true, true, true] ?_
    exact Run.x 0
  · refine Run.z [false] ?_
    refine Run.q (e := vB) (gv := vT_I_B) (ok_spec_l03Ok _) fun r2 _ => ?_
    refine Run.z [false, false] ?_
    refine Run.y (gv := vT_I_B) (fun _ => ?_) (fun _ => ?_)
    · exact Run.x 0
    · refine Run.q (e := vT_I_B) (gv := vT_I_B) (ok_spec_MulFloor _ _ _) fun r3 _ => ?_
      refine Run.q (e := vT_I_B) (gv := vT_I_B) (ok_spec_l03End _ _) fun r4 _ => ?_
      exact Run.x 0

theorem ok_spec_l03MulUp (a0 : I64) (a1 : I64) : Fun Tryz.prog 195 [] #[vI a0, vI a1] (vT_I_B (F_spec_l03MulUp a0 a1)) [] := by
  refine Fun.ofH 400 E_ok mixed Tryz.func195 (by kernel_rfl) (by kernel_rfl) ?_
  unfold F_spec_l03MulUp
  refine Run.q (e := vT_I_B) (gv := vT_I_B) (ok_spec_l03MulDown _ _) fun r1 _ => ?_
  refine Run.q (e := vB) (gv := vT_I_B) (ok_spec_l03Ok _) fun r2 _ => ?_
  refine Run.y (gv := vT_I_B) (fun _ => ?_) (fun _ => ?_)
  · refine Run.z [true, true, true] ?_
    exact Run.x 0
  · refine Run.z [false, false] ?_
    refine Run.y (gv := vT_I_B) (fun _ => ?_) (fun _ => ?_)
    · exact Run.x 0
    · exact Run.x 0

theorem ok_spec_SqrI (a0 : Iv) : Fun Tryz.prog 111 [] #[vIv a0] (vIv (F_spec_SqrI a0)) [] := by
  refine Fun.ofH 400 E_ok mixed Tryz.func111 (by kernel_rfl) (by kernel_rfl) ?_
  unfold F_spec_SqrI
  refine Run.q (e := vB) (gv := vIv) (ok_spec_l04Ok _) fun r1 _ => ?_
  refine Run.y (gv := vIv) (fun _ => ?_) (fun _ => ?_)
  · refine Run.q (e := vIv) (gv := vIv) (ok_spec_l04Whole) fun r2 _ => ?_
    exact Run.x 0
  · refine Run.q (e := vT_I_I) (gv := vIv) (ok_spec_l04Ends _) fun r3 _ => ?_
    refine Run.q (e := vT_I_B) (gv := vIv) (ok_spec_l03MulDown _ _) fun r4 _ => ?_
    refine Run.q (e := vT_I_B) (gv := vIv) (ok_spec_l03MulUp _ _) fun r5 _ => ?_
    refine Run.y (gv := vIv) (fun _ => ?_) (fun _ => ?_)
    · refine Run.z [true, true, true] ?_
      refine Run.q (e := vIv) (gv := vIv) (ok_spec_l04Whole) fun r6 _ => ?_
      exact Run.x 0
    · refine Run.z [false, false] ?_
      refine Run.y (gv := vIv) (fun _ => ?_) (fun _ => ?_)
      · refine Run.q (e := vIv) (gv := vIv) (ok_spec_l04Whole) fun r7 _ => ?_
        exact Run.x 0
      · refine Run.q (e := vIv) (gv := vIv) (ok_spec_l04Make _ _) fun r8 _ => ?_
        exact Run.x 0

theorem ok_spec_Integer (a0 : I64) : Fun Tryz.prog 114 [] #[vI a0] (vIv (F_spec_Integer a0)) [] := by
  refine Fun.ofH 400 E_ok mixed Tryz.func114 (by kernel_rfl) (by kernel_rfl) ?_
  unfold F_spec_Integer
  refine Run.q (e := vB) (gv := vIv) (ok_spec_l00In _ _ _) fun r1 _ => ?_
  refine Run.y (gv := vIv) (fun _ => ?_) (fun _ => ?_)
  · refine Run.q (e := vIv) (gv := vIv) (ok_spec_l04Whole) fun r2 _ => ?_
    exact Run.x 0
  · refine Run.q (e := vIv) (gv := vIv) (ok_spec_l04Make _ _) fun r3 _ => ?_
    exact Run.x 0

theorem ok_spec_l03DivDown (a0 : I64) (a1 : I64) : Fun Tryz.prog 185 [] #[vI a0, vI a1] (vT_I_B (F_spec_l03DivDown a0 a1)) [] := by
  refine Fun.ofH 400 E_ok mixed Tryz.func185 (by kernel_rfl) (by kernel_rfl) ?_
  unfold F_spec_l03DivDown
  refine Run.q (e := vB) (gv := vT_I_B) (ok_spec_l03Ok _) fun r1 _ => ?_
  refine Run.y (gv := vT_I_B) (fun _ => ?_) (fun _ => ?_)
  · refine Run.z [true, true, true, true, true, true, true] ?_
    exact Run.x 0
  · refine Run.z [false] ?_
    refine Run.q (e := vB) (gv := vT_I_B) (ok_spec_l03Ok _) fun r2 _ => ?_
    refine Run.z [false, false] ?_
    refine Run.y (gv := vT_I_B) (fun _ => ?_) (fun _ => ?_)
    · refine Run.z [true, true, true] ?_
      exact Run.x 0
    · refine Run.z [false, false] ?_
      refine Run.y (gv := vT_I_B) (fun _ => ?_) (fun _ => ?_)
      · exact Run.x 0
      · refine Run.y (gv := vT_I_B) (fun _ => ?_) (fun _ => ?_)
        · refine Run.q (e := vT_I_B) (gv := vT_I_B) (ok_spec_MulDivFloor _ _ _) fun r3 _ => ?_
          refine Run.q (e := vT_I_B) (gv := vT_I_B) (ok_spec_l03End _ _) fun r4 _ => ?_
          exact Run.x 0
        · refine Run.q (e := vT_I_B) (gv := vT_I_B) (ok_spec_MulDivFloor _ _ _) fun r5 _ => ?_
          refine Run.q (e := vT_I_B) (gv := vT_I_B) (ok_spec_l03End _ _) fun r6 _ => ?_
          exact Run.x 0

theorem ok_spec_l03DivUp (a0 : I64) (a1 : I64) : Fun Tryz.prog 186 [] #[vI a0, vI a1] (vT_I_B (F_spec_l03DivUp a0 a1)) [] := by
  refine Fun.ofH 400 E_ok mixed Tryz.func186 (by kernel_rfl) (by kernel_rfl) ?_
  unfold F_spec_l03DivUp
  refine Run.q (e := vB) (gv := vT_I_B) (ok_spec_l03Ok _) fun r1 _ => ?_
  refine Run.y (gv := vT_I_B) (fun _ => ?_) (fun _ => ?_)
  · exact Run.x 0
  · refine Run.q (e := vT_I_B) (gv := vT_I_B) (ok_spec_l03DivDown _ _) fun r2 _ => ?_
    exact Run.x 0

theorem ok_spec_DivI (a0 : Iv) (a1 : Iv) : Fun Tryz.prog 90 [] #[vIv a0, vIv a1] (vIv (F_spec_DivI a0 a1)) [] := by
  refine Fun.ofH 400 E_ok mixed Tryz.func90 (by kernel_rfl) (by kernel_rfl) ?_
  unfold F_spec_DivI
  refine Run.q (e := vB) (gv := vIv) (ok_spec_l04Ok _) fun r1 _ => ?_
  refine Run.y (gv := vIv) (fun _ => ?_) (fun _ => ?_)
  · refine Run.z [true, true, true, true, true, true, true] ?_
    refine Run.q (e := vIv) (gv := vIv) (ok_spec_l04Whole) fun r2 _ => ?_
    exact Run.x 0
  · refine Run.z [false] ?_
    refine Run.q (e := vB) (gv := vIv) (ok_spec_l04Ok _) fun r3 _ => ?_
    refine Run.z [false, false] ?_
    refine Run.y (gv := vIv) (fun _ => ?_) (fun _ => ?_)
    · refine Run.z [true, true, true] ?_
      refine Run.q (e := vIv) (gv := vIv) (ok_spec_l04Whole) fun r4 _ => ?_
      exact Run.x 0
    · refine Run.z [false] ?_
      refine Run.q (e := vB) (gv := vIv) (ok_spec_l04Has _ _) fun r5 _ => ?_
      refine Run.z [false] ?_
      refine Run.y (gv := vIv) (fun _ => ?_) (fun _ => ?_)
      · refine Run.q (e := vIv) (gv := vIv) (ok_spec_l04Whole) fun r6 _ => ?_
        exact Run.x 0
      · refine Run.u 400 E_ok mixed Tryz.func90 ?_
        refine Run.z [true] ?_
        refine Run.u 400 E_ok mixed Tryz.func90 ?_
        refine Run.z [true, true, true] ?_
        refine Run.q (e := vT_I_B) (gv := vIv) (ok_spec_l03DivDown _ _) fun r7 _ => ?_
        refine Run.z [true, true] ?_
        refine Run.q (e := vT_I_B) (gv := vIv) (ok_spec_l03DivUp _ _) fun r8 _ => ?_
        refine Run.y (gv := vIv) (fun _ => ?_) (fun _ => ?_)
        · refine Run.z [true, true, true] ?_
          refine Run.q (e := vIv) (gv := vIv) (ok_spec_l04Whole) fun r9 _ => ?_
          exact Run.x 0
        · refine Run.z [false, false] ?_
          refine Run.y (gv := vIv) (fun _ => ?_) (fun _ => ?_)
          · refine Run.q (e := vIv) (gv := vIv) (ok_spec_l04Whole) fun r10 _ => ?_
            exact Run.x 0
          · refine Run.q (e := vI) (gv := vIv) (ok_spec_l00Min _ _) fun r11 _ => ?_
            refine Run.q (e := vI) (gv := vIv) (ok_spec_l00Max _ _) fun r12 _ => ?_
            refine Run.u 400 E_ok mixed Tryz.func90 ?_
            refine Run.z [true, true, true] ?_
            refine Run.q (e := vT_I_B) (gv := vIv) (ok_spec_l03DivDown _ _) fun r13 _ => ?_
            refine Run.z [true, true] ?_
            refine Run.q (e := vT_I_B) (gv := vIv) (ok_spec_l03DivUp _ _) fun r14 _ => ?_
            refine Run.y (gv := vIv) (fun _ => ?_) (fun _ => ?_)
            · refine Run.z [true, true, true] ?_
              refine Run.q (e := vIv) (gv := vIv) (ok_spec_l04Whole) fun r15 _ => ?_
              exact Run.x 0
            · refine Run.z [false, false] ?_
              refine Run.y (gv := vIv) (fun _ => ?_) (fun _ => ?_)
              · refine Run.q (e := vIv) (gv := vIv) (ok_spec_l04Whole) fun r16 _ => ?_
                exact Run.x 0
              · refine Run.q (e := vI) (gv := vIv) (ok_spec_l00Min _ _) fun r17 _ => ?_
                refine Run.q (e := vI) (gv := vIv) (ok_spec_l00Max _ _) fun r18 _ => ?_
                refine Run.u 400 E_ok mixed Tryz.func90 ?_
                refine Run.z [false] ?_
                refine Run.u 400 E_ok mixed Tryz.func90 ?_
                refine Run.z [true] ?_
                refine Run.u 400 E_ok mixed Tryz.func90 ?_
                refine Run.z [true, true, true] ?_
                refine Run.q (e := vT_I_B) (gv := vIv) (ok_spec_l03DivDown _ _) fun r19 _ => ?_
                refine Run.z [true, true] ?_
                refine Run.q (e := vT_I_B) (gv := vIv) (ok_spec_l03DivUp _ _) fun r20 _ => ?_
                refine Run.y (gv := vIv) (fun _ => ?_) (fun _ => ?_)
                · refine Run.z [true, true, true] ?_
                  refine Run.q (e := vIv) (gv := vIv) (ok_spec_l04Whole) fun r21 _ => ?_
                  exact Run.x 0
                · refine Run.z [false, false] ?_
                  refine Run.y (gv := vIv) (fun _ => ?_) (fun _ => ?_)
                  · refine Run.q (e := vIv) (gv := vIv) (ok_spec_l04Whole) fun r22 _ => ?_
                    exact Run.x 0
                  · refine Run.q (e := vI) (gv := vIv) (ok_spec_l00Min _ _) fun r23 _ => ?_
                    refine Run.q (e := vI) (gv := vIv) (ok_spec_l00Max _ _) fun r24 _ => ?_
                    refine Run.u 400 E_ok mixed Tryz.func90 ?_
                    refine Run.z [true, true, true] ?_
                    refine Run.q (e := vT_I_B) (gv := vIv) (ok_spec_l03DivDown _ _) fun r25 _ => ?_
                    refine Run.z [true, true] ?_
                    refine Run.q (e := vT_I_B) (gv := vIv) (ok_spec_l03DivUp _ _) fun r26 _ => ?_
                    refine Run.y (gv := vIv) (fun _ => ?_) (fun _ => ?_)
                    · refine Run.z [true, true, true] ?_
                      refine Run.q (e := vIv) (gv := vIv) (ok_spec_l04Whole) fun r27 _ => ?_
                      exact Run.x 0
                    · refine Run.z [false, false] ?_
                      refine Run.y (gv := vIv) (fun _ => ?_) (fun _ => ?_)
                      · refine Run.q (e := vIv) (gv := vIv) (ok_spec_l04Whole) fun r28 _ => ?_
                        exact Run.x 0
                      · refine Run.q (e := vI) (gv := vIv) (ok_spec_l00Min _ _) fun r29 _ => ?_
                        refine Run.q (e := vI) (gv := vIv) (ok_spec_l00Max _ _) fun r30 _ => ?_
                        refine Run.u 400 E_ok mixed Tryz.func90 ?_
                        refine Run.z [false] ?_
                        refine Run.u 400 E_ok mixed Tryz.func90 ?_
                        refine Run.z [false] ?_
                        refine Run.q (e := vIv) (gv := vIv) (ok_spec_l04Make _ _) fun r31 _ => ?_
                        exact Run.x 0

theorem ok_spec_MulI (a0 : Iv) (a1 : Iv) : Fun Tryz.prog 93 [] #[vIv a0, vIv a1] (vIv (F_spec_MulI a0 a1)) [] := by
  refine Fun.ofH 400 E_ok mixed Tryz.func93 (by kernel_rfl) (by kernel_rfl) ?_
  unfold F_spec_MulI
  refine Run.q (e := vB) (gv := vIv) (ok_spec_l04Ok _) fun r1 _ => ?_
  refine Run.y (gv := vIv) (fun _ => ?_) (fun _ => ?_)
  · refine Run.z [true, true, true, true] ?_
    refine Run.q (e := vIv) (gv := vIv) (ok_spec_l04Whole) fun r2 _ => ?_
    exact Run.x 0
  · refine Run.z [false] ?_
    refine Run.q (e := vB) (gv := vIv) (ok_spec_l04Ok _) fun r3 _ => ?_
    refine Run.z [false, false] ?_
    refine Run.y (gv := vIv) (fun _ => ?_) (fun _ => ?_)
    · refine Run.q (e := vIv) (gv := vIv) (ok_spec_l04Whole) fun r4 _ => ?_
      exact Run.x 0
    · refine Run.u 400 E_ok mixed Tryz.func93 ?_
      refine Run.z [true] ?_
      refine Run.u 400 E_ok mixed Tryz.func93 ?_
      refine Run.z [true, true, true] ?_
      refine Run.q (e := vT_I_B) (gv := vIv) (ok_spec_l03MulDown _ _) fun r5 _ => ?_
      refine Run.z [true, true] ?_
      refine Run.q (e := vT_I_B) (gv := vIv) (ok_spec_l03MulUp _ _) fun r6 _ => ?_
      refine Run.y (gv := vIv) (fun _ => ?_) (fun _ => ?_)
      · refine Run.z [true, true, true] ?_
        refine Run.q (e := vIv) (gv := vIv) (ok_spec_l04Whole) fun r7 _ => ?_
        exact Run.x 0
      · refine Run.z [false, false] ?_
        refine Run.y (gv := vIv) (fun _ => ?_) (fun _ => ?_)
        · refine Run.q (e := vIv) (gv := vIv) (ok_spec_l04Whole) fun r8 _ => ?_
          exact Run.x 0
        · refine Run.q (e := vI) (gv := vIv) (ok_spec_l00Min _ _) fun r9 _ => ?_
          refine Run.q (e := vI) (gv := vIv) (ok_spec_l00Max _ _) fun r10 _ => ?_
          refine Run.u 400 E_ok mixed Tryz.func93 ?_
          refine Run.z [true, true, true] ?_
          refine Run.q (e := vT_I_B) (gv := vIv) (ok_spec_l03MulDown _ _) fun r11 _ => ?_
          refine Run.z [true, true] ?_
          refine Run.q (e := vT_I_B) (gv := vIv) (ok_spec_l03MulUp _ _) fun r12 _ => ?_
          refine Run.y (gv := vIv) (fun _ => ?_) (fun _ => ?_)
          · refine Run.z [true, true, true] ?_
            refine Run.q (e := vIv) (gv := vIv) (ok_spec_l04Whole) fun r13 _ => ?_
            exact Run.x 0
          · refine Run.z [false, false] ?_
            refine Run.y (gv := vIv) (fun _ => ?_) (fun _ => ?_)
            · refine Run.q (e := vIv) (gv := vIv) (ok_spec_l04Whole) fun r14 _ => ?_
              exact Run.x 0
            · refine Run.q (e := vI) (gv := vIv) (ok_spec_l00Min _ _) fun r15 _ => ?_
              refine Run.q (e := vI) (gv := vIv) (ok_spec_l00Max _ _) fun r16 _ => ?_
              refine Run.u 400 E_ok mixed Tryz.func93 ?_
              refine Run.z [false] ?_
              refine Run.u 400 E_ok mixed Tryz.func93 ?_
              refine Run.z [true] ?_
              refine Run.u 400 E_ok mixed Tryz.func93 ?_
              refine Run.z [true, true, true] ?_
              refine Run.q (e := vT_I_B) (gv := vIv) (ok_spec_l03MulDown _ _) fun r17 _ => ?_
              refine Run.z [true, true] ?_
              refine Run.q (e := vT_I_B) (gv := vIv) (ok_spec_l03MulUp _ _) fun r18 _ => ?_
              refine Run.y (gv := vIv) (fun _ => ?_) (fun _ => ?_)
              · refine Run.z [true, true, true] ?_
                refine Run.q (e := vIv) (gv := vIv) (ok_spec_l04Whole) fun r19 _ => ?_
                exact Run.x 0
              · refine Run.z [false, false] ?_
                refine Run.y (gv := vIv) (fun _ => ?_) (fun _ => ?_)
                · refine Run.q (e := vIv) (gv := vIv) (ok_spec_l04Whole) fun r20 _ => ?_
                  exact Run.x 0
                · refine Run.q (e := vI) (gv := vIv) (ok_spec_l00Min _ _) fun r21 _ => ?_
                  refine Run.q (e := vI) (gv := vIv) (ok_spec_l00Max _ _) fun r22 _ => ?_
                  refine Run.u 400 E_ok mixed Tryz.func93 ?_
                  refine Run.z [true, true, true] ?_
                  refine Run.q (e := vT_I_B) (gv := vIv) (ok_spec_l03MulDown _ _) fun r23 _ => ?_
                  refine Run.z [true, true] ?_
                  refine Run.q (e := vT_I_B) (gv := vIv) (ok_spec_l03MulUp _ _) fun r24 _ => ?_
                  refine Run.y (gv := vIv) (fun _ => ?_) (fun _ => ?_)
                  · refine Run.z [true, true, true] ?_
                    refine Run.q (e := vIv) (gv := vIv) (ok_spec_l04Whole) fun r25 _ => ?_
                    exact Run.x 0
                  · refine Run.z [false, false] ?_
                    refine Run.y (gv := vIv) (fun _ => ?_) (fun _ => ?_)
                    · refine Run.q (e := vIv) (gv := vIv) (ok_spec_l04Whole) fun r26 _ => ?_
                      exact Run.x 0
                    · refine Run.q (e := vI) (gv := vIv) (ok_spec_l00Min _ _) fun r27 _ => ?_
                      refine Run.q (e := vI) (gv := vIv) (ok_spec_l00Max _ _) fun r28 _ => ?_
                      refine Run.u 400 E_ok mixed Tryz.func93 ?_
                      refine Run.z [false] ?_
                      refine Run.u 400 E_ok mixed Tryz.func93 ?_
                      refine Run.z [false] ?_
                      refine Run.q (e := vIv) (gv := vIv) (ok_spec_l04Make _ _) fun r29 _ => ?_
                      exact Run.x 0

theorem ok_spec_l06Series (a0 : Iv) (a1 : I64) : Fun Tryz.prog 310 [] #[vIv a0, vI a1] (vIv (F_spec_l06Series a0 a1)) [] := by
  refine Fun.ofH 400 E_ok mixed Tryz.func310 (by kernel_rfl) (by kernel_rfl) ?_
  unfold F_spec_l06Series
  refine Run.q (e := vIv) (gv := vIv) (ok_spec_Integer _) fun r1 _ => ?_
  refine Run.u 400 E_ok mixed Tryz.func310 ?_
  refine Run.z [true] ?_
  refine Run.q (e := vIv) (gv := vIv) (ok_spec_Integer _) fun r2 _ => ?_
  refine Run.q (e := vIv) (gv := vIv) (ok_spec_Integer _) fun r3 _ => ?_
  refine Run.q (e := vIv) (gv := vIv) (ok_spec_DivI _ _) fun r4 _ => ?_
  refine Run.q (e := vIv) (gv := vIv) (ok_spec_MulI _ _) fun r5 _ => ?_
  refine Run.q (e := vIv) (gv := vIv) (ok_spec_SubI _ _) fun r6 _ => ?_
  refine Run.u 400 E_ok mixed Tryz.func310 ?_
  refine Run.z [true] ?_
  refine Run.q (e := vIv) (gv := vIv) (ok_spec_Integer _) fun r7 _ => ?_
  refine Run.q (e := vIv) (gv := vIv) (ok_spec_Integer _) fun r8 _ => ?_
  refine Run.q (e := vIv) (gv := vIv) (ok_spec_DivI _ _) fun r9 _ => ?_
  refine Run.q (e := vIv) (gv := vIv) (ok_spec_MulI _ _) fun r10 _ => ?_
  refine Run.q (e := vIv) (gv := vIv) (ok_spec_SubI _ _) fun r11 _ => ?_
  refine Run.u 400 E_ok mixed Tryz.func310 ?_
  refine Run.z [true] ?_
  refine Run.q (e := vIv) (gv := vIv) (ok_spec_Integer _) fun r12 _ => ?_
  refine Run.q (e := vIv) (gv := vIv) (ok_spec_Integer _) fun r13 _ => ?_
  refine Run.q (e := vIv) (gv := vIv) (ok_spec_DivI _ _) fun r14 _ => ?_
  refine Run.q (e := vIv) (gv := vIv) (ok_spec_MulI _ _) fun r15 _ => ?_
  refine Run.q (e := vIv) (gv := vIv) (ok_spec_SubI _ _) fun r16 _ => ?_
  refine Run.u 400 E_ok mixed Tryz.func310 ?_
  refine Run.z [true] ?_
  refine Run.q (e := vIv) (gv := vIv) (ok_spec_Integer _) fun r17 _ => ?_
  refine Run.q (e := vIv) (gv := vIv) (ok_spec_Integer _) fun r18 _ => ?_
  refine Run.q (e := vIv) (gv := vIv) (ok_spec_DivI _ _) fun r19 _ => ?_
  refine Run.q (e := vIv) (gv := vIv) (ok_spec_MulI _ _) fun r20 _ => ?_
  refine Run.q (e := vIv) (gv := vIv) (ok_spec_SubI _ _) fun r21 _ => ?_
  refine Run.u 400 E_ok mixed Tryz.func310 ?_
  refine Run.z [true] ?_
  refine Run.q (e := vIv) (gv := vIv) (ok_spec_Integer _) fun r22 _ => ?_
  refine Run.q (e := vIv) (gv := vIv) (ok_spec_Integer _) fun r23 _ => ?_
  refine Run.q (e := vIv) (gv := vIv) (ok_spec_DivI _ _) fun r24 _ => ?_
  refine Run.q (e := vIv) (gv := vIv) (ok_spec_MulI _ _) fun r25 _ => ?_
  refine Run.q (e := vIv) (gv := vIv) (ok_spec_SubI _ _) fun r26 _ => ?_
  refine Run.u 400 E_ok mixed Tryz.func310 ?_
  refine Run.z [true] ?_
  refine Run.q (e := vIv) (gv := vIv) (ok_spec_Integer _) fun r27 _ => ?_
  refine Run.q (e := vIv) (gv := vIv) (ok_spec_Integer _) fun r28 _ => ?_
  refine Run.q (e := vIv) (gv := vIv) (ok_spec_DivI _ _) fun r29 _ => ?_
  refine Run.q (e := vIv) (gv := vIv) (ok_spec_MulI _ _) fun r30 _ => ?_
  refine Run.q (e := vIv) (gv := vIv) (ok_spec_SubI _ _) fun r31 _ => ?_
  refine Run.u 400 E_ok mixed Tryz.func310 ?_
  refine Run.z [true] ?_
  refine Run.q (e := vIv) (gv := vIv) (ok_spec_Integer _) fun r32 _ => ?_
  refine Run.q (e := vIv) (gv := vIv) (ok_spec_Integer _) fun r33 _ => ?_
  refine Run.q (e := vIv) (gv := vIv) (ok_spec_DivI _ _) fun r34 _ => ?_
  refine Run.q (e := vIv) (gv := vIv) (ok_spec_MulI _ _) fun r35 _ => ?_
  refine Run.q (e := vIv) (gv := vIv) (ok_spec_SubI _ _) fun r36 _ => ?_
  refine Run.u 400 E_ok mixed Tryz.func310 ?_
  refine Run.z [true] ?_
  refine Run.q (e := vIv) (gv := vIv) (ok_spec_Integer _) fun r37 _ => ?_
  refine Run.q (e := vIv) (gv := vIv) (ok_spec_Integer _) fun r38 _ => ?_
  refine Run.q (e := vIv) (gv := vIv) (ok_spec_DivI _ _) fun r39 _ => ?_
  refine Run.q (e := vIv) (gv := vIv) (ok_spec_MulI _ _) fun r40 _ => ?_
  refine Run.q (e := vIv) (gv := vIv) (ok_spec_SubI _ _) fun r41 _ => ?_
  refine Run.u 400 E_ok mixed Tryz.func310 ?_
  refine Run.z [false] ?_
  exact Run.x 0

theorem ok_spec_l06Tiny : Fun Tryz.prog 311 [] #[] (vIv (F_spec_l06Tiny)) [] := by
  refine Fun.ofH 400 E_ok mixed Tryz.func311 (by kernel_rfl) (by kernel_rfl) ?_
  unfold F_spec_l06Tiny
  exact Run.x 0

theorem ok_spec_AddI (a0 : Iv) (a1 : Iv) : Fun Tryz.prog 110 [] #[vIv a0, vIv a1] (vIv (F_spec_AddI a0 a1)) [] := by
  refine Fun.ofH 400 E_ok mixed Tryz.func110 (by kernel_rfl) (by kernel_rfl) ?_
  unfold F_spec_AddI
  refine Run.q (e := vB) (gv := vIv) (ok_spec_l04Ok _) fun r1 _ => ?_
  refine Run.y (gv := vIv) (fun _ => ?_) (fun _ => ?_)
  · refine Run.z [true, true, true, true] ?_
    refine Run.q (e := vIv) (gv := vIv) (ok_spec_l04Whole) fun r2 _ => ?_
    exact Run.x 0
  · refine Run.z [false] ?_
    refine Run.q (e := vB) (gv := vIv) (ok_spec_l04Ok _) fun r3 _ => ?_
    refine Run.z [false, false] ?_
    refine Run.y (gv := vIv) (fun _ => ?_) (fun _ => ?_)
    · refine Run.q (e := vIv) (gv := vIv) (ok_spec_l04Whole) fun r4 _ => ?_
      exact Run.x 0
    · refine Run.q (e := vIv) (gv := vIv) (ok_spec_l04Make _ _) fun r5 _ => ?_
      exact Run.x 0

theorem ok_spec_SinSeries (a0 : Iv) : Fun Tryz.prog 293 [] #[vIv a0] (vIv (F_spec_SinSeries a0)) [] := by
  refine Fun.ofH 400 E_ok mixed Tryz.func293 (by kernel_rfl) (by kernel_rfl) ?_
  unfold F_spec_SinSeries
  refine Run.q (e := vIv) (gv := vIv) (ok_spec_l06Ring) fun r1 _ => ?_
  refine Run.q (e := vB) (gv := vIv) (ok_spec_InsideI _ _) fun r2 _ => ?_
  refine Run.y (gv := vIv) (fun _ => ?_) (fun _ => ?_)
  · refine Run.q (e := vIv) (gv := vIv) (ok_spec_Whole) fun r3 _ => ?_
    exact Run.x 0
  · refine Run.q (e := vIv) (gv := vIv) (ok_spec_SqrI _) fun r4 _ => ?_
    refine Run.q (e := vIv) (gv := vIv) (ok_spec_l06Series _ _) fun r5 _ => ?_
    refine Run.q (e := vIv) (gv := vIv) (ok_spec_MulI _ _) fun r6 _ => ?_
    refine Run.q (e := vIv) (gv := vIv) (ok_spec_l06Tiny) fun r7 _ => ?_
    refine Run.q (e := vIv) (gv := vIv) (ok_spec_AddI _ _) fun r8 _ => ?_
    exact Run.x 0

theorem ok_spec_MeetI (a0 : Iv) (a1 : Iv) : Fun Tryz.prog 196 [] #[vIv a0, vIv a1] (vT_Iv_B (F_spec_MeetI a0 a1)) [] := by
  refine Fun.ofH 400 E_ok mixed Tryz.func196 (by kernel_rfl) (by kernel_rfl) ?_
  unfold F_spec_MeetI
  refine Run.q (e := vB) (gv := vT_Iv_B) (ok_spec_l04Ok _) fun r1 _ => ?_
  refine Run.y (gv := vT_Iv_B) (fun _ => ?_) (fun _ => ?_)
  · refine Run.z [true] ?_
    refine Run.q (e := vB) (gv := vT_Iv_B) (ok_spec_l04Ok _) fun r2 _ => ?_
    refine Run.z [true, true] ?_
    refine Run.y (gv := vT_Iv_B) (fun _ => ?_) (fun _ => ?_)
    · refine Run.q (e := vIv) (gv := vT_Iv_B) (ok_spec_l04Whole) fun r3 _ => ?_
      exact Run.x 0
    · refine Run.q (e := vB) (gv := vT_Iv_B) (ok_spec_l04Ok _) fun r4 _ => ?_
      refine Run.y (gv := vT_Iv_B) (fun _ => ?_) (fun _ => ?_)
      · exact Run.x 0
      · refine Run.q (e := vB) (gv := vT_Iv_B) (ok_spec_l04Ok _) fun r5 _ => ?_
        refine Run.y (gv := vT_Iv_B) (fun _ => ?_) (fun _ => ?_)
        · exact Run.x 0
        · refine Run.q (e := vI) (gv := vT_Iv_B) (ok_spec_l00Max _ _) fun r6 _ => ?_
          refine Run.q (e := vI) (gv := vT_Iv_B) (ok_spec_l00Min _ _) fun r7 _ => ?_
          refine Run.y (gv := vT_Iv_B) (fun _ => ?_) (fun _ => ?_)
          · exact Run.x 0
          · exact Run.x 0
  · refine Run.z [false, false, false, false] ?_
    refine Run.q (e := vB) (gv := vT_Iv_B) (ok_spec_l04Ok _) fun r8 _ => ?_
    refine Run.y (gv := vT_Iv_B) (fun _ => ?_) (fun _ => ?_)
    · exact Run.x 0
    · refine Run.q (e := vB) (gv := vT_Iv_B) (ok_spec_l04Ok _) fun r9 _ => ?_
      refine Run.y (gv := vT_Iv_B) (fun _ => ?_) (fun _ => ?_)
      · exact Run.x 0
      · refine Run.q (e := vI) (gv := vT_Iv_B) (ok_spec_l00Max _ _) fun r10 _ => ?_
        refine Run.q (e := vI) (gv := vT_Iv_B) (ok_spec_l00Min _ _) fun r11 _ => ?_
        refine Run.y (gv := vT_Iv_B) (fun _ => ?_) (fun _ => ?_)
        · exact Run.x 0
        · exact Run.x 0

theorem ok_spec_l06Meet (a0 : Iv) : Fun Tryz.prog 292 [] #[vIv a0] (vIv (F_spec_l06Meet a0)) [] := by
  refine Fun.ofH 400 E_ok mixed Tryz.func292 (by kernel_rfl) (by kernel_rfl) ?_
  unfold F_spec_l06Meet
  refine Run.q (e := vIv) (gv := vIv) (ok_spec_l06Ring) fun r1 _ => ?_
  refine Run.q (e := vT_Iv_B) (gv := vIv) (ok_spec_MeetI _ _) fun r2 _ => ?_
  refine Run.y (gv := vIv) (fun _ => ?_) (fun _ => ?_)
  · refine Run.q (e := vIv) (gv := vIv) (ok_spec_l06Ring) fun r3 _ => ?_
    exact Run.x 0
  · exact Run.x 0

theorem ok_spec_CosSeries (a0 : Iv) : Fun Tryz.prog 294 [] #[vIv a0] (vIv (F_spec_CosSeries a0)) [] := by
  refine Fun.ofH 400 E_ok mixed Tryz.func294 (by kernel_rfl) (by kernel_rfl) ?_
  unfold F_spec_CosSeries
  refine Run.q (e := vIv) (gv := vIv) (ok_spec_l06Ring) fun r1 _ => ?_
  refine Run.q (e := vB) (gv := vIv) (ok_spec_InsideI _ _) fun r2 _ => ?_
  refine Run.y (gv := vIv) (fun _ => ?_) (fun _ => ?_)
  · refine Run.q (e := vIv) (gv := vIv) (ok_spec_Whole) fun r3 _ => ?_
    exact Run.x 0
  · refine Run.q (e := vIv) (gv := vIv) (ok_spec_SqrI _) fun r4 _ => ?_
    refine Run.q (e := vIv) (gv := vIv) (ok_spec_l06Series _ _) fun r5 _ => ?_
    refine Run.q (e := vIv) (gv := vIv) (ok_spec_l06Tiny) fun r6 _ => ?_
    refine Run.q (e := vIv) (gv := vIv) (ok_spec_AddI _ _) fun r7 _ => ?_
    exact Run.x 0

theorem ok_spec_l06At (a0 : I64) (a1 : I64) : Fun Tryz.prog 248 [] #[vI a0, vI a1] (vIv (F_spec_l06At a0 a1)) [] := by
  refine Fun.ofH 400 E_ok mixed Tryz.func248 (by kernel_rfl) (by kernel_rfl) ?_
  unfold F_spec_l06At
  refine Run.q (e := vB) (gv := vIv) (ok_spec_l06Angle _) fun r1 _ => ?_
  refine Run.y (gv := vIv) (fun _ => ?_) (fun _ => ?_)
  · refine Run.q (e := vIv) (gv := vIv) (ok_spec_l06Ring) fun r2 _ => ?_
    exact Run.x 0
  · refine Run.q (e := vI) (gv := vIv) (ok_spec_QuarterOf _) fun r3 _ => ?_
    refine Run.q (e := vIv) (gv := vIv) (ok_spec_l05At _) fun r4 _ => ?_
    refine Run.q (e := vIv) (gv := vIv) (ok_spec_TurnI _) fun r5 _ => ?_
    refine Run.q (e := vIv) (gv := vIv) (ok_spec_SubI _ _) fun r6 _ => ?_
    refine Run.y (gv := vIv) (fun _ => ?_) (fun _ => ?_)
    · refine Run.q (e := vIv) (gv := vIv) (ok_spec_SinSeries _) fun r7 _ => ?_
      refine Run.q (e := vIv) (gv := vIv) (ok_spec_l06Meet _) fun r8 _ => ?_
      exact Run.x 0
    · refine Run.y (gv := vIv) (fun _ => ?_) (fun _ => ?_)
      · refine Run.q (e := vIv) (gv := vIv) (ok_spec_CosSeries _) fun r9 _ => ?_
        refine Run.q (e := vIv) (gv := vIv) (ok_spec_l06Meet _) fun r10 _ => ?_
        exact Run.x 0
      · refine Run.y (gv := vIv) (fun _ => ?_) (fun _ => ?_)
        · refine Run.q (e := vIv) (gv := vIv) (ok_spec_SinSeries _) fun r11 _ => ?_
          refine Run.q (e := vIv) (gv := vIv) (ok_spec_NegI _) fun r12 _ => ?_
          refine Run.q (e := vIv) (gv := vIv) (ok_spec_l06Meet _) fun r13 _ => ?_
          exact Run.x 0
        · refine Run.q (e := vIv) (gv := vIv) (ok_spec_CosSeries _) fun r14 _ => ?_
          refine Run.q (e := vIv) (gv := vIv) (ok_spec_NegI _) fun r15 _ => ?_
          refine Run.q (e := vIv) (gv := vIv) (ok_spec_l06Meet _) fun r16 _ => ?_
          exact Run.x 0

theorem ok_spec_HullI (a0 : Iv) (a1 : Iv) : Fun Tryz.prog 190 [] #[vIv a0, vIv a1] (vIv (F_spec_HullI a0 a1)) [] := by
  refine Fun.ofH 400 E_ok mixed Tryz.func190 (by kernel_rfl) (by kernel_rfl) ?_
  unfold F_spec_HullI
  refine Run.q (e := vB) (gv := vIv) (ok_spec_l04Ok _) fun r1 _ => ?_
  refine Run.y (gv := vIv) (fun _ => ?_) (fun _ => ?_)
  · refine Run.z [true, true, true, true] ?_
    refine Run.q (e := vIv) (gv := vIv) (ok_spec_l04Whole) fun r2 _ => ?_
    exact Run.x 0
  · refine Run.z [false] ?_
    refine Run.q (e := vB) (gv := vIv) (ok_spec_l04Ok _) fun r3 _ => ?_
    refine Run.z [false, false] ?_
    refine Run.y (gv := vIv) (fun _ => ?_) (fun _ => ?_)
    · refine Run.q (e := vIv) (gv := vIv) (ok_spec_l04Whole) fun r4 _ => ?_
      exact Run.x 0
    · refine Run.q (e := vI) (gv := vIv) (ok_spec_l00Min _ _) fun r5 _ => ?_
      refine Run.q (e := vI) (gv := vIv) (ok_spec_l00Max _ _) fun r6 _ => ?_
      refine Run.q (e := vIv) (gv := vIv) (ok_spec_l04Make _ _) fun r7 _ => ?_
      exact Run.x 0

theorem ok_spec_OverlapI (a0 : Iv) (a1 : Iv) : Fun Tryz.prog 94 [] #[vIv a0, vIv a1] (vB (F_spec_OverlapI a0 a1)) [] := by
  refine Fun.ofH 400 E_ok mixed Tryz.func94 (by kernel_rfl) (by kernel_rfl) ?_
  unfold F_spec_OverlapI
  refine Run.q (e := vT_Iv_B) (gv := vB) (ok_spec_MeetI _ _) fun r1 _ => ?_
  exact Run.x 0

theorem ok_spec_l06Over_L0 : ∀ (fu : Nat) (a1 : I64) (a0 : Iv) (x_k : I64) (y_2 : Iv) (hm : (2000 - x_k.val).toNat < fu) (t : Array Value) (ht : maskA t [0, 3, 7, 8, 9, 10, 11, 12, 13, 14, 15, 16, 17, 18, 19, 20, 21, 22, 23, 24, 25, 26, 27, 28, 29, 30, 31, 32, 33, 34, 35, 36, 37, 38, 39, 40, 41, 42, 43, 44, 45, 46, 47, 48, 49, 50, 51] = #[undef, .int .i64 a1.val, .pointer (some ⟨0, 0, none⟩), undef, .pointer (some ⟨1, 0, none⟩), .pointer (some ⟨2, 0, none⟩), .int .i64 x_k.val, undef, undef, undef, undef, undef, undef, undef, undef, undef, undef, undef, undef, undef, undef, undef, undef, undef, undef, undef, undef, undef, undef, undef, undef, undef, undef, undef, undef, undef, undef, undef, undef, undef, undef, undef, undef, undef, undef, undef, undef, undef, undef, undef, undef, undef]), Cfg Tryz.prog 180 (loopAt Tryz.f180 0) t [(#[.int .i64 a0.lo.val, .int .i64 a0.hi.val], 34), (#[.int .i64 0, .int .i64 0], 34), (#[.int .i64 y_2.lo.val, .int .i64 y_2.hi.val], 34)] (RvH [] (vIv (F_spec_l06Over_L0 fu a1 a0 x_k y_2))) := by
  intro fu
  induction fu with
  | zero => intro a1 a0 x_k y_2 hm; exact absurd hm (Nat.not_lt_zero _)
  | succ fu ih =>
    intro a1 a0 x_k y_2 hm t ht
    refine Cfg.round E_ok mixed Tryz.func180 ht fun g => ?_
    unfold F_spec_l06Over_L0
    refine Run.q (e := vI) (gv := vIv) (ok_spec_QuarterOf _) fun r8 hr8 => ?_
    refine Run.y (gv := vIv) (fun h9 => ?_) (fun h9 => ?_)
    · refine Run.q (e := vIv) (gv := vIv) (ok_spec_TurnI _) fun r10 hr10 => ?_
      refine Run.q (e := vB) (gv := vIv) (ok_spec_OverlapI _ _) fun r11 hr11 => ?_
      refine Run.y (gv := vIv) (fun h12 => ?_) (fun h12 => ?_)
      · exact Run.l (by kernel_rfl) (by kernel_rfl) (by kernel_rfl) (by kernel_rfl) (ih a1 a0 (w64 (x_k.val + 1)) y_2 (by have q1 := x_k.lo; first | exact Nat.lt_succ_self _ | (have q2 := spec_quarter_le a0.hi; have q3 := spec_quarter_ge a0.hi; simp only [w64_val, decide_eq_true_eq, decide_eq_false_iff_not, *] at *; omega)))
      · refine Run.y (gv := vIv) (fun h13 => ?_) (fun h13 => ?_)
        · refine Run.q (e := vIv) (gv := vIv) (ok_spec_Integer _) fun r14 hr14 => ?_
          refine Run.q (e := vIv) (gv := vIv) (ok_spec_HullI _ _) fun r15 hr15 => ?_
          exact Run.l (by kernel_rfl) (by kernel_rfl) (by kernel_rfl) (by kernel_rfl) (ih a1 a0 (w64 (x_k.val + 1)) r15 (by have q1 := x_k.lo; first | exact Nat.lt_succ_self _ | (have q2 := spec_quarter_le a0.hi; have q3 := spec_quarter_ge a0.hi; simp only [w64_val, decide_eq_true_eq, decide_eq_false_iff_not, *] at *; omega)))
        · refine Run.y (gv := vIv) (fun h16 => ?_) (fun h16 => ?_)
          · refine Run.q (e := vIv) (gv := vIv) (ok_spec_Integer _) fun r17 hr17 => ?_
            refine Run.q (e := vIv) (gv := vIv) (ok_spec_HullI _ _) fun r18 hr18 => ?_
            exact Run.l (by kernel_rfl) (by kernel_rfl) (by kernel_rfl) (by kernel_rfl) (ih a1 a0 (w64 (x_k.val + 1)) r18 (by have q1 := x_k.lo; first | exact Nat.lt_succ_self _ | (have q2 := spec_quarter_le a0.hi; have q3 := spec_quarter_ge a0.hi; simp only [w64_val, decide_eq_true_eq, decide_eq_false_iff_not, *] at *; omega)))
          · exact Run.l (by kernel_rfl) (by kernel_rfl) (by kernel_rfl) (by kernel_rfl) (ih a1 a0 (w64 (x_k.val + 1)) y_2 (by have q1 := x_k.lo; first | exact Nat.lt_succ_self _ | (have q2 := spec_quarter_le a0.hi; have q3 := spec_quarter_ge a0.hi; simp only [w64_val, decide_eq_true_eq, decide_eq_false_iff_not, *] at *; omega)))
    · exact Run.x 0

theorem ok_spec_l06Over (a0 : Iv) (a1 : I64) : Fun Tryz.prog 180 [] #[vIv a0, vI a1] (vIv (F_spec_l06Over a0 a1)) [] := by
  refine Fun.ofH 400 E_ok mixed Tryz.func180 (by kernel_rfl) (by kernel_rfl) ?_
  unfold F_spec_l06Over
  refine Run.q (e := vB) (gv := vIv) (ok_spec_l06Fits _) fun r1 hr1 => ?_
  refine Run.y (gv := vIv) (fun h2 => ?_) (fun h2 => ?_)
  · refine Run.q (e := vIv) (gv := vIv) (ok_spec_l06Ring) fun r3 hr3 => ?_
    exact Run.x 0
  · refine Run.q (e := vIv) (gv := vIv) (ok_spec_l06At _ _) fun r4 hr4 => ?_
    refine Run.q (e := vIv) (gv := vIv) (ok_spec_l06At _ _) fun r5 hr5 => ?_
    refine Run.q (e := vIv) (gv := vIv) (ok_spec_HullI _ _) fun r6 hr6 => ?_
    refine Run.q (e := vI) (gv := vIv) (ok_spec_QuarterOf _) fun r7 hr7 => ?_
    exact Run.l (by kernel_rfl) (by kernel_rfl) (by kernel_rfl) (by kernel_rfl) (ok_spec_l06Over_L0 ((2000 - (w64 (r7.val - 1)).val).toNat + 1) a1 a0 (w64 (r7.val - 1)) r6 (by exact Nat.lt_succ_self _))

theorem ok_spec_CosI (a0 : Iv) : Fun Tryz.prog 87 [] #[vIv a0] (vIv (F_spec_CosI a0)) [] := by
  refine Fun.ofH 400 E_ok mixed Tryz.func87 (by kernel_rfl) (by kernel_rfl) ?_
  unfold F_spec_CosI
  refine Run.q (e := vIv) (gv := vIv) (ok_spec_l06Over _ _) fun r1 _ => ?_
  exact Run.x 0

theorem ok_spec_l17Back (a0 : Pj) (a1 : Iv) (a2 : Iv) : Fun Tryz.prog 89 [] #[vPj a0, vIv a1, vIv a2] (vT_Iv_Iv_I (F_spec_l17Back a0 a1 a2)) [] := by
  refine Fun.ofH 400 E_ok mixed Tryz.func89 (by kernel_rfl) (by kernel_rfl) ?_
  unfold F_spec_l17Back
  refine Run.q (e := vIv) (gv := vT_Iv_Iv_I) (ok_spec_l05Turn _ (by simp only [w64_val, wu64_val, c64_val, cu64_val, decide_eq_true_eq, decide_eq_false_iff_not, cond_true, cond_false] at *; omega)) fun r1 hr1 => ?_
  refine Run.q (e := vIv) (gv := vT_Iv_Iv_I) (ok_spec_l05Turn _ (by simp only [w64_val, wu64_val, c64_val, cu64_val, decide_eq_true_eq, decide_eq_false_iff_not, cond_true, cond_false] at *; omega)) fun r2 hr2 => ?_
  refine Run.q (e := vB) (gv := vT_Iv_Iv_I) (ok_spec_l04Ok _) fun r3 hr3 => ?_
  refine Run.y (gv := vT_Iv_Iv_I) (fun h4 => ?_) (fun h4 => ?_)
  · refine Run.z [true, true, true, true, true] ?_
    refine Run.q (e := vB) (gv := vT_Iv_Iv_I) (ok_spec_OverlapI _ _) fun r5 hr5 => ?_
    refine Run.z [true, true] ?_
    refine Run.y (gv := vT_Iv_Iv_I) (fun h6 => ?_) (fun h6 => ?_)
    · refine Run.z [true, true, true, true, true] ?_
      exact Run.x 0
    · refine Run.z [false] ?_
      refine Run.q (e := vB) (gv := vT_Iv_Iv_I) (ok_spec_l04Ok _) fun r7 hr7 => ?_
      refine Run.z [false] ?_
      refine Run.y (gv := vT_Iv_Iv_I) (fun h8 => ?_) (fun h8 => ?_)
      · refine Run.z [true, true, true, true, true] ?_
        refine Run.q (e := vB) (gv := vT_Iv_Iv_I) (ok_spec_OverlapI _ _) fun r9 hr9 => ?_
        refine Run.z [true, false, true, false] ?_
        refine Run.y (gv := vT_Iv_Iv_I) (fun h10 => ?_) (fun h10 => ?_)
        · exact Run.x 0
        · refine Run.q (e := vIv) (gv := vT_Iv_Iv_I) (ok_spec_RadiansOf _) fun r11 hr11 => ?_
          refine Run.q (e := vIv) (gv := vT_Iv_Iv_I) (ok_spec_AddI _ _) fun r12 hr12 => ?_
          refine Run.q (e := vB) (gv := vT_Iv_Iv_I) (ok_spec_l04Ok _) fun r13 hr13 => ?_
          refine Run.y (gv := vT_Iv_Iv_I) (fun h14 => ?_) (fun h14 => ?_)
          · refine Run.z [true, true, true, true] ?_
            exact Run.x 0
          · refine Run.z [false] ?_
            refine Run.q (e := vB) (gv := vT_Iv_Iv_I) (ok_spec_l04Ok _) fun r15 hr15 => ?_
            refine Run.z [false, false] ?_
            refine Run.y (gv := vT_Iv_Iv_I) (fun h16 => ?_) (fun h16 => ?_)
            · exact Run.x 0
            · exact Run.x 0
      · refine Run.z [false, false, false, false, false, false, false, false, false, false] ?_
        refine Run.q (e := vIv) (gv := vT_Iv_Iv_I) (ok_spec_RadiansOf _) fun r17 hr17 => ?_
        refine Run.q (e := vIv) (gv := vT_Iv_Iv_I) (ok_spec_AddI _ _) fun r18 hr18 => ?_
        refine Run.q (e := vB) (gv := vT_Iv_Iv_I) (ok_spec_l04Ok _) fun r19 hr19 => ?_
        refine Run.y (gv := vT_Iv_Iv_I) (fun h20 => ?_) (fun h20 => ?_)
        · refine Run.z [true, true, true, true] ?_
          exact Run.x 0
        · refine Run.z [false] ?_
          refine Run.q (e := vB) (gv := vT_Iv_Iv_I) (ok_spec_l04Ok _) fun r21 hr21 => ?_
          refine Run.z [false, false] ?_
          refine Run.y (gv := vT_Iv_Iv_I) (fun h22 => ?_) (fun h22 => ?_)
          · exact Run.x 0
          · exact Run.x 0
  · refine Run.z [false, false, false, false, false, false, false, false, false] ?_
    refine Run.q (e := vB) (gv := vT_Iv_Iv_I) (ok_spec_l04Ok _) fun r23 hr23 => ?_
    refine Run.z [false] ?_
    refine Run.y (gv := vT_Iv_Iv_I) (fun h24 => ?_) (fun h24 => ?_)
    · refine Run.z [true, true, true, true, true] ?_
      refine Run.q (e := vB) (gv := vT_Iv_Iv_I) (ok_spec_OverlapI _ _) fun r25 hr25 => ?_
      refine Run.z [true, false, true, false] ?_
      refine Run.y (gv := vT_Iv_Iv_I) (fun h26 => ?_) (fun h26 => ?_)
      · exact Run.x 0
      · refine Run.q (e := vIv) (gv := vT_Iv_Iv_I) (ok_spec_RadiansOf _) fun r27 hr27 => ?_
        refine Run.q (e := vIv) (gv := vT_Iv_Iv_I) (ok_spec_AddI _ _) fun r28 hr28 => ?_
        refine Run.q (e := vB) (gv := vT_Iv_Iv_I) (ok_spec_l04Ok _) fun r29 hr29 => ?_
        refine Run.y (gv := vT_Iv_Iv_I) (fun h30 => ?_) (fun h30 => ?_)
        · refine Run.z [true, true, true, true] ?_
          exact Run.x 0
        · refine Run.z [false] ?_
          refine Run.q (e := vB) (gv := vT_Iv_Iv_I) (ok_spec_l04Ok _) fun r31 hr31 => ?_
          refine Run.z [false, false] ?_
          refine Run.y (gv := vT_Iv_Iv_I) (fun h32 => ?_) (fun h32 => ?_)
          · exact Run.x 0
          · exact Run.x 0
    · refine Run.z [false, false, false, false, false, false, false, false, false, false] ?_
      refine Run.q (e := vIv) (gv := vT_Iv_Iv_I) (ok_spec_RadiansOf _) fun r33 hr33 => ?_
      refine Run.q (e := vIv) (gv := vT_Iv_Iv_I) (ok_spec_AddI _ _) fun r34 hr34 => ?_
      refine Run.q (e := vB) (gv := vT_Iv_Iv_I) (ok_spec_l04Ok _) fun r35 hr35 => ?_
      refine Run.y (gv := vT_Iv_Iv_I) (fun h36 => ?_) (fun h36 => ?_)
      · refine Run.z [true, true, true, true] ?_
        exact Run.x 0
      · refine Run.z [false] ?_
        refine Run.q (e := vB) (gv := vT_Iv_Iv_I) (ok_spec_l04Ok _) fun r37 hr37 => ?_
        refine Run.z [false, false] ?_
        refine Run.y (gv := vT_Iv_Iv_I) (fun h38 => ?_) (fun h38 => ?_)
        · exact Run.x 0
        · exact Run.x 0

theorem ok_spec_l08At (a0 : I64) : Fun Tryz.prog 298 [] #[vI a0] (vIv (F_spec_l08At a0)) [] := by
  refine Fun.ofH 400 E_ok mixed Tryz.func298 (by kernel_rfl) (by kernel_rfl) ?_
  unfold F_spec_l08At
  refine Run.q (e := vIv) (gv := vIv) (ok_spec_l04Make _ _) fun r1 _ => ?_
  exact Run.x 0

theorem ok_spec_LogTwoI_r : ∀ (fu : Nat) (a0 : I64) (hm : min (0 - a0.val).toNat 1 < fu), Fun Tryz.prog 266 [] #[vI a0] (vIv (F_spec_LogTwoI_r fu a0)) [] := by
  intro fu
  induction fu with
  | zero => intro a0 hm; exact absurd hm (Nat.not_lt_zero _)
  | succ fu ih =>
    intro a0 hm
    refine Fun.ofH 400 E_ok mixed Tryz.func266 (by kernel_rfl) (by kernel_rfl) ?_
    unfold F_spec_LogTwoI_r
    unfold F_spec_LogTwoI_b
    refine Run.q (e := vB) (gv := vIv) (ok_spec_l00In _ _ _) fun r1 hr1 => ?_
    refine Run.y (gv := vIv) (fun h2 => ?_) (fun h2 => ?_)
    · refine Run.q (e := vIv) (gv := vIv) (ok_spec_l04Whole) fun r3 hr3 => ?_
      exact Run.x 0
    · refine Run.y (gv := vIv) (fun h4 => ?_) (fun h4 => ?_)
      · refine Run.q (e := vIv) (gv := vIv) (ih (w64 (0 - a0.val)) (by rw [hr1] at h2; simp [F_spec_l00In, c64_val] at h2; simp only [w64_val, decide_eq_true_eq, decide_eq_false_iff_not] at *; omega)) fun r5 hr5 => ?_
        refine Run.q (e := vIv) (gv := vIv) (ok_spec_NegI _) fun r6 hr6 => ?_
        exact Run.x 0
      · refine Run.q (e := vT_I_B) (gv := vIv) (ok_spec_MulFloor _ _ _) fun r7 hr7 => ?_
        refine Run.q (e := vT_I_B) (gv := vIv) (ok_spec_MulFloor _ _ _) fun r8 hr8 => ?_
        refine Run.q (e := vIv) (gv := vIv) (ok_spec_l04Make _ _) fun r9 hr9 => ?_
        exact Run.x 0
theorem ok_spec_LogTwoI (a0 : I64) : Fun Tryz.prog 266 [] #[vI a0] (vIv (F_spec_LogTwoI a0)) [] := ok_spec_LogTwoI_r 2 a0 (by omega)

theorem ok_spec_l08One : Fun Tryz.prog 264 [] #[] (vIv (F_spec_l08One)) [] := by
  refine Fun.ofH 400 E_ok mixed Tryz.func264 (by kernel_rfl) (by kernel_rfl) ?_
  unfold F_spec_l08One
  refine Run.q (e := vIv) (gv := vIv) (ok_spec_l08At _) fun r1 _ => ?_
  exact Run.x 0

theorem ok_spec_l08Widen (a0 : Iv) (a1 : I64) : Fun Tryz.prog 265 [] #[vIv a0, vI a1] (vIv (F_spec_l08Widen a0 a1)) [] := by
  refine Fun.ofH 400 E_ok mixed Tryz.func265 (by kernel_rfl) (by kernel_rfl) ?_
  unfold F_spec_l08Widen
  refine Run.q (e := vB) (gv := vIv) (ok_spec_l04Ok _) fun r1 _ => ?_
  refine Run.y (gv := vIv) (fun _ => ?_) (fun _ => ?_)
  · refine Run.q (e := vIv) (gv := vIv) (ok_spec_l04Whole) fun r2 _ => ?_
    exact Run.x 0
  · refine Run.q (e := vIv) (gv := vIv) (ok_spec_l04Make _ _) fun r3 _ => ?_
    exact Run.x 0

theorem ok_spec_l08Scale (a0 : Iv) (a1 : I64) : Fun Tryz.prog 299 [] #[vIv a0, vI a1] (vIv (F_spec_l08Scale a0 a1)) [] := by
  refine Fun.ofH 400 E_ok mixed Tryz.func299 (by kernel_rfl) (by kernel_rfl) ?_
  unfold F_spec_l08Scale
  refine Run.y (gv := vIv) (fun h1 => ?_) (fun h1 => ?_)
  · refine Run.k (c := (decide (0 ≤ (wu64 a1.val).val))) (by kernel_rfl) (by exact decide_eq_true (U64.lo _)) ?_
    refine Run.k (c := (decide (0 ≤ (wu64 a1.val).val))) (by kernel_rfl) (by exact decide_eq_true (U64.lo _)) ?_
    refine Run.q (e := vIv) (gv := vIv) (ok_spec_l04Make _ _) fun r2 hr2 => ?_
    exact Run.x 0
  · refine Run.k (c := (decide (0 ≤ (wu64 (w64 (0 - a1.val)).val).val))) (by kernel_rfl) (by exact decide_eq_true (U64.lo _)) ?_
    refine Run.k (c := (decide (0 ≤ (wu64 (w64 (0 - a1.val)).val).val))) (by kernel_rfl) (by exact decide_eq_true (U64.lo _)) ?_
    refine Run.q (e := vIv) (gv := vIv) (ok_spec_l04Make _ _) fun r3 hr3 => ?_
    exact Run.x 0

end Go.Proofs.YtjbdilphncpceaaGreat.Abs
