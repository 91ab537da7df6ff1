/- The program's functions are these; part 3 (written by w.py). -/
import Derived.Test.YtclbkeejhnmeoaaGreatK2
import Derived.Test.YtclbkeejhnmeoaaGreatF6
set_option linter.unusedVariables false
set_option linter.unusedSimpArgs false
namespace Go.Proofs.YtclbkeejhnmeoaaGreat.Abs
open Go Go.RowKit

theorem ok_impl_FixFloor (a0 : I64) (a1 : I64) : Fun Tryz.prog 293 [] #[vI a0, vI a1] (vT_I_B (F_impl_FixFloor a0 a1)) [] := by
  refine Fun.ofH 400 E_ok mixed Tryz.func293 (by kernel_rfl) (by kernel_rfl) ?_
  unfold F_impl_FixFloor
  refine Run.q (e := vT_I_B) (gv := vT_I_B) (ok_impl_MulDivFloor _ _ _) fun r1 _ => ?_
  refine Run.q (e := vT_I_B) (gv := vT_I_B) (ok_impl_fixed _ _) fun r2 _ => ?_
  exact Run.x 0

theorem ok_impl_mulDivCeil (a0 : I64) (a1 : I64) (a2 : I64) : Fun Tryz.prog 363 [] #[vI a0, vI a1, vI a2] (vT_I_B (F_impl_mulDivCeil a0 a1 a2)) [] := by
  refine Fun.ofH 400 E_ok mixed Tryz.func363 (by kernel_rfl) (by kernel_rfl) ?_
  unfold F_impl_mulDivCeil
  refine Run.q (e := vWd) (gv := vT_I_B) (ok_impl_WideMul _ _) fun r1 _ => ?_
  refine Run.q (e := vT_Wd_I_B) (gv := vT_I_B) (ok_impl_WideDiv _ _) fun r2 _ => ?_
  refine Run.y (gv := vT_I_B) (fun _ => ?_) (fun _ => ?_)
  · exact Run.x 0
  · refine Run.q (e := vT_I_B) (gv := vT_I_B) (ok_impl_WideInt _) fun r3 _ => ?_
    refine Run.y (gv := vT_I_B) (fun _ => ?_) (fun _ => ?_)
    · refine Run.z [true, true, true, true, true] ?_
      exact Run.x 0
    · refine Run.z [false, false] ?_
      refine Run.y (gv := vT_I_B) (fun _ => ?_) (fun _ => ?_)
      · refine Run.z [true, false, true, false] ?_
        refine Run.y (gv := vT_I_B) (fun _ => ?_) (fun _ => ?_)
        · exact Run.x 0
        · refine Run.y (gv := vT_I_B) (fun _ => ?_) (fun _ => ?_)
          · exact Run.x 0
          · exact Run.x 0
      · refine Run.z [false, false, false, false, false] ?_
        refine Run.y (gv := vT_I_B) (fun _ => ?_) (fun _ => ?_)
        · exact Run.x 0
        · exact Run.x 0

theorem ok_impl_FixCeil (a0 : I64) (a1 : I64) : Fun Tryz.prog 294 [] #[vI a0, vI a1] (vT_I_B (F_impl_FixCeil a0 a1)) [] := by
  refine Fun.ofH 400 E_ok mixed Tryz.func294 (by kernel_rfl) (by kernel_rfl) ?_
  unfold F_impl_FixCeil
  refine Run.q (e := vT_I_B) (gv := vT_I_B) (ok_impl_mulDivCeil _ _ _) fun r1 _ => ?_
  refine Run.q (e := vT_I_B) (gv := vT_I_B) (ok_impl_fixed _ _) fun r2 _ => ?_
  exact Run.x 0

theorem ok_impl_Quotient (a0 : I64) (a1 : I64) : Fun Tryz.prog 194 [] #[vI a0, vI a1] (vIv (F_impl_Quotient a0 a1)) [] := by
  refine Fun.ofH 400 E_ok mixed Tryz.func194 (by kernel_rfl) (by kernel_rfl) ?_
  unfold F_impl_Quotient
  refine Run.y (gv := vIv) (fun _ => ?_) (fun _ => ?_)
  · refine Run.y (gv := vIv) (fun _ => ?_) (fun _ => ?_)
    · refine Run.z [true, true, true] ?_
      refine Run.q (e := vIv) (gv := vIv) (ok_impl_Whole) fun r1 _ => ?_
      exact Run.x 0
    · refine Run.z [false, false] ?_
      refine Run.y (gv := vIv) (fun _ => ?_) (fun _ => ?_)
      · refine Run.q (e := vIv) (gv := vIv) (ok_impl_Whole) fun r2 _ => ?_
        exact Run.x 0
      · refine Run.q (e := vT_I_B) (gv := vIv) (ok_impl_FixFloor _ _) fun r3 _ => ?_
        refine Run.q (e := vT_I_B) (gv := vIv) (ok_impl_FixCeil _ _) fun r4 _ => ?_
        refine Run.y (gv := vIv) (fun _ => ?_) (fun _ => ?_)
        · refine Run.z [true] ?_
          refine Run.q (e := vIv) (gv := vIv) (ok_impl_bounded _ _ _) fun r5 _ => ?_
          exact Run.x 0
        · refine Run.z [false] ?_
          refine Run.q (e := vIv) (gv := vIv) (ok_impl_bounded _ _ _) fun r6 _ => ?_
          exact Run.x 0
  · refine Run.q (e := vT_I_B) (gv := vIv) (ok_impl_FixFloor _ _) fun r7 _ => ?_
    refine Run.q (e := vT_I_B) (gv := vIv) (ok_impl_FixCeil _ _) fun r8 _ => ?_
    refine Run.y (gv := vIv) (fun _ => ?_) (fun _ => ?_)
    · refine Run.z [true] ?_
      refine Run.q (e := vIv) (gv := vIv) (ok_impl_bounded _ _ _) fun r9 _ => ?_
      exact Run.x 0
    · refine Run.z [false] ?_
      refine Run.q (e := vIv) (gv := vIv) (ok_impl_bounded _ _ _) fun r10 _ => ?_
      exact Run.x 0

theorem ok_impl_LogTwoI_r : ∀ (fu : Nat) (a0 : I64) (hm : min (0 - a0.val).toNat 1 < fu), Fun Tryz.prog 348 [] #[vI a0] (vIv (F_impl_LogTwoI_r fu a0)) [] := by
  intro fu
  induction fu with
  | zero => intro a0 hm; exact absurd hm (Nat.not_lt_zero _)
  | succ fu ih =>
    intro a0 hm
    refine Fun.ofH 400 E_ok mixed Tryz.func348 (by kernel_rfl) (by kernel_rfl) ?_
    unfold F_impl_LogTwoI_r
    unfold F_impl_LogTwoI_b
    refine Run.q (e := vB) (gv := vIv) (ok_impl_within _ _ _) fun r1 hr1 => ?_
    refine Run.y (gv := vIv) (fun h2 => ?_) (fun h2 => ?_)
    · refine Run.q (e := vIv) (gv := vIv) (ok_impl_Whole) fun r3 hr3 => ?_
      exact Run.x 0
    · refine Run.y (gv := vIv) (fun h4 => ?_) (fun h4 => ?_)
      · refine Run.q (e := vIv) (gv := vIv) (ih (w64 (0 - a0.val)) (by rw [hr1] at h2; simp [F_impl_within, c64_val] at h2; simp only [w64_val, decide_eq_true_eq, decide_eq_false_iff_not] at *; omega)) fun r5 hr5 => ?_
        refine Run.q (e := vIv) (gv := vIv) (ok_impl_NegI _) fun r6 hr6 => ?_
        exact Run.x 0
      · refine Run.q (e := vT_I_B) (gv := vIv) (ok_impl_MulFloor _ _ _) fun r7 hr7 => ?_
        refine Run.q (e := vT_I_B) (gv := vIv) (ok_impl_MulFloor _ _ _) fun r8 hr8 => ?_
        exact Run.x 0
theorem ok_impl_LogTwoI (a0 : I64) : Fun Tryz.prog 348 [] #[vI a0] (vIv (F_impl_LogTwoI a0)) [] := ok_impl_LogTwoI_r 2 a0 (by omega)

theorem ok_impl_widened (a0 : Iv) (a1 : I64) : Fun Tryz.prog 350 [] #[vIv a0, vI a1] (vIv (F_impl_widened a0 a1)) [] := by
  refine Fun.ofH 400 E_ok mixed Tryz.func350 (by kernel_rfl) (by kernel_rfl) ?_
  unfold F_impl_widened
  refine Run.q (e := vB) (gv := vIv) (ok_impl_ValidInterval _) fun r1 _ => ?_
  refine Run.q (e := vIv) (gv := vIv) (ok_impl_bounded _ _ _) fun r2 _ => ?_
  exact Run.x 0

theorem ok_impl_LogAt (a0 : I64) : Fun Tryz.prog 313 [] #[vI a0] (vIv (F_impl_LogAt a0)) [] := by
  refine Fun.ofH 400 E_ok mixed Tryz.func313 (by kernel_rfl) (by kernel_rfl) ?_
  unfold F_impl_LogAt
  refine Run.q (e := vB) (gv := vIv) (ok_impl_ValidFix _) fun r1 hr1 => ?_
  refine Run.y (gv := vIv) (fun h2 => ?_) (fun h2 => ?_)
  · refine Run.z [true, true, true] ?_
    refine Run.q (e := vIv) (gv := vIv) (ok_impl_Whole) fun r3 hr3 => ?_
    exact Run.x 0
  · refine Run.z [false, false] ?_
    refine Run.y (gv := vIv) (fun h4 => ?_) (fun h4 => ?_)
    · refine Run.q (e := vIv) (gv := vIv) (ok_impl_Whole) fun r5 hr5 => ?_
      exact Run.x 0
    · refine Run.q (e := vI) (gv := vIv) (ok_impl_twosOf _ (by first | (have z := validfix_p hr1 h2; simp only [decide_eq_false_iff_not] at h4; omega) | (simp only [decide_eq_true_eq] at h8 ⊢; omega) | (have z := twosOf_b a0; rw [← hr6] at z; simp only [decide_eq_false_iff_not] at h8; simp only [w64_val, decide_eq_true_eq]; omega)) (by first | (have z := validfix_p hr1 h2; simp only [decide_eq_false_iff_not] at h4; omega) | (simp only [decide_eq_true_eq] at h8 ⊢; omega) | (have z := twosOf_b a0; rw [← hr6] at z; simp only [decide_eq_false_iff_not] at h8; simp only [w64_val, decide_eq_true_eq]; omega))) fun r6 hr6 => ?_
      refine Run.q (e := vIv) (gv := vIv) (ok_impl_at _) fun r7 hr7 => ?_
      refine Run.y (gv := vIv) (fun h8 => ?_) (fun h8 => ?_)
      · refine Run.k (c := (decide (0 ≤ r6.val))) (by kernel_rfl) (by first | (have z := validfix_p hr1 h2; simp only [decide_eq_false_iff_not] at h4; omega) | (simp only [decide_eq_true_eq] at h8 ⊢; omega) | (have z := twosOf_b a0; rw [← hr6] at z; simp only [decide_eq_false_iff_not] at h8; simp only [w64_val, decide_eq_true_eq]; omega)) ?_
        refine Run.k (c := (decide (0 ≤ r6.val))) (by kernel_rfl) (by first | (have z := validfix_p hr1 h2; simp only [decide_eq_false_iff_not] at h4; omega) | (simp only [decide_eq_true_eq] at h8 ⊢; omega) | (have z := twosOf_b a0; rw [← hr6] at z; simp only [decide_eq_false_iff_not] at h8; simp only [w64_val, decide_eq_true_eq]; omega)) ?_
        refine Run.q (e := vIv) (gv := vIv) (ok_impl_Integer _) fun r9 hr9 => ?_
        refine Run.q (e := vIv) (gv := vIv) (ok_impl_SubI _ _) fun r10 hr10 => ?_
        refine Run.q (e := vIv) (gv := vIv) (ok_impl_Integer _) fun r11 hr11 => ?_
        refine Run.q (e := vIv) (gv := vIv) (ok_impl_AddI _ _) fun r12 hr12 => ?_
        refine Run.q (e := vIv) (gv := vIv) (ok_impl_DivI _ _) fun r13 hr13 => ?_
        refine Run.q (e := vIv) (gv := vIv) (ok_impl_SqrI _) fun r14 hr14 => ?_
        refine Run.q (e := vIv) (gv := vIv) (ok_impl_Quotient _ _) fun r15 hr15 => ?_
        refine Run.u 400 E_ok mixed Tryz.func313 ?_
        refine Run.z [true] ?_
        refine Run.q (e := vIv) (gv := vIv) (ok_impl_Quotient _ _) fun r16 hr16 => ?_
        refine Run.q (e := vIv) (gv := vIv) (ok_impl_MulI _ _) fun r17 hr17 => ?_
        refine Run.q (e := vIv) (gv := vIv) (ok_impl_AddI _ _) fun r18 hr18 => ?_
        refine Run.u 400 E_ok mixed Tryz.func313 ?_
        refine Run.z [true] ?_
        refine Run.q (e := vIv) (gv := vIv) (ok_impl_Quotient _ _) fun r19 hr19 => ?_
        refine Run.q (e := vIv) (gv := vIv) (ok_impl_MulI _ _) fun r20 hr20 => ?_
        refine Run.q (e := vIv) (gv := vIv) (ok_impl_AddI _ _) fun r21 hr21 => ?_
        refine Run.u 400 E_ok mixed Tryz.func313 ?_
        refine Run.z [true] ?_
        refine Run.q (e := vIv) (gv := vIv) (ok_impl_Quotient _ _) fun r22 hr22 => ?_
        refine Run.q (e := vIv) (gv := vIv) (ok_impl_MulI _ _) fun r23 hr23 => ?_
        refine Run.q (e := vIv) (gv := vIv) (ok_impl_AddI _ _) fun r24 hr24 => ?_
        refine Run.u 400 E_ok mixed Tryz.func313 ?_
        refine Run.z [true] ?_
        refine Run.q (e := vIv) (gv := vIv) (ok_impl_Quotient _ _) fun r25 hr25 => ?_
        refine Run.q (e := vIv) (gv := vIv) (ok_impl_MulI _ _) fun r26 hr26 => ?_
        refine Run.q (e := vIv) (gv := vIv) (ok_impl_AddI _ _) fun r27 hr27 => ?_
        refine Run.u 400 E_ok mixed Tryz.func313 ?_
        refine Run.z [true] ?_
        refine Run.q (e := vIv) (gv := vIv) (ok_impl_Quotient _ _) fun r28 hr28 => ?_
        refine Run.q (e := vIv) (gv := vIv) (ok_impl_MulI _ _) fun r29 hr29 => ?_
        refine Run.q (e := vIv) (gv := vIv) (ok_impl_AddI _ _) fun r30 hr30 => ?_
        refine Run.u 400 E_ok mixed Tryz.func313 ?_
        refine Run.z [false] ?_
        refine Run.q (e := vIv) (gv := vIv) (ok_impl_LogTwoI _) fun r31 hr31 => ?_
        refine Run.q (e := vIv) (gv := vIv) (ok_impl_Integer _) fun r32 hr32 => ?_
        refine Run.q (e := vIv) (gv := vIv) (ok_impl_MulI _ _) fun r33 hr33 => ?_
        refine Run.q (e := vIv) (gv := vIv) (ok_impl_MulI _ _) fun r34 hr34 => ?_
        refine Run.q (e := vIv) (gv := vIv) (ok_impl_widened _ _) fun r35 hr35 => ?_
        refine Run.q (e := vIv) (gv := vIv) (ok_impl_AddI _ _) fun r36 hr36 => ?_
        exact Run.x 0
      · refine Run.k (c := (decide (0 ≤ (w64 (0 - r6.val)).val))) (by kernel_rfl) (by first | (have z := validfix_p hr1 h2; simp only [decide_eq_false_iff_not] at h4; omega) | (simp only [decide_eq_true_eq] at h8 ⊢; omega) | (have z := twosOf_b a0; rw [← hr6] at z; simp only [decide_eq_false_iff_not] at h8; simp only [w64_val, decide_eq_true_eq]; omega)) ?_
        refine Run.q (e := vIv) (gv := vIv) (ok_impl_at _) fun r37 hr37 => ?_
        refine Run.q (e := vIv) (gv := vIv) (ok_impl_Integer _) fun r38 hr38 => ?_
        refine Run.q (e := vIv) (gv := vIv) (ok_impl_SubI _ _) fun r39 hr39 => ?_
        refine Run.q (e := vIv) (gv := vIv) (ok_impl_Integer _) fun r40 hr40 => ?_
        refine Run.q (e := vIv) (gv := vIv) (ok_impl_AddI _ _) fun r41 hr41 => ?_
        refine Run.q (e := vIv) (gv := vIv) (ok_impl_DivI _ _) fun r42 hr42 => ?_
        refine Run.q (e := vIv) (gv := vIv) (ok_impl_SqrI _) fun r43 hr43 => ?_
        refine Run.q (e := vIv) (gv := vIv) (ok_impl_Quotient _ _) fun r44 hr44 => ?_
        refine Run.u 400 E_ok mixed Tryz.func313 ?_
        refine Run.z [true] ?_
        refine Run.q (e := vIv) (gv := vIv) (ok_impl_Quotient _ _) fun r45 hr45 => ?_
        refine Run.q (e := vIv) (gv := vIv) (ok_impl_MulI _ _) fun r46 hr46 => ?_
        refine Run.q (e := vIv) (gv := vIv) (ok_impl_AddI _ _) fun r47 hr47 => ?_
        refine Run.u 400 E_ok mixed Tryz.func313 ?_
        refine Run.z [true] ?_
        refine Run.q (e := vIv) (gv := vIv) (ok_impl_Quotient _ _) fun r48 hr48 => ?_
        refine Run.q (e := vIv) (gv := vIv) (ok_impl_MulI _ _) fun r49 hr49 => ?_
        refine Run.q (e := vIv) (gv := vIv) (ok_impl_AddI _ _) fun r50 hr50 => ?_
        refine Run.u 400 E_ok mixed Tryz.func313 ?_
        refine Run.z [true] ?_
        refine Run.q (e := vIv) (gv := vIv) (ok_impl_Quotient _ _) fun r51 hr51 => ?_
        refine Run.q (e := vIv) (gv := vIv) (ok_impl_MulI _ _) fun r52 hr52 => ?_
        refine Run.q (e := vIv) (gv := vIv) (ok_impl_AddI _ _) fun r53 hr53 => ?_
        refine Run.u 400 E_ok mixed Tryz.func313 ?_
        refine Run.z [true] ?_
        refine Run.q (e := vIv) (gv := vIv) (ok_impl_Quotient _ _) fun r54 hr54 => ?_
        refine Run.q (e := vIv) (gv := vIv) (ok_impl_MulI _ _) fun r55 hr55 => ?_
        refine Run.q (e := vIv) (gv := vIv) (ok_impl_AddI _ _) fun r56 hr56 => ?_
        refine Run.u 400 E_ok mixed Tryz.func313 ?_
        refine Run.z [true] ?_
        refine Run.q (e := vIv) (gv := vIv) (ok_impl_Quotient _ _) fun r57 hr57 => ?_
        refine Run.q (e := vIv) (gv := vIv) (ok_impl_MulI _ _) fun r58 hr58 => ?_
        refine Run.q (e := vIv) (gv := vIv) (ok_impl_AddI _ _) fun r59 hr59 => ?_
        refine Run.u 400 E_ok mixed Tryz.func313 ?_
        refine Run.z [false] ?_
        refine Run.q (e := vIv) (gv := vIv) (ok_impl_LogTwoI _) fun r60 hr60 => ?_
        refine Run.q (e := vIv) (gv := vIv) (ok_impl_Integer _) fun r61 hr61 => ?_
        refine Run.q (e := vIv) (gv := vIv) (ok_impl_MulI _ _) fun r62 hr62 => ?_
        refine Run.q (e := vIv) (gv := vIv) (ok_impl_MulI _ _) fun r63 hr63 => ?_
        refine Run.q (e := vIv) (gv := vIv) (ok_impl_widened _ _) fun r64 hr64 => ?_
        refine Run.q (e := vIv) (gv := vIv) (ok_impl_AddI _ _) fun r65 hr65 => ?_
        exact Run.x 0

theorem ok_impl_monotonic__impl_LogAt (a0 : Iv) : Fun Tryz.prog 250 [] #[vIv a0, .func (.func 313) #[] #[]] (vIv (F_impl_monotonic__impl_LogAt a0)) [] := by
  refine Fun.ofH 400 E_ok mixed Tryz.func250 (by kernel_rfl) (by kernel_rfl) ?_
  unfold F_impl_monotonic__impl_LogAt
  refine Run.q (e := vB) (gv := vIv) (ok_impl_IsWhole _) fun r1 _ => ?_
  refine Run.y (gv := vIv) (fun _ => ?_) (fun _ => ?_)
  · refine Run.q (e := vIv) (gv := vIv) (ok_impl_Whole) fun r2 _ => ?_
    exact Run.x 0
  · refine Run.q (e := vIv) (gv := vIv) (ok_impl_LogAt _) fun r3 _ => ?_
    refine Run.q (e := vIv) (gv := vIv) (ok_impl_LogAt _) fun r4 _ => ?_
    refine Run.q (e := vB) (gv := vIv) (ok_impl_areBounded _ _) fun r5 _ => ?_
    refine Run.y (gv := vIv) (fun _ => ?_) (fun _ => ?_)
    · refine Run.q (e := vIv) (gv := vIv) (ok_impl_Whole) fun r6 _ => ?_
      exact Run.x 0
    · refine Run.q (e := vIv) (gv := vIv) (ok_impl_bounded _ _ _) fun r7 _ => ?_
      exact Run.x 0

theorem ok_impl_LogI (a0 : Iv) : Fun Tryz.prog 227 [] #[vIv a0] (vIv (F_impl_LogI a0)) [] := by
  refine Fun.ofH 400 E_ok mixed Tryz.func227 (by kernel_rfl) (by kernel_rfl) ?_
  unfold F_impl_LogI
  refine Run.q (e := vIv) (gv := vIv) (ok_impl_monotonic__impl_LogAt _) fun r1 _ => ?_
  exact Run.x 0

theorem ok_impl_HalfI (a0 : Iv) : Fun Tryz.prog 168 [] #[vIv a0] (vIv (F_impl_HalfI a0)) [] := by
  refine Fun.ofH 400 E_ok mixed Tryz.func168 (by kernel_rfl) (by kernel_rfl) ?_
  unfold F_impl_HalfI
  refine Run.q (e := vB) (gv := vIv) (ok_impl_IsWhole _) fun r1 _ => ?_
  refine Run.y (gv := vIv) (fun _ => ?_) (fun _ => ?_)
  · refine Run.q (e := vIv) (gv := vIv) (ok_impl_Whole) fun r2 _ => ?_
    exact Run.x 0
  · refine Run.z [true, true] ?_
    exact Run.x 0

theorem ok_impl_AtanhI_1 (a0 : I64) : Fun Tryz.prog 252 [] #[vI a0] (vIv (F_impl_AtanhI_1 a0)) [] := by
  refine Fun.ofH 400 E_ok mixed Tryz.func252 (by kernel_rfl) (by kernel_rfl) ?_
  unfold F_impl_AtanhI_1
  refine Run.y (gv := vIv) (fun _ => ?_) (fun _ => ?_)
  · refine Run.q (e := vIv) (gv := vIv) (ok_impl_Whole) fun r1 _ => ?_
    exact Run.x 0
  · refine Run.q (e := vIv) (gv := vIv) (ok_impl_at _) fun r2 _ => ?_
    refine Run.q (e := vIv) (gv := vIv) (ok_impl_at _) fun r3 _ => ?_
    refine Run.q (e := vIv) (gv := vIv) (ok_impl_DivI _ _) fun r4 _ => ?_
    refine Run.q (e := vIv) (gv := vIv) (ok_impl_LogI _) fun r5 _ => ?_
    refine Run.q (e := vIv) (gv := vIv) (ok_impl_HalfI _) fun r6 _ => ?_
    exact Run.x 0

theorem ok_impl_odd_1__p_impl_AtanhI_1 (a0 : I64) : Fun Tryz.prog 328 [(#[.func (.func 252) #[] #[]], 78)] #[vI a0, .pointer (some ⟨0, 0, none⟩)] (vIv (F_impl_odd_1__p_impl_AtanhI_1 a0)) [(#[.func (.func 252) #[] #[]], 78)] := by
  refine Fun.ofH 400 E_ok mixed Tryz.func328 (by kernel_rfl) (by kernel_rfl) ?_
  unfold F_impl_odd_1__p_impl_AtanhI_1
  refine Run.y (gv := vIv) (fun _ => ?_) (fun _ => ?_)
  · refine Run.q (e := vIv) (gv := vIv) (ok_impl_AtanhI_1 _) fun r1 _ => ?_
    refine Run.q (e := vIv) (gv := vIv) (ok_impl_NegI _) fun r2 _ => ?_
    exact Run.x 1
  · refine Run.q (e := vIv) (gv := vIv) (ok_impl_AtanhI_1 _) fun r3 _ => ?_
    exact Run.x 1

theorem ok_impl_monotonic__impl_odd_1_p_impl_AtanhI_1 (a0 : Iv) : Fun Tryz.prog 250 [(#[.func (.func 252) #[] #[]], 78)] #[vIv a0, .func (.func 328) #[] #[.pointer (some ⟨0, 0, none⟩)]] (vIv (F_impl_monotonic__impl_odd_1_p_impl_AtanhI_1 a0)) [(#[.func (.func 252) #[] #[]], 78)] := by
  refine Fun.ofH 400 E_ok mixed Tryz.func250 (by kernel_rfl) (by kernel_rfl) ?_
  unfold F_impl_monotonic__impl_odd_1_p_impl_AtanhI_1
  refine Run.q (e := vB) (gv := vIv) (ok_impl_IsWhole _) fun r1 _ => ?_
  refine Run.y (gv := vIv) (fun _ => ?_) (fun _ => ?_)
  · refine Run.q (e := vIv) (gv := vIv) (ok_impl_Whole) fun r2 _ => ?_
    exact Run.x 1
  · refine Run.w (e := vIv) (gv := vIv) [0] (ok_impl_odd_1__p_impl_AtanhI_1 _) fun r3 _ => ?_
    refine Run.w (e := vIv) (gv := vIv) [0] (ok_impl_odd_1__p_impl_AtanhI_1 _) fun r4 _ => ?_
    refine Run.q (e := vB) (gv := vIv) (ok_impl_areBounded _ _) fun r5 _ => ?_
    refine Run.y (gv := vIv) (fun _ => ?_) (fun _ => ?_)
    · refine Run.q (e := vIv) (gv := vIv) (ok_impl_Whole) fun r6 _ => ?_
      exact Run.x 1
    · refine Run.q (e := vIv) (gv := vIv) (ok_impl_bounded _ _ _) fun r7 _ => ?_
      exact Run.x 1

theorem ok_impl_AtanhI (a0 : Iv) : Fun Tryz.prog 127 [] #[vIv a0] (vIv (F_impl_AtanhI a0)) [] := by
  refine Fun.ofH 400 E_ok mixed Tryz.func127 (by kernel_rfl) (by kernel_rfl) ?_
  unfold F_impl_AtanhI
  refine Run.o (by kernel_rfl) ?_ ?_
  · refine Run.m (by kernel_rfl) (by kernel_rfl) (ok_impl_odd 252) (by kernel_rfl) (by kernel_rfl) (by kernel_rfl) ?_
    refine Run.w (e := vIv) (gv := vIv) [2] (ok_impl_monotonic__impl_odd_1_p_impl_AtanhI_1 _) fun r1 hr1 => ?_
    exact Run.x 0
  · refine Run.m (by kernel_rfl) (by kernel_rfl) (ok_impl_odd 252) (by kernel_rfl) (by kernel_rfl) (by kernel_rfl) ?_
    refine Run.w (e := vIv) (gv := vIv) [2] (ok_impl_monotonic__impl_odd_1_p_impl_AtanhI_1 _) fun r2 hr2 => ?_
    exact Run.x 0

theorem ok_impl_isOpen (a0 : I64) : Fun Tryz.prog 307 [] #[vI a0] (vB (F_impl_isOpen a0)) [] := by
  refine Fun.ofH 400 E_ok mixed Tryz.func307 (by kernel_rfl) (by kernel_rfl) ?_
  unfold F_impl_isOpen
  refine Run.y (gv := vB) (fun _ => ?_) (fun _ => ?_)
  · refine Run.z [true, true] ?_
    exact Run.x 0
  · refine Run.z [false, false] ?_
    exact Run.x 0

theorem ok_impl_halfCircle : Fun Tryz.prog 310 [] #[] (vIv (F_impl_halfCircle)) [] := by
  refine Fun.ofH 400 E_ok mixed Tryz.func310 (by kernel_rfl) (by kernel_rfl) ?_
  unfold F_impl_halfCircle
  refine Run.q (e := vIv) (gv := vIv) (ok_impl_TurnI _) fun r1 _ => ?_
  refine Run.q (e := vIv) (gv := vIv) (ok_impl_TurnI _) fun r2 _ => ?_
  exact Run.x 0

theorem ok_impl_WideSqrt_L0 : ∀ (fu : Nat) (a0 : Wd) (x_root : U64) (x_i : I64) (q0 : x_i.val ≤ 63) (hm : (x_i.val + 1).toNat < fu) (t : Array Value) (ht : maskA t [0, 6, 7, 8, 9, 10, 11, 12, 13, 14, 15, 16, 17, 18, 19, 20, 21, 22, 23, 24, 25, 26, 27, 28, 29, 30, 31, 32, 33, 34, 35, 36, 37, 38, 39, 40, 41, 42, 43, 44, 45] = #[undef, .pointer (some ⟨0, 0, none⟩), .int .u64 0, .bool false, .int .u64 x_root.val, .int .i64 x_i.val, undef, undef, undef, undef, undef, undef, undef, undef, undef, undef, undef, undef, undef, undef, undef, undef, undef, undef, undef, undef, undef, undef, undef, undef, undef, undef, undef, undef, undef, undef, undef, undef, undef, undef, undef, undef, undef, undef, undef, undef]), Cfg Tryz.prog 362 (loopAt Tryz.f362 0) t [(#[.int .i64 a0.hi.val, .int .u64 a0.lo.val], 164)] (RvH [] (vT_U_B (F_impl_WideSqrt_L0 fu a0 x_root x_i))) := by
  intro fu
  induction fu with
  | zero => intro a0 x_root x_i q0 hm; exact absurd hm (Nat.not_lt_zero _)
  | succ fu ih =>
    intro a0 x_root x_i q0 hm t ht
    refine Cfg.round E_ok mixed Tryz.func362 ht fun g => ?_
    unfold F_impl_WideSqrt_L0
    refine Run.y (gv := vT_U_B) (fun h2 => ?_) (fun h2 => ?_)
    · refine Run.k (c := (decide (0 ≤ x_i.val))) (by kernel_rfl) (by simp only [w64_val, wu64_val, c64_val, cu64_val, decide_eq_true_eq] at *; omega) ?_
      refine Run.q (e := vT_U_U) (gv := vT_U_B) (ok_bits_Mul64 _ _) fun r3 hr3 => ?_
      refine Run.y (gv := vT_U_B) (fun h4 => ?_) (fun h4 => ?_)
      · refine Run.z [true, true, true, true, true, true, true, true] ?_
        exact Run.l (by kernel_rfl) (by kernel_rfl) (by kernel_rfl) (by kernel_rfl) (ih a0 (ior .u64 x_root.val (ishl .u64 1 x_i.val).val) (w64 (x_i.val - 1)) (by have q1 := x_i.lo; simp only [w64_val, wu64_val, c64_val, cu64_val, decide_eq_true_eq] at *; omega) (by have q1 := x_i.lo; simp only [w64_val, wu64_val, c64_val, cu64_val, decide_eq_true_eq] at *; omega))
      · refine Run.z [false, false, false, false, false] ?_
        refine Run.y (gv := vT_U_B) (fun h5 => ?_) (fun h5 => ?_)
        · refine Run.z [true, true, true, false, true, false] ?_
          refine Run.y (gv := vT_U_B) (fun h6 => ?_) (fun h6 => ?_)
          · exact Run.l (by kernel_rfl) (by kernel_rfl) (by kernel_rfl) (by kernel_rfl) (ih a0 (ior .u64 x_root.val (ishl .u64 1 x_i.val).val) (w64 (x_i.val - 1)) (by have q1 := x_i.lo; simp only [w64_val, wu64_val, c64_val, cu64_val, decide_eq_true_eq] at *; omega) (by have q1 := x_i.lo; simp only [w64_val, wu64_val, c64_val, cu64_val, decide_eq_true_eq] at *; omega))
          · exact Run.l (by kernel_rfl) (by kernel_rfl) (by kernel_rfl) (by kernel_rfl) (ih a0 x_root (w64 (x_i.val - 1)) (by have q1 := x_i.lo; simp only [w64_val, wu64_val, c64_val, cu64_val, decide_eq_true_eq] at *; omega) (by have q1 := x_i.lo; simp only [w64_val, wu64_val, c64_val, cu64_val, decide_eq_true_eq] at *; omega))
        · refine Run.z [false, false, false, false, false, false, false] ?_
          exact Run.l (by kernel_rfl) (by kernel_rfl) (by kernel_rfl) (by kernel_rfl) (ih a0 x_root (w64 (x_i.val - 1)) (by have q1 := x_i.lo; simp only [w64_val, wu64_val, c64_val, cu64_val, decide_eq_true_eq] at *; omega) (by have q1 := x_i.lo; simp only [w64_val, wu64_val, c64_val, cu64_val, decide_eq_true_eq] at *; omega))
    · exact Run.x 0

theorem ok_impl_WideSqrt (a0 : Wd) : Fun Tryz.prog 362 [] #[vWd a0] (vT_U_B (F_impl_WideSqrt a0)) [] := by
  refine Fun.ofH 400 E_ok mixed Tryz.func362 (by kernel_rfl) (by kernel_rfl) ?_
  unfold F_impl_WideSqrt
  refine Run.y (gv := vT_U_B) (fun h1 => ?_) (fun h1 => ?_)
  · exact Run.x 0
  · exact Run.l (by kernel_rfl) (by kernel_rfl) (by kernel_rfl) (by kernel_rfl) (ok_impl_WideSqrt_L0 65 a0 (cu64 0) (c64 63) (by decide) (by decide))

theorem ok_impl_SqrtFloor (a0 : I64) (a1 : I64) : Fun Tryz.prog 305 [] #[vI a0, vI a1] (vT_I_B (F_impl_SqrtFloor a0 a1)) [] := by
  refine Fun.ofH 400 E_ok mixed Tryz.func305 (by kernel_rfl) (by kernel_rfl) ?_
  unfold F_impl_SqrtFloor
  refine Run.y (gv := vT_I_B) (fun _ => ?_) (fun _ => ?_)
  · refine Run.z [true, true, true] ?_
    exact Run.x 0
  · refine Run.z [false, false] ?_
    refine Run.y (gv := vT_I_B) (fun _ => ?_) (fun _ => ?_)
    · exact Run.x 0
    · refine Run.q (e := vWd) (gv := vT_I_B) (ok_impl_WideMul _ _) fun r1 _ => ?_
      refine Run.q (e := vT_U_B) (gv := vT_I_B) (ok_impl_WideSqrt _) fun r2 _ => ?_
      exact Run.x 0

theorem ok_impl_SqrtDown (a0 : I64) : Fun Tryz.prog 216 [] #[vI a0] (vT_I_B (F_impl_SqrtDown a0)) [] := by
  refine Fun.ofH 400 E_ok mixed Tryz.func216 (by kernel_rfl) (by kernel_rfl) ?_
  unfold F_impl_SqrtDown
  refine Run.q (e := vB) (gv := vT_I_B) (ok_impl_ValidFix _) fun r1 _ => ?_
  refine Run.y (gv := vT_I_B) (fun _ => ?_) (fun _ => ?_)
  · exact Run.x 0
  · refine Run.q (e := vT_I_B) (gv := vT_I_B) (ok_impl_SqrtFloor _ _) fun r2 _ => ?_
    refine Run.q (e := vT_I_B) (gv := vT_I_B) (ok_impl_fixed _ _) fun r3 _ => ?_
    exact Run.x 0

theorem ok_impl_SqrtUp (a0 : I64) : Fun Tryz.prog 217 [] #[vI a0] (vT_I_B (F_impl_SqrtUp a0)) [] := by
  refine Fun.ofH 400 E_ok mixed Tryz.func217 (by kernel_rfl) (by kernel_rfl) ?_
  unfold F_impl_SqrtUp
  refine Run.q (e := vT_I_B) (gv := vT_I_B) (ok_impl_SqrtDown _) fun r1 _ => ?_
  refine Run.y (gv := vT_I_B) (fun _ => ?_) (fun _ => ?_)
  · refine Run.z [true, true] ?_
    refine Run.q (e := vWd) (gv := vT_I_B) (ok_impl_WideMul _ _) fun r2 _ => ?_
    refine Run.z [true, true] ?_
    refine Run.q (e := vWd) (gv := vT_I_B) (ok_impl_WideMul _ _) fun r3 _ => ?_
    refine Run.z [true, true] ?_
    refine Run.y (gv := vT_I_B) (fun _ => ?_) (fun _ => ?_)
    · refine Run.q (e := vT_I_B) (gv := vT_I_B) (ok_impl_fixed _ _) fun r4 _ => ?_
      exact Run.x 0
    · refine Run.q (e := vT_I_B) (gv := vT_I_B) (ok_impl_fixed _ _) fun r5 _ => ?_
      exact Run.x 0
  · refine Run.z [false, false, false, false, false, false, false] ?_
    refine Run.q (e := vT_I_B) (gv := vT_I_B) (ok_impl_fixed _ _) fun r6 _ => ?_
    exact Run.x 0

theorem ok_impl_SqrtI (a0 : Iv) : Fun Tryz.prog 102 [] #[vIv a0] (vIv (F_impl_SqrtI a0)) [] := by
  refine Fun.ofH 400 E_ok mixed Tryz.func102 (by kernel_rfl) (by kernel_rfl) ?_
  unfold F_impl_SqrtI
  refine Run.q (e := vB) (gv := vIv) (ok_impl_IsWhole _) fun r1 _ => ?_
  refine Run.y (gv := vIv) (fun _ => ?_) (fun _ => ?_)
  · refine Run.z [true, true, true, true] ?_
    refine Run.q (e := vIv) (gv := vIv) (ok_impl_Whole) fun r2 _ => ?_
    exact Run.x 0
  · refine Run.z [false, false, false] ?_
    refine Run.y (gv := vIv) (fun _ => ?_) (fun _ => ?_)
    · refine Run.q (e := vIv) (gv := vIv) (ok_impl_Whole) fun r3 _ => ?_
      exact Run.x 0
    · refine Run.q (e := vT_I_B) (gv := vIv) (ok_impl_SqrtDown _) fun r4 _ => ?_
      refine Run.q (e := vT_I_B) (gv := vIv) (ok_impl_SqrtUp _) fun r5 _ => ?_
      refine Run.y (gv := vIv) (fun _ => ?_) (fun _ => ?_)
      · refine Run.z [true] ?_
        refine Run.q (e := vIv) (gv := vIv) (ok_impl_bounded _ _ _) fun r6 _ => ?_
        exact Run.x 0
      · refine Run.z [false] ?_
        refine Run.q (e := vIv) (gv := vIv) (ok_impl_bounded _ _ _) fun r7 _ => ?_
        exact Run.x 0

theorem ok_impl_halved (a0 : Iv) : Fun Tryz.prog 391 [] #[vIv a0] (vIv (F_impl_halved a0)) [] := by
  refine Fun.ofH 400 E_ok mixed Tryz.func391 (by kernel_rfl) (by kernel_rfl) ?_
  unfold F_impl_halved
  refine Run.q (e := vIv) (gv := vIv) (ok_impl_Integer _) fun r1 _ => ?_
  refine Run.q (e := vIv) (gv := vIv) (ok_impl_Integer _) fun r2 _ => ?_
  refine Run.q (e := vIv) (gv := vIv) (ok_impl_SqrI _) fun r3 _ => ?_
  refine Run.q (e := vIv) (gv := vIv) (ok_impl_AddI _ _) fun r4 _ => ?_
  refine Run.q (e := vIv) (gv := vIv) (ok_impl_SqrtI _) fun r5 _ => ?_
  refine Run.q (e := vIv) (gv := vIv) (ok_impl_AddI _ _) fun r6 _ => ?_
  refine Run.q (e := vIv) (gv := vIv) (ok_impl_DivI _ _) fun r7 _ => ?_
  exact Run.x 0

theorem ok_impl_ArcSeries (a0 : Iv) : Fun Tryz.prog 390 [] #[vIv a0] (vIv (F_impl_ArcSeries a0)) [] := by
  refine Fun.ofH 400 E_ok mixed Tryz.func390 (by kernel_rfl) (by kernel_rfl) ?_
  unfold F_impl_ArcSeries
  refine Run.q (e := vB) (gv := vIv) (ok_impl_InsideI _ _) fun r1 _ => ?_
  refine Run.y (gv := vIv) (fun _ => ?_) (fun _ => ?_)
  · refine Run.q (e := vIv) (gv := vIv) (ok_impl_Whole) fun r2 _ => ?_
    exact Run.x 0
  · refine Run.q (e := vIv) (gv := vIv) (ok_impl_SqrI _) fun r3 _ => ?_
    refine Run.q (e := vIv) (gv := vIv) (ok_impl_Quotient _ _) fun r4 _ => ?_
    refine Run.u 400 E_ok mixed Tryz.func390 ?_
    refine Run.z [true] ?_
    refine Run.q (e := vIv) (gv := vIv) (ok_impl_Quotient _ _) fun r5 _ => ?_
    refine Run.q (e := vIv) (gv := vIv) (ok_impl_MulI _ _) fun r6 _ => ?_
    refine Run.q (e := vIv) (gv := vIv) (ok_impl_SubI _ _) fun r7 _ => ?_
    refine Run.u 400 E_ok mixed Tryz.func390 ?_
    refine Run.z [true] ?_
    refine Run.q (e := vIv) (gv := vIv) (ok_impl_Quotient _ _) fun r8 _ => ?_
    refine Run.q (e := vIv) (gv := vIv) (ok_impl_MulI _ _) fun r9 _ => ?_
    refine Run.q (e := vIv) (gv := vIv) (ok_impl_SubI _ _) fun r10 _ => ?_
    refine Run.u 400 E_ok mixed Tryz.func390 ?_
    refine Run.z [true] ?_
    refine Run.q (e := vIv) (gv := vIv) (ok_impl_Quotient _ _) fun r11 _ => ?_
    refine Run.q (e := vIv) (gv := vIv) (ok_impl_MulI _ _) fun r12 _ => ?_
    refine Run.q (e := vIv) (gv := vIv) (ok_impl_SubI _ _) fun r13 _ => ?_
    refine Run.u 400 E_ok mixed Tryz.func390 ?_
    refine Run.z [true] ?_
    refine Run.q (e := vIv) (gv := vIv) (ok_impl_Quotient _ _) fun r14 _ => ?_
    refine Run.q (e := vIv) (gv := vIv) (ok_impl_MulI _ _) fun r15 _ => ?_
    refine Run.q (e := vIv) (gv := vIv) (ok_impl_SubI _ _) fun r16 _ => ?_
    refine Run.u 400 E_ok mixed Tryz.func390 ?_
    refine Run.z [true] ?_
    refine Run.q (e := vIv) (gv := vIv) (ok_impl_Quotient _ _) fun r17 _ => ?_
    refine Run.q (e := vIv) (gv := vIv) (ok_impl_MulI _ _) fun r18 _ => ?_
    refine Run.q (e := vIv) (gv := vIv) (ok_impl_SubI _ _) fun r19 _ => ?_
    refine Run.u 400 E_ok mixed Tryz.func390 ?_
    refine Run.z [true] ?_
    refine Run.q (e := vIv) (gv := vIv) (ok_impl_Quotient _ _) fun r20 _ => ?_
    refine Run.q (e := vIv) (gv := vIv) (ok_impl_MulI _ _) fun r21 _ => ?_
    refine Run.q (e := vIv) (gv := vIv) (ok_impl_SubI _ _) fun r22 _ => ?_
    refine Run.u 400 E_ok mixed Tryz.func390 ?_
    refine Run.z [true] ?_
    refine Run.q (e := vIv) (gv := vIv) (ok_impl_Quotient _ _) fun r23 _ => ?_
    refine Run.q (e := vIv) (gv := vIv) (ok_impl_MulI _ _) fun r24 _ => ?_
    refine Run.q (e := vIv) (gv := vIv) (ok_impl_SubI _ _) fun r25 _ => ?_
    refine Run.u 400 E_ok mixed Tryz.func390 ?_
    refine Run.z [true] ?_
    refine Run.q (e := vIv) (gv := vIv) (ok_impl_Quotient _ _) fun r26 _ => ?_
    refine Run.q (e := vIv) (gv := vIv) (ok_impl_MulI _ _) fun r27 _ => ?_
    refine Run.q (e := vIv) (gv := vIv) (ok_impl_SubI _ _) fun r28 _ => ?_
    refine Run.u 400 E_ok mixed Tryz.func390 ?_
    refine Run.z [true] ?_
    refine Run.q (e := vIv) (gv := vIv) (ok_impl_Quotient _ _) fun r29 _ => ?_
    refine Run.q (e := vIv) (gv := vIv) (ok_impl_MulI _ _) fun r30 _ => ?_
    refine Run.q (e := vIv) (gv := vIv) (ok_impl_SubI _ _) fun r31 _ => ?_
    refine Run.u 400 E_ok mixed Tryz.func390 ?_
    refine Run.z [true] ?_
    refine Run.q (e := vIv) (gv := vIv) (ok_impl_Quotient _ _) fun r32 _ => ?_
    refine Run.q (e := vIv) (gv := vIv) (ok_impl_MulI _ _) fun r33 _ => ?_
    refine Run.q (e := vIv) (gv := vIv) (ok_impl_SubI _ _) fun r34 _ => ?_
    refine Run.u 400 E_ok mixed Tryz.func390 ?_
    refine Run.z [false] ?_
    refine Run.q (e := vIv) (gv := vIv) (ok_impl_MulI _ _) fun r35 _ => ?_
    refine Run.q (e := vIv) (gv := vIv) (ok_impl_tiny) fun r36 _ => ?_
    refine Run.q (e := vIv) (gv := vIv) (ok_impl_AddI _ _) fun r37 _ => ?_
    exact Run.x 0

theorem ok_impl_DoubleI (a0 : Iv) : Fun Tryz.prog 369 [] #[vIv a0] (vIv (F_impl_DoubleI a0)) [] := by
  refine Fun.ofH 400 E_ok mixed Tryz.func369 (by kernel_rfl) (by kernel_rfl) ?_
  unfold F_impl_DoubleI
  refine Run.q (e := vIv) (gv := vIv) (ok_impl_AddI _ _) fun r1 _ => ?_
  exact Run.x 0

theorem ok_impl_fourfold (a0 : Iv) : Fun Tryz.prog 371 [] #[vIv a0] (vIv (F_impl_fourfold a0)) [] := by
  refine Fun.ofH 400 E_ok mixed Tryz.func371 (by kernel_rfl) (by kernel_rfl) ?_
  unfold F_impl_fourfold
  refine Run.q (e := vIv) (gv := vIv) (ok_impl_halved _) fun r1 _ => ?_
  refine Run.q (e := vIv) (gv := vIv) (ok_impl_halved _) fun r2 _ => ?_
  refine Run.q (e := vIv) (gv := vIv) (ok_impl_ArcSeries _) fun r3 _ => ?_
  refine Run.q (e := vIv) (gv := vIv) (ok_impl_DoubleI _) fun r4 _ => ?_
  refine Run.q (e := vIv) (gv := vIv) (ok_impl_DoubleI _) fun r5 _ => ?_
  exact Run.x 0

theorem ok_impl_AtanAt_r : ∀ (fu : Nat) (a0 : I64) (hm : min (0 - a0.val).toNat 1 < fu), Fun Tryz.prog 311 [] #[vI a0] (vIv (F_impl_AtanAt_r fu a0)) [] := by
  intro fu
  induction fu with
  | zero => intro a0 hm; exact absurd hm (Nat.not_lt_zero _)
  | succ fu ih =>
    intro a0 hm
    refine Fun.ofH 400 E_ok mixed Tryz.func311 (by kernel_rfl) (by kernel_rfl) ?_
    unfold F_impl_AtanAt_r
    unfold F_impl_AtanAt_b
    refine Run.q (e := vB) (gv := vIv) (ok_impl_isOpen _) fun r1 hr1 => ?_
    refine Run.y (gv := vIv) (fun h2 => ?_) (fun h2 => ?_)
    · refine Run.q (e := vIv) (gv := vIv) (ok_impl_halfCircle) fun r3 hr3 => ?_
      exact Run.x 0
    · refine Run.y (gv := vIv) (fun h4 => ?_) (fun h4 => ?_)
      · refine Run.q (e := vIv) (gv := vIv) (ih (w64 (0 - a0.val)) (by rw [hr1] at h2; simp [F_impl_isOpen, c64_val] at h2; simp only [w64_val, decide_eq_true_eq, decide_eq_false_iff_not] at *; omega)) fun r5 hr5 => ?_
        refine Run.q (e := vIv) (gv := vIv) (ok_impl_NegI _) fun r6 hr6 => ?_
        exact Run.x 0
      · refine Run.y (gv := vIv) (fun h7 => ?_) (fun h7 => ?_)
        · refine Run.q (e := vIv) (gv := vIv) (ok_impl_TurnI _) fun r8 hr8 => ?_
          refine Run.q (e := vIv) (gv := vIv) (ok_impl_Integer _) fun r9 hr9 => ?_
          refine Run.q (e := vIv) (gv := vIv) (ok_impl_at _) fun r10 hr10 => ?_
          refine Run.q (e := vIv) (gv := vIv) (ok_impl_DivI _ _) fun r11 hr11 => ?_
          refine Run.q (e := vIv) (gv := vIv) (ok_impl_fourfold _) fun r12 hr12 => ?_
          refine Run.q (e := vIv) (gv := vIv) (ok_impl_SubI _ _) fun r13 hr13 => ?_
          exact Run.x 0
        · refine Run.q (e := vIv) (gv := vIv) (ok_impl_at _) fun r14 hr14 => ?_
          refine Run.q (e := vIv) (gv := vIv) (ok_impl_fourfold _) fun r15 hr15 => ?_
          exact Run.x 0
theorem ok_impl_AtanAt (a0 : I64) : Fun Tryz.prog 311 [] #[vI a0] (vIv (F_impl_AtanAt a0)) [] := ok_impl_AtanAt_r 2 a0 (by omega)

theorem ok_impl_AtanI (a0 : Iv) : Fun Tryz.prog 225 [] #[vIv a0] (vIv (F_impl_AtanI a0)) [] := by
  refine Fun.ofH 400 E_ok mixed Tryz.func225 (by kernel_rfl) (by kernel_rfl) ?_
  unfold F_impl_AtanI
  refine Run.q (e := vB) (gv := vIv) (ok_impl_IsWhole _) fun r1 _ => ?_
  refine Run.y (gv := vIv) (fun _ => ?_) (fun _ => ?_)
  · refine Run.q (e := vIv) (gv := vIv) (ok_impl_halfCircle) fun r2 _ => ?_
    exact Run.x 0
  · refine Run.q (e := vIv) (gv := vIv) (ok_impl_AtanAt _) fun r3 _ => ?_
    refine Run.q (e := vIv) (gv := vIv) (ok_impl_AtanAt _) fun r4 _ => ?_
    refine Run.q (e := vIv) (gv := vIv) (ok_impl_HullI _ _) fun r5 _ => ?_
    exact Run.x 0

theorem ok_impl_DirectionAt (a0 : I64) (a1 : I64) : Fun Tryz.prog 221 [] #[vI a0, vI a1] (vIv (F_impl_DirectionAt a0 a1)) [] := by
  refine Fun.ofH 400 E_ok mixed Tryz.func221 (by kernel_rfl) (by kernel_rfl) ?_
  unfold F_impl_DirectionAt
  refine Run.q (e := vB) (gv := vIv) (ok_impl_isOpen _) fun r1 _ => ?_
  refine Run.y (gv := vIv) (fun _ => ?_) (fun _ => ?_)
  · refine Run.z [true, true, true, true, true, true, true, true, true] ?_
    refine Run.q (e := vIv) (gv := vIv) (ok_impl_Whole) fun r2 _ => ?_
    exact Run.x 0
  · refine Run.z [false] ?_
    refine Run.q (e := vB) (gv := vIv) (ok_impl_isOpen _) fun r3 _ => ?_
    refine Run.z [false, false] ?_
    refine Run.y (gv := vIv) (fun _ => ?_) (fun _ => ?_)
    · refine Run.z [true, true, true, true, true] ?_
      refine Run.q (e := vIv) (gv := vIv) (ok_impl_Whole) fun r4 _ => ?_
      exact Run.x 0
    · refine Run.z [false, false] ?_
      refine Run.y (gv := vIv) (fun _ => ?_) (fun _ => ?_)
      · refine Run.z [true, false, true, false] ?_
        refine Run.y (gv := vIv) (fun _ => ?_) (fun _ => ?_)
        · refine Run.q (e := vIv) (gv := vIv) (ok_impl_Whole) fun r5 _ => ?_
          exact Run.x 0
        · refine Run.q (e := vI) (gv := vIv) (ok_impl_abs _) fun r6 _ => ?_
          refine Run.q (e := vI) (gv := vIv) (ok_impl_abs _) fun r7 _ => ?_
          refine Run.y (gv := vIv) (fun _ => ?_) (fun _ => ?_)
          · refine Run.q (e := vIv) (gv := vIv) (ok_impl_TurnI _) fun r8 _ => ?_
            refine Run.y (gv := vIv) (fun _ => ?_) (fun _ => ?_)
            · refine Run.q (e := vIv) (gv := vIv) (ok_impl_TurnI _) fun r9 _ => ?_
              refine Run.q (e := vIv) (gv := vIv) (ok_impl_at _) fun r10 _ => ?_
              refine Run.q (e := vIv) (gv := vIv) (ok_impl_at _) fun r11 _ => ?_
              refine Run.q (e := vIv) (gv := vIv) (ok_impl_DivI _ _) fun r12 _ => ?_
              refine Run.q (e := vIv) (gv := vIv) (ok_impl_AtanI _) fun r13 _ => ?_
              refine Run.q (e := vIv) (gv := vIv) (ok_impl_SubI _ _) fun r14 _ => ?_
              exact Run.x 0
            · refine Run.q (e := vIv) (gv := vIv) (ok_impl_at _) fun r15 _ => ?_
              refine Run.q (e := vIv) (gv := vIv) (ok_impl_at _) fun r16 _ => ?_
              refine Run.q (e := vIv) (gv := vIv) (ok_impl_DivI _ _) fun r17 _ => ?_
              refine Run.q (e := vIv) (gv := vIv) (ok_impl_AtanI _) fun r18 _ => ?_
              refine Run.q (e := vIv) (gv := vIv) (ok_impl_SubI _ _) fun r19 _ => ?_
              exact Run.x 0
          · refine Run.q (e := vIv) (gv := vIv) (ok_impl_at _) fun r20 _ => ?_
            refine Run.q (e := vIv) (gv := vIv) (ok_impl_at _) fun r21 _ => ?_
            refine Run.q (e := vIv) (gv := vIv) (ok_impl_DivI _ _) fun r22 _ => ?_
            refine Run.q (e := vIv) (gv := vIv) (ok_impl_AtanI _) fun r23 _ => ?_
            refine Run.y (gv := vIv) (fun _ => ?_) (fun _ => ?_)
            · exact Run.x 0
            · refine Run.y (gv := vIv) (fun _ => ?_) (fun _ => ?_)
              · refine Run.q (e := vIv) (gv := vIv) (ok_impl_TurnI _) fun r24 _ => ?_
                refine Run.q (e := vIv) (gv := vIv) (ok_impl_AddI _ _) fun r25 _ => ?_
                exact Run.x 0
              · refine Run.q (e := vIv) (gv := vIv) (ok_impl_TurnI _) fun r26 _ => ?_
                refine Run.q (e := vIv) (gv := vIv) (ok_impl_AddI _ _) fun r27 _ => ?_
                exact Run.x 0
      · refine Run.z [false, false, false, false, false] ?_
        refine Run.q (e := vI) (gv := vIv) (ok_impl_abs _) fun r28 _ => ?_
        refine Run.q (e := vI) (gv := vIv) (ok_impl_abs _) fun r29 _ => ?_
        refine Run.y (gv := vIv) (fun _ => ?_) (fun _ => ?_)
        · refine Run.q (e := vIv) (gv := vIv) (ok_impl_TurnI _) fun r30 _ => ?_
          refine Run.y (gv := vIv) (fun _ => ?_) (fun _ => ?_)
          · refine Run.q (e := vIv) (gv := vIv) (ok_impl_TurnI _) fun r31 _ => ?_
            refine Run.q (e := vIv) (gv := vIv) (ok_impl_at _) fun r32 _ => ?_
            refine Run.q (e := vIv) (gv := vIv) (ok_impl_at _) fun r33 _ => ?_
            refine Run.q (e := vIv) (gv := vIv) (ok_impl_DivI _ _) fun r34 _ => ?_
            refine Run.q (e := vIv) (gv := vIv) (ok_impl_AtanI _) fun r35 _ => ?_
            refine Run.q (e := vIv) (gv := vIv) (ok_impl_SubI _ _) fun r36 _ => ?_
            exact Run.x 0
          · refine Run.q (e := vIv) (gv := vIv) (ok_impl_at _) fun r37 _ => ?_
            refine Run.q (e := vIv) (gv := vIv) (ok_impl_at _) fun r38 _ => ?_
            refine Run.q (e := vIv) (gv := vIv) (ok_impl_DivI _ _) fun r39 _ => ?_
            refine Run.q (e := vIv) (gv := vIv) (ok_impl_AtanI _) fun r40 _ => ?_
            refine Run.q (e := vIv) (gv := vIv) (ok_impl_SubI _ _) fun r41 _ => ?_
            exact Run.x 0
        · refine Run.q (e := vIv) (gv := vIv) (ok_impl_at _) fun r42 _ => ?_
          refine Run.q (e := vIv) (gv := vIv) (ok_impl_at _) fun r43 _ => ?_
          refine Run.q (e := vIv) (gv := vIv) (ok_impl_DivI _ _) fun r44 _ => ?_
          refine Run.q (e := vIv) (gv := vIv) (ok_impl_AtanI _) fun r45 _ => ?_
          refine Run.y (gv := vIv) (fun _ => ?_) (fun _ => ?_)
          · exact Run.x 0
          · refine Run.y (gv := vIv) (fun _ => ?_) (fun _ => ?_)
            · refine Run.q (e := vIv) (gv := vIv) (ok_impl_TurnI _) fun r46 _ => ?_
              refine Run.q (e := vIv) (gv := vIv) (ok_impl_AddI _ _) fun r47 _ => ?_
              exact Run.x 0
            · refine Run.q (e := vIv) (gv := vIv) (ok_impl_TurnI _) fun r48 _ => ?_
              refine Run.q (e := vIv) (gv := vIv) (ok_impl_AddI _ _) fun r49 _ => ?_
              exact Run.x 0

theorem ok_impl_DirectionI (a0 : Iv) (a1 : Iv) : Fun Tryz.prog 105 [] #[vIv a0, vIv a1] (vIv (F_impl_DirectionI a0 a1)) [] := by
  refine Fun.ofH 400 E_ok mixed Tryz.func105 (by kernel_rfl) (by kernel_rfl) ?_
  unfold F_impl_DirectionI
  refine Run.q (e := vB) (gv := vIv) (ok_impl_areBounded _ _) fun r1 _ => ?_
  refine Run.y (gv := vIv) (fun _ => ?_) (fun _ => ?_)
  · refine Run.z [true, true, true, true, true, true, true, true, true, true, true, true, true] ?_
    refine Run.q (e := vIv) (gv := vIv) (ok_impl_Whole) fun r2 _ => ?_
    exact Run.x 0
  · refine Run.z [false] ?_
    refine Run.q (e := vB) (gv := vIv) (ok_impl_HasI _ _) fun r3 _ => ?_
    refine Run.z [false] ?_
    refine Run.y (gv := vIv) (fun _ => ?_) (fun _ => ?_)
    · refine Run.z [true] ?_
      refine Run.q (e := vB) (gv := vIv) (ok_impl_HasI _ _) fun r4 _ => ?_
      refine Run.z [false, true, false] ?_
      refine Run.y (gv := vIv) (fun _ => ?_) (fun _ => ?_)
      · refine Run.z [true, true, true, true, true, true, true, true] ?_
        refine Run.q (e := vIv) (gv := vIv) (ok_impl_Whole) fun r5 _ => ?_
        exact Run.x 0
      · refine Run.z [false, false, false] ?_
        refine Run.y (gv := vIv) (fun _ => ?_) (fun _ => ?_)
        · refine Run.z [true, true, false, true, false] ?_
          refine Run.y (gv := vIv) (fun _ => ?_) (fun _ => ?_)
          · refine Run.z [true, true, false, true, false] ?_
            refine Run.y (gv := vIv) (fun _ => ?_) (fun _ => ?_)
            · refine Run.q (e := vIv) (gv := vIv) (ok_impl_Whole) fun r6 _ => ?_
              exact Run.x 0
            · refine Run.q (e := vIv) (gv := vIv) (ok_impl_DirectionAt _ _) fun r7 _ => ?_
              refine Run.q (e := vIv) (gv := vIv) (ok_impl_DirectionAt _ _) fun r8 _ => ?_
              refine Run.q (e := vIv) (gv := vIv) (ok_impl_HullI _ _) fun r9 _ => ?_
              refine Run.q (e := vIv) (gv := vIv) (ok_impl_DirectionAt _ _) fun r10 _ => ?_
              refine Run.q (e := vIv) (gv := vIv) (ok_impl_DirectionAt _ _) fun r11 _ => ?_
              refine Run.q (e := vIv) (gv := vIv) (ok_impl_HullI _ _) fun r12 _ => ?_
              refine Run.q (e := vIv) (gv := vIv) (ok_impl_HullI _ _) fun r13 _ => ?_
              exact Run.x 0
          · refine Run.z [false, false, false, false, false, false] ?_
            refine Run.q (e := vIv) (gv := vIv) (ok_impl_DirectionAt _ _) fun r14 _ => ?_
            refine Run.q (e := vIv) (gv := vIv) (ok_impl_DirectionAt _ _) fun r15 _ => ?_
            refine Run.q (e := vIv) (gv := vIv) (ok_impl_HullI _ _) fun r16 _ => ?_
            refine Run.q (e := vIv) (gv := vIv) (ok_impl_DirectionAt _ _) fun r17 _ => ?_
            refine Run.q (e := vIv) (gv := vIv) (ok_impl_DirectionAt _ _) fun r18 _ => ?_
            refine Run.q (e := vIv) (gv := vIv) (ok_impl_HullI _ _) fun r19 _ => ?_
            refine Run.q (e := vIv) (gv := vIv) (ok_impl_HullI _ _) fun r20 _ => ?_
            exact Run.x 0
        · refine Run.z [false, false, false, false, false, false, false, false, false, false, false, false] ?_
          refine Run.q (e := vIv) (gv := vIv) (ok_impl_DirectionAt _ _) fun r21 _ => ?_
          refine Run.q (e := vIv) (gv := vIv) (ok_impl_DirectionAt _ _) fun r22 _ => ?_
          refine Run.q (e := vIv) (gv := vIv) (ok_impl_HullI _ _) fun r23 _ => ?_
          refine Run.q (e := vIv) (gv := vIv) (ok_impl_DirectionAt _ _) fun r24 _ => ?_
          refine Run.q (e := vIv) (gv := vIv) (ok_impl_DirectionAt _ _) fun r25 _ => ?_
          refine Run.q (e := vIv) (gv := vIv) (ok_impl_HullI _ _) fun r26 _ => ?_
          refine Run.q (e := vIv) (gv := vIv) (ok_impl_HullI _ _) fun r27 _ => ?_
          exact Run.x 0
    · refine Run.z [false, false, false, false, false, false, false, false] ?_
      refine Run.y (gv := vIv) (fun _ => ?_) (fun _ => ?_)
      · refine Run.z [true, true, false, true, false] ?_
        refine Run.y (gv := vIv) (fun _ => ?_) (fun _ => ?_)
        · refine Run.z [true, true, false, true, false] ?_
          refine Run.y (gv := vIv) (fun _ => ?_) (fun _ => ?_)
          · refine Run.q (e := vIv) (gv := vIv) (ok_impl_Whole) fun r28 _ => ?_
            exact Run.x 0
          · refine Run.q (e := vIv) (gv := vIv) (ok_impl_DirectionAt _ _) fun r29 _ => ?_
            refine Run.q (e := vIv) (gv := vIv) (ok_impl_DirectionAt _ _) fun r30 _ => ?_
            refine Run.q (e := vIv) (gv := vIv) (ok_impl_HullI _ _) fun r31 _ => ?_
            refine Run.q (e := vIv) (gv := vIv) (ok_impl_DirectionAt _ _) fun r32 _ => ?_
            refine Run.q (e := vIv) (gv := vIv) (ok_impl_DirectionAt _ _) fun r33 _ => ?_
            refine Run.q (e := vIv) (gv := vIv) (ok_impl_HullI _ _) fun r34 _ => ?_
            refine Run.q (e := vIv) (gv := vIv) (ok_impl_HullI _ _) fun r35 _ => ?_
            exact Run.x 0
        · refine Run.z [false, false, false, false, false, false] ?_
          refine Run.q (e := vIv) (gv := vIv) (ok_impl_DirectionAt _ _) fun r36 _ => ?_
          refine Run.q (e := vIv) (gv := vIv) (ok_impl_DirectionAt _ _) fun r37 _ => ?_
          refine Run.q (e := vIv) (gv := vIv) (ok_impl_HullI _ _) fun r38 _ => ?_
          refine Run.q (e := vIv) (gv := vIv) (ok_impl_DirectionAt _ _) fun r39 _ => ?_
          refine Run.q (e := vIv) (gv := vIv) (ok_impl_DirectionAt _ _) fun r40 _ => ?_
          refine Run.q (e := vIv) (gv := vIv) (ok_impl_HullI _ _) fun r41 _ => ?_
          refine Run.q (e := vIv) (gv := vIv) (ok_impl_HullI _ _) fun r42 _ => ?_
          exact Run.x 0
      · refine Run.z [false, false, false, false, false, false, false, false, false, false, false, false] ?_
        refine Run.q (e := vIv) (gv := vIv) (ok_impl_DirectionAt _ _) fun r43 _ => ?_
        refine Run.q (e := vIv) (gv := vIv) (ok_impl_DirectionAt _ _) fun r44 _ => ?_
        refine Run.q (e := vIv) (gv := vIv) (ok_impl_HullI _ _) fun r45 _ => ?_
        refine Run.q (e := vIv) (gv := vIv) (ok_impl_DirectionAt _ _) fun r46 _ => ?_
        refine Run.q (e := vIv) (gv := vIv) (ok_impl_DirectionAt _ _) fun r47 _ => ?_
        refine Run.q (e := vIv) (gv := vIv) (ok_impl_HullI _ _) fun r48 _ => ?_
        refine Run.q (e := vIv) (gv := vIv) (ok_impl_HullI _ _) fun r49 _ => ?_
        exact Run.x 0

theorem ok_impl_planar (a0 : Iv) (a1 : Iv) : Fun Tryz.prog 56 [] #[vIv a0, vIv a1] (vT_Pn_I (F_impl_planar a0 a1)) [] := by
  refine Fun.ofH 400 E_ok mixed Tryz.func56 (by kernel_rfl) (by kernel_rfl) ?_
  unfold F_impl_planar
  refine Run.q (e := vB) (gv := vT_Pn_I) (ok_impl_areBounded _ _) fun r1 _ => ?_
  refine Run.y (gv := vT_Pn_I) (fun _ => ?_) (fun _ => ?_)
  · exact Run.x 0
  · exact Run.x 0

theorem ok_impl_TransverseForward (a0 : Pj) (a1 : Pt) : Fun Tryz.prog 36 [] #[vPj a0, vPt a1] (vT_Pn_I (F_impl_TransverseForward a0 a1)) [] := by
  refine Fun.ofH 400 E_ok mixed Tryz.func36 (by kernel_rfl) (by kernel_rfl) ?_
  unfold F_impl_TransverseForward
  refine Run.q (e := vT_Iv_Iv_Iv_I) (gv := vT_Pn_I) (ok_impl_transverse _ _) fun r1 _ => ?_
  refine Run.y (gv := vT_Pn_I) (fun _ => ?_) (fun _ => ?_)
  · exact Run.x 0
  · refine Run.q (e := vIv) (gv := vT_Pn_I) (ok_impl_AtanhI _) fun r2 _ => ?_
    refine Run.q (e := vIv) (gv := vT_Pn_I) (ok_impl_SinI _) fun r3 _ => ?_
    refine Run.q (e := vIv) (gv := vT_Pn_I) (ok_impl_CosI _) fun r4 _ => ?_
    refine Run.q (e := vIv) (gv := vT_Pn_I) (ok_impl_CosI _) fun r5 _ => ?_
    refine Run.q (e := vIv) (gv := vT_Pn_I) (ok_impl_MulI _ _) fun r6 _ => ?_
    refine Run.q (e := vIv) (gv := vT_Pn_I) (ok_impl_DirectionI _ _) fun r7 _ => ?_
    refine Run.q (e := vIv) (gv := vT_Pn_I) (ok_impl_RadiansOf _) fun r8 _ => ?_
    refine Run.q (e := vIv) (gv := vT_Pn_I) (ok_impl_SubI _ _) fun r9 _ => ?_
    refine Run.q (e := vT_Pn_I) (gv := vT_Pn_I) (ok_impl_planar _ _) fun r10 _ => ?_
    exact Run.x 0

theorem ok_impl_ZoneForward (a0 : Pt) : Fun Tryz.prog 11 [] #[vPt a0] (vT_I_Pn_I (F_impl_ZoneForward a0)) [] := by
  refine Fun.ofH 400 E_ok mixed Tryz.func11 (by kernel_rfl) (by kernel_rfl) ?_
  unfold F_impl_ZoneForward
  refine Run.q (e := vB) (gv := vT_I_Pn_I) (ok_impl_ValidPoint _) fun r1 _ => ?_
  refine Run.y (gv := vT_I_Pn_I) (fun _ => ?_) (fun _ => ?_)
  · exact Run.x 0
  · refine Run.q (e := vI) (gv := vT_I_Pn_I) (ok_impl_zoneOf _) fun r2 _ => ?_
    refine Run.q (e := vT_Pj_I) (gv := vT_I_Pn_I) (ok_impl_ZoneProjection _) fun r3 _ => ?_
    refine Run.q (e := vT_Pn_I) (gv := vT_I_Pn_I) (ok_impl_TransverseForward _ _) fun r4 _ => ?_
    refine Run.y (gv := vT_I_Pn_I) (fun _ => ?_) (fun _ => ?_)
    · exact Run.x 0
    · exact Run.x 0

theorem ok_laws_eqInterval (a0 : Iv) (a1 : Iv) : Fun Tryz.prog 19 [] #[vIv a0, vIv a1] (vB (F_laws_eqInterval a0 a1)) [] := by
  refine Fun.ofH 400 E_ok mixed Tryz.func19 (by kernel_rfl) (by kernel_rfl) ?_
  unfold F_laws_eqInterval
  refine Run.y (gv := vB) (fun _ => ?_) (fun _ => ?_)
  · exact Run.x 0
  · refine Run.y (gv := vB) (fun _ => ?_) (fun _ => ?_)
    · exact Run.x 0
    · exact Run.x 0

theorem ok_laws_eqPlanar (a0 : Pn) (a1 : Pn) : Fun Tryz.prog 12 [] #[vPn a0, vPn a1] (vB (F_laws_eqPlanar a0 a1)) [] := by
  refine Fun.ofH 400 E_ok mixed Tryz.func12 (by kernel_rfl) (by kernel_rfl) ?_
  unfold F_laws_eqPlanar
  refine Run.q (e := vB) (gv := vB) (ok_laws_eqInterval _ _) fun r1 _ => ?_
  refine Run.y (gv := vB) (fun _ => ?_) (fun _ => ?_)
  · exact Run.x 0
  · refine Run.q (e := vB) (gv := vB) (ok_laws_eqInterval _ _) fun r2 _ => ?_
    refine Run.y (gv := vB) (fun _ => ?_) (fun _ => ?_)
    · exact Run.x 0
    · exact Run.x 0

theorem ok_laws_FnExactZoneForward (a0 : Pt) : Fun Tryz.prog 3 [] #[vPt a0] (vB (F_laws_FnExactZoneForward a0)) [] := by
  refine Fun.ofH 400 E_ok mixed Tryz.func3 (by kernel_rfl) (by kernel_rfl) ?_
  unfold F_laws_FnExactZoneForward
  refine Run.q (e := vPt) (gv := vB) (ok_laws_toPoint _) fun r1 _ => ?_
  refine Run.q (e := vT_I_Pn_I) (gv := vB) (ok_spec_ZoneForward _) fun r2 _ => ?_
  refine Run.q (e := vPt) (gv := vB) (ok_laws_toPoint _) fun r3 _ => ?_
  refine Run.q (e := vT_I_Pn_I) (gv := vB) (ok_impl_ZoneForward _) fun r4 _ => ?_
  refine Run.y (gv := vB) (fun _ => ?_) (fun _ => ?_)
  · refine Run.z [true, true, true, true, true, true, true, true, true] ?_
    exact Run.x 0
  · refine Run.z [false, false] ?_
    refine Run.q (e := vB) (gv := vB) (ok_laws_eqPlanar _ _) fun r5 _ => ?_
    refine Run.z [false, false] ?_
    refine Run.y (gv := vB) (fun _ => ?_) (fun _ => ?_)
    · refine Run.z [true, true, true, true] ?_
      exact Run.x 0
    · refine Run.z [false, false, false] ?_
      refine Run.y (gv := vB) (fun _ => ?_) (fun _ => ?_)
      · exact Run.x 0
      · exact Run.x 0

theorem ok_laws_toProjection (a0 : Pj) : Fun Tryz.prog 14 [] #[vPj a0] (vPj (F_laws_toProjection a0)) [] := by
  refine Fun.ofH 400 E_ok mixed Tryz.func14 (by kernel_rfl) (by kernel_rfl) ?_
  unfold F_laws_toProjection
  exact Run.x 0

theorem ok_spec_l17Standard (a0 : I64) : Fun Tryz.prog 255 [] #[vI a0] (vB (F_spec_l17Standard a0)) [] := by
  refine Fun.ofH 400 E_ok mixed Tryz.func255 (by kernel_rfl) (by kernel_rfl) ?_
  unfold F_spec_l17Standard
  refine Run.q (e := vB) (gv := vB) (ok_spec_l00In _ _ _) fun r1 _ => ?_
  exact Run.x 0

theorem ok_spec_l17Ok (a0 : Pj) : Fun Tryz.prog 129 [] #[vPj a0] (vB (F_spec_l17Ok a0)) [] := by
  refine Fun.ofH 400 E_ok mixed Tryz.func129 (by kernel_rfl) (by kernel_rfl) ?_
  unfold F_spec_l17Ok
  refine Run.q (e := vB) (gv := vB) (ok_spec_l11Ok _) fun r1 _ => ?_
  refine Run.y (gv := vB) (fun _ => ?_) (fun _ => ?_)
  · refine Run.z [true, true, true, true, true, true, true, true, true, true] ?_
    exact Run.x 0
  · refine Run.z [false, false] ?_
    refine Run.q (e := vB) (gv := vB) (ok_spec_l17Standard _) fun r2 _ => ?_
    refine Run.z [false, false] ?_
    refine Run.y (gv := vB) (fun _ => ?_) (fun _ => ?_)
    · refine Run.z [true, true, true, true, true] ?_
      exact Run.x 0
    · refine Run.z [false, false] ?_
      refine Run.q (e := vB) (gv := vB) (ok_spec_l17Standard _) fun r3 _ => ?_
      refine Run.z [false, false] ?_
      refine Run.y (gv := vB) (fun _ => ?_) (fun _ => ?_)
      · exact Run.x 0
      · refine Run.y (gv := vB) (fun _ => ?_) (fun _ => ?_)
        · refine Run.z [true] ?_
          refine Run.y (gv := vB) (fun _ => ?_) (fun _ => ?_)
          · refine Run.z [true, true, true] ?_
            exact Run.x 0
          · refine Run.z [false, false, false] ?_
            exact Run.x 0
        · refine Run.y (gv := vB) (fun _ => ?_) (fun _ => ?_)
          · refine Run.y (gv := vB) (fun _ => ?_) (fun _ => ?_)
            · refine Run.z [true, true, true] ?_
              exact Run.x 0
            · refine Run.z [false, false, false] ?_
              exact Run.x 0
          · refine Run.y (gv := vB) (fun _ => ?_) (fun _ => ?_)
            · refine Run.z [true] ?_
              refine Run.y (gv := vB) (fun _ => ?_) (fun _ => ?_)
              · refine Run.z [true, true, true] ?_
                refine Run.y (gv := vB) (fun _ => ?_) (fun _ => ?_)
                · refine Run.z [true, true, true] ?_
                  exact Run.x 0
                · refine Run.z [false, false, false] ?_
                  exact Run.x 0
              · refine Run.z [false, false, false, false, false, false, false] ?_
                exact Run.x 0
            · refine Run.y (gv := vB) (fun _ => ?_) (fun _ => ?_)
              · refine Run.z [true] ?_
                refine Run.y (gv := vB) (fun _ => ?_) (fun _ => ?_)
                · refine Run.z [true, true, true] ?_
                  refine Run.y (gv := vB) (fun _ => ?_) (fun _ => ?_)
                  · refine Run.z [true, true, true] ?_
                    exact Run.x 0
                  · refine Run.z [false, false, false] ?_
                    exact Run.x 0
                · refine Run.z [false, false, false, false, false, false, false] ?_
                  exact Run.x 0
              · refine Run.y (gv := vB) (fun _ => ?_) (fun _ => ?_)
                · refine Run.z [true] ?_
                  refine Run.y (gv := vB) (fun _ => ?_) (fun _ => ?_)
                  · refine Run.z [true, true, true] ?_
                    refine Run.y (gv := vB) (fun _ => ?_) (fun _ => ?_)
                    · refine Run.z [true, true, true] ?_
                      exact Run.x 0
                    · refine Run.z [false, false, false] ?_
                      exact Run.x 0
                  · refine Run.z [false, false, false, false, false, false, false] ?_
                    exact Run.x 0
                · refine Run.y (gv := vB) (fun _ => ?_) (fun _ => ?_)
                  · refine Run.z [true] ?_
                    refine Run.y (gv := vB) (fun _ => ?_) (fun _ => ?_)
                    · refine Run.z [true, true, true] ?_
                      refine Run.y (gv := vB) (fun _ => ?_) (fun _ => ?_)
                      · refine Run.z [true, true, true] ?_
                        exact Run.x 0
                      · refine Run.z [false, false, false] ?_
                        exact Run.x 0
                    · refine Run.z [false, false, false, false, false, false, false] ?_
                      exact Run.x 0
                  · refine Run.y (gv := vB) (fun _ => ?_) (fun _ => ?_)
                    · refine Run.y (gv := vB) (fun _ => ?_) (fun _ => ?_)
                      · refine Run.z [true, true, true] ?_
                        refine Run.y (gv := vB) (fun _ => ?_) (fun _ => ?_)
                        · refine Run.z [true, true, true] ?_
                          exact Run.x 0
                        · refine Run.z [false, false, false] ?_
                          exact Run.x 0
                      · refine Run.z [false, false, false, false, false, false, false] ?_
                        exact Run.x 0
                    · refine Run.y (gv := vB) (fun _ => ?_) (fun _ => ?_)
                      · refine Run.z [true] ?_
                        refine Run.y (gv := vB) (fun _ => ?_) (fun _ => ?_)
                        · refine Run.z [true, true, true] ?_
                          exact Run.x 0
                        · refine Run.z [false, false, false] ?_
                          exact Run.x 0
                      · refine Run.y (gv := vB) (fun _ => ?_) (fun _ => ?_)
                        · refine Run.z [true] ?_
                          refine Run.y (gv := vB) (fun _ => ?_) (fun _ => ?_)
                          · refine Run.z [true, true, true] ?_
                            exact Run.x 0
                          · refine Run.z [false, false, false] ?_
                            exact Run.x 0
                        · refine Run.y (gv := vB) (fun _ => ?_) (fun _ => ?_)
                          · refine Run.z [true] ?_
                            refine Run.y (gv := vB) (fun _ => ?_) (fun _ => ?_)
                            · refine Run.z [true, true, true] ?_
                              exact Run.x 0
                            · refine Run.z [false, false, false] ?_
                              exact Run.x 0
                          · refine Run.y (gv := vB) (fun _ => ?_) (fun _ => ?_)
                            · refine Run.z [true] ?_
                              refine Run.y (gv := vB) (fun _ => ?_) (fun _ => ?_)
                              · refine Run.z [true, true, true] ?_
                                exact Run.x 0
                              · refine Run.z [false, false, false] ?_
                                exact Run.x 0
                            · refine Run.y (gv := vB) (fun _ => ?_) (fun _ => ?_)
                              · refine Run.z [true] ?_
                                refine Run.y (gv := vB) (fun _ => ?_) (fun _ => ?_)
                                · refine Run.z [true, true, true] ?_
                                  exact Run.x 0
                                · refine Run.z [false, false, false] ?_
                                  exact Run.x 0
                              · refine Run.y (gv := vB) (fun _ => ?_) (fun _ => ?_)
                                · refine Run.y (gv := vB) (fun _ => ?_) (fun _ => ?_)
                                  · refine Run.z [true, true, true] ?_
                                    exact Run.x 0
                                  · refine Run.z [false, false, false] ?_
                                    exact Run.x 0
                                · refine Run.y (gv := vB) (fun _ => ?_) (fun _ => ?_)
                                  · refine Run.z [true] ?_
                                    refine Run.y (gv := vB) (fun _ => ?_) (fun _ => ?_)
                                    · refine Run.z [true, true] ?_
                                      exact Run.x 0
                                    · refine Run.z [false, false] ?_
                                      exact Run.x 0
                                  · refine Run.y (gv := vB) (fun _ => ?_) (fun _ => ?_)
                                    · refine Run.z [true] ?_
                                      refine Run.y (gv := vB) (fun _ => ?_) (fun _ => ?_)
                                      · refine Run.z [true, true] ?_
                                        exact Run.x 0
                                      · refine Run.z [false, false] ?_
                                        exact Run.x 0
                                    · refine Run.y (gv := vB) (fun _ => ?_) (fun _ => ?_)
                                      · refine Run.y (gv := vB) (fun _ => ?_) (fun _ => ?_)
                                        · refine Run.z [true, true] ?_
                                          exact Run.x 0
                                        · refine Run.z [false, false] ?_
                                          exact Run.x 0
                                      · exact Run.x 0

theorem ok_spec_l19Ok (a0 : Pj) : Fun Tryz.prog 37 [] #[vPj a0] (vB (F_spec_l19Ok a0)) [] := by
  refine Fun.ofH 400 E_ok mixed Tryz.func37 (by kernel_rfl) (by kernel_rfl) ?_
  unfold F_spec_l19Ok
  refine Run.q (e := vB) (gv := vB) (ok_spec_l00In _ _ _) fun r1 _ => ?_
  refine Run.y (gv := vB) (fun _ => ?_) (fun _ => ?_)
  · refine Run.z [true] ?_
    refine Run.q (e := vB) (gv := vB) (ok_spec_l17Ok _) fun r2 _ => ?_
    refine Run.z [true] ?_
    exact Run.x 0
  · refine Run.z [false, false] ?_
    exact Run.x 0

theorem ok_spec_l11Pole (a0 : Pt) : Fun Tryz.prog 38 [] #[vPt a0] (vB (F_spec_l11Pole a0)) [] := by
  refine Fun.ofH 400 E_ok mixed Tryz.func38 (by kernel_rfl) (by kernel_rfl) ?_
  unfold F_spec_l11Pole
  refine Run.y (gv := vB) (fun _ => ?_) (fun _ => ?_)
  · refine Run.z [true, true, true] ?_
    exact Run.x 0
  · refine Run.z [false, false, false] ?_
    exact Run.x 0

theorem ok_spec_SinAt (a0 : I64) : Fun Tryz.prog 332 [] #[vI a0] (vIv (F_spec_SinAt a0)) [] := by
  refine Fun.ofH 400 E_ok mixed Tryz.func332 (by kernel_rfl) (by kernel_rfl) ?_
  unfold F_spec_SinAt
  refine Run.q (e := vIv) (gv := vIv) (ok_spec_l06At _ _) fun r1 _ => ?_
  exact Run.x 0

theorem ok_spec_CosAt (a0 : I64) : Fun Tryz.prog 333 [] #[vI a0] (vIv (F_spec_CosAt a0)) [] := by
  refine Fun.ofH 400 E_ok mixed Tryz.func333 (by kernel_rfl) (by kernel_rfl) ?_
  unfold F_spec_CosAt
  refine Run.q (e := vIv) (gv := vIv) (ok_spec_l06At _ _) fun r1 _ => ?_
  exact Run.x 0

theorem ok_spec_TanI_L0 : ∀ (fu : Nat) (a0 : Iv) (x_k : I64) (y_1 : Iv) (hm : (2000 - x_k.val).toNat < fu) (t : Array Value) (ht : maskA t [0, 4, 5, 6, 7, 8, 9, 10, 11, 12, 13, 14, 15, 16, 17, 18, 19, 20, 21, 22, 23, 24, 25, 26, 27, 28, 29, 30, 31, 32, 33, 34, 35, 36, 37, 38, 39, 40, 41, 42, 43, 44] = #[undef, .pointer (some ⟨0, 0, none⟩), .pointer (some ⟨1, 0, none⟩), .int .i64 x_k.val, undef, undef, undef, undef, undef, undef, undef, undef, undef, undef, undef, undef, undef, undef, undef, undef, undef, undef, undef, undef, undef, undef, undef, undef, undef, undef, undef, undef, undef, undef, undef, undef, undef, undef, undef, undef, undef, undef, undef, undef, undef]), Cfg Tryz.prog 257 (loopAt Tryz.f257 0) t [(#[.int .i64 a0.lo.val, .int .i64 a0.hi.val], 25), (#[.int .i64 y_1.lo.val, .int .i64 y_1.hi.val], 25)] (RvH [] (vIv (F_spec_TanI_L0 fu a0 x_k y_1))) := by
  intro fu
  induction fu with
  | zero => intro a0 x_k y_1 hm; exact absurd hm (Nat.not_lt_zero _)
  | succ fu ih =>
    intro a0 x_k y_1 hm t ht
    refine Cfg.round E_ok mixed Tryz.func257 ht fun g => ?_
    unfold F_spec_TanI_L0
    refine Run.q (e := vI) (gv := vIv) (ok_spec_QuarterOf _) fun r5 hr5 => ?_
    refine Run.y (gv := vIv) (fun h6 => ?_) (fun h6 => ?_)
    · refine Run.y (gv := vIv) (fun h7 => ?_) (fun h7 => ?_)
      · refine Run.z [true] ?_
        refine Run.q (e := vIv) (gv := vIv) (ok_spec_TurnI _) fun r8 hr8 => ?_
        refine Run.z [true, true] ?_
        refine Run.q (e := vB) (gv := vIv) (ok_spec_OverlapI _ _) fun r9 hr9 => ?_
        refine Run.z [true] ?_
        refine Run.y (gv := vIv) (fun h10 => ?_) (fun h10 => ?_)
        · refine Run.q (e := vIv) (gv := vIv) (ok_spec_Whole) fun r11 hr11 => ?_
          exact Run.x 0
        · exact Run.l (by kernel_rfl) (by kernel_rfl) (by kernel_rfl) (by kernel_rfl) (ih a0 (w64 (x_k.val + 1)) y_1 (by have q1 := x_k.lo; first | exact Nat.lt_succ_self _ | (have q2 := spec_quarter_le a0.hi; have q3 := spec_quarter_ge a0.hi; simp only [w64_val, decide_eq_true_eq, decide_eq_false_iff_not, *] at *; omega)))
      · refine Run.z [false, false, false, false, false] ?_
        exact Run.l (by kernel_rfl) (by kernel_rfl) (by kernel_rfl) (by kernel_rfl) (ih a0 (w64 (x_k.val + 1)) y_1 (by have q1 := x_k.lo; first | exact Nat.lt_succ_self _ | (have q2 := spec_quarter_le a0.hi; have q3 := spec_quarter_ge a0.hi; simp only [w64_val, decide_eq_true_eq, decide_eq_false_iff_not, *] at *; omega)))
    · refine Run.q (e := vIv) (gv := vIv) (ok_spec_SinAt _) fun r12 hr12 => ?_
      refine Run.q (e := vIv) (gv := vIv) (ok_spec_CosAt _) fun r13 hr13 => ?_
      refine Run.q (e := vIv) (gv := vIv) (ok_spec_DivI _ _) fun r14 hr14 => ?_
      refine Run.q (e := vIv) (gv := vIv) (ok_spec_SinAt _) fun r15 hr15 => ?_
      refine Run.q (e := vIv) (gv := vIv) (ok_spec_CosAt _) fun r16 hr16 => ?_
      refine Run.q (e := vIv) (gv := vIv) (ok_spec_DivI _ _) fun r17 hr17 => ?_
      refine Run.q (e := vIv) (gv := vIv) (ok_spec_HullI _ _) fun r18 hr18 => ?_
      exact Run.x 0

theorem ok_spec_TanI (a0 : Iv) : Fun Tryz.prog 257 [] #[vIv a0] (vIv (F_spec_TanI a0)) [] := by
  refine Fun.ofH 400 E_ok mixed Tryz.func257 (by kernel_rfl) (by kernel_rfl) ?_
  unfold F_spec_TanI
  refine Run.q (e := vB) (gv := vIv) (ok_spec_l06Fits _) fun r1 hr1 => ?_
  refine Run.y (gv := vIv) (fun h2 => ?_) (fun h2 => ?_)
  · refine Run.q (e := vIv) (gv := vIv) (ok_spec_Whole) fun r3 hr3 => ?_
    exact Run.x 0
  · refine Run.q (e := vI) (gv := vIv) (ok_spec_QuarterOf _) fun r4 hr4 => ?_
    exact Run.l (by kernel_rfl) (by kernel_rfl) (by kernel_rfl) (by kernel_rfl) (ok_spec_TanI_L0 ((2000 - (w64 (r4.val - 1)).val).toNat + 1) a0 (w64 (r4.val - 1)) (⟨(c64 0), (c64 0)⟩ : Iv) (by exact Nat.lt_succ_self _))

theorem ok_spec_l08Asinh_r : ∀ (fu : Nat) (a0 : I64) (p0 : -9223372036854775808 < a0.val) (hm : min (0 - a0.val).toNat 1 < fu), Fun Tryz.prog 331 [] #[vI a0] (vIv (F_spec_l08Asinh_r fu a0)) [] := by
  intro fu
  induction fu with
  | zero => intro a0 p0 hm; exact absurd hm (Nat.not_lt_zero _)
  | succ fu ih =>
    intro a0 p0 hm
    refine Fun.ofH 400 E_ok mixed Tryz.func331 (by kernel_rfl) (by kernel_rfl) ?_
    unfold F_spec_l08Asinh_r
    unfold F_spec_l08Asinh_b
    refine Run.y (gv := vIv) (fun h1 => ?_) (fun h1 => ?_)
    · refine Run.q (e := vIv) (gv := vIv) (ih (w64 (0 - a0.val)) (by simp only [w64_val, decide_eq_true_eq, decide_eq_false_iff_not] at *; omega) (by simp only [w64_val, decide_eq_true_eq, decide_eq_false_iff_not] at *; omega)) fun r2 hr2 => ?_
      refine Run.q (e := vIv) (gv := vIv) (ok_spec_NegI _) fun r3 hr3 => ?_
      exact Run.x 0
    · refine Run.y (gv := vIv) (fun h4 => ?_) (fun h4 => ?_)
      · refine Run.q (e := vIv) (gv := vIv) (ok_spec_l08At _) fun r5 hr5 => ?_
        refine Run.q (e := vIv) (gv := vIv) (ok_spec_l08At _) fun r6 hr6 => ?_
        refine Run.q (e := vIv) (gv := vIv) (ok_spec_SqrI _) fun r7 hr7 => ?_
        refine Run.q (e := vIv) (gv := vIv) (ok_spec_l08One) fun r8 hr8 => ?_
        refine Run.q (e := vIv) (gv := vIv) (ok_spec_AddI _ _) fun r9 hr9 => ?_
        refine Run.q (e := vIv) (gv := vIv) (ok_spec_SqrtI _) fun r10 hr10 => ?_
        refine Run.q (e := vIv) (gv := vIv) (ok_spec_AddI _ _) fun r11 hr11 => ?_
        refine Run.q (e := vIv) (gv := vIv) (ok_spec_LogI _) fun r12 hr12 => ?_
        exact Run.x 0
      · refine Run.q (e := vIv) (gv := vIv) (ok_spec_LogTwoI _) fun r13 hr13 => ?_
        refine Run.q (e := vIv) (gv := vIv) (ok_spec_LogAt _) fun r14 hr14 => ?_
        refine Run.q (e := vIv) (gv := vIv) (ok_spec_AddI _ _) fun r15 hr15 => ?_
        refine Run.q (e := vIv) (gv := vIv) (ok_spec_AddI _ _) fun r16 hr16 => ?_
        exact Run.x 0
theorem ok_spec_l08Asinh (a0 : I64) (p0 : -9223372036854775808 < a0.val) : Fun Tryz.prog 331 [] #[vI a0] (vIv (F_spec_l08Asinh a0)) [] := ok_spec_l08Asinh_r 2 a0 p0 (by omega)

theorem ok_spec_AsinhI (a0 : Iv) : Fun Tryz.prog 256 [] #[vIv a0] (vIv (F_spec_AsinhI a0)) [] := by
  refine Fun.ofH 400 E_ok mixed Tryz.func256 (by kernel_rfl) (by kernel_rfl) ?_
  unfold F_spec_AsinhI
  refine Run.q (e := vB) (gv := vIv) (ok_spec_l04Ok _) fun r1 hr1 => ?_
  refine Run.y (gv := vIv) (fun h2 => ?_) (fun h2 => ?_)
  · refine Run.q (e := vIv) (gv := vIv) (ok_spec_l04Whole) fun r3 hr3 => ?_
    exact Run.x 0
  · refine Run.q (e := vIv) (gv := vIv) (ok_spec_l08Asinh _ (by rw [hr1] at h2; have z := Ok4p (by simpa using h2); omega)) fun r4 hr4 => ?_
    refine Run.q (e := vIv) (gv := vIv) (ok_spec_l08Asinh _ (by rw [hr1] at h2; have z := Ok4p (by simpa using h2); omega)) fun r5 hr5 => ?_
    refine Run.q (e := vIv) (gv := vIv) (ok_spec_l08Ends _ _) fun r6 hr6 => ?_
    exact Run.x 0

theorem ok_spec_l19Iso (a0 : Iv) : Fun Tryz.prog 131 [] #[vIv a0] (vIv (F_spec_l19Iso a0)) [] := by
  refine Fun.ofH 400 E_ok mixed Tryz.func131 (by kernel_rfl) (by kernel_rfl) ?_
  unfold F_spec_l19Iso
  refine Run.q (e := vIv) (gv := vIv) (ok_spec_TanI _) fun r1 _ => ?_
  refine Run.q (e := vIv) (gv := vIv) (ok_spec_AsinhI _) fun r2 _ => ?_
  exact Run.x 0

theorem ok_spec_l19Cone (a0 : Pj) : Fun Tryz.prog 39 [] #[vPj a0] (vIv (F_spec_l19Cone a0)) [] := by
  refine Fun.ofH 400 E_ok mixed Tryz.func39 (by kernel_rfl) (by kernel_rfl) ?_
  unfold F_spec_l19Cone
  refine Run.q (e := vIv) (gv := vIv) (ok_spec_RadiansOf _) fun r1 _ => ?_
  refine Run.q (e := vIv) (gv := vIv) (ok_spec_RadiansOf _) fun r2 _ => ?_
  refine Run.y (gv := vIv) (fun _ => ?_) (fun _ => ?_)
  · refine Run.q (e := vIv) (gv := vIv) (ok_spec_SinI _) fun r3 _ => ?_
    refine Run.q (e := vIv) (gv := vIv) (ok_spec_SinI _) fun r4 _ => ?_
    refine Run.q (e := vIv) (gv := vIv) (ok_spec_AddI _ _) fun r5 _ => ?_
    refine Run.q (e := vIv) (gv := vIv) (ok_spec_HalfI _) fun r6 _ => ?_
    exact Run.x 0
  · refine Run.y (gv := vIv) (fun _ => ?_) (fun _ => ?_)
    · refine Run.q (e := vIv) (gv := vIv) (ok_spec_SinI _) fun r7 _ => ?_
      exact Run.x 0
    · refine Run.y (gv := vIv) (fun _ => ?_) (fun _ => ?_)
      · refine Run.q (e := vIv) (gv := vIv) (ok_spec_CosI _) fun r8 _ => ?_
        refine Run.q (e := vIv) (gv := vIv) (ok_spec_LogI _) fun r9 _ => ?_
        refine Run.q (e := vIv) (gv := vIv) (ok_spec_CosI _) fun r10 _ => ?_
        refine Run.q (e := vIv) (gv := vIv) (ok_spec_LogI _) fun r11 _ => ?_
        refine Run.q (e := vIv) (gv := vIv) (ok_spec_SubI _ _) fun r12 _ => ?_
        refine Run.q (e := vIv) (gv := vIv) (ok_spec_l19Iso _) fun r13 _ => ?_
        refine Run.q (e := vIv) (gv := vIv) (ok_spec_l19Iso _) fun r14 _ => ?_
        refine Run.q (e := vIv) (gv := vIv) (ok_spec_SubI _ _) fun r15 _ => ?_
        refine Run.q (e := vIv) (gv := vIv) (ok_spec_DivI _ _) fun r16 _ => ?_
        exact Run.x 0
      · refine Run.q (e := vIv) (gv := vIv) (ok_spec_CosI _) fun r17 _ => ?_
        refine Run.q (e := vIv) (gv := vIv) (ok_spec_CosI _) fun r18 _ => ?_
        refine Run.q (e := vIv) (gv := vIv) (ok_spec_SubI _ _) fun r19 _ => ?_
        refine Run.q (e := vIv) (gv := vIv) (ok_spec_SubI _ _) fun r20 _ => ?_
        refine Run.q (e := vIv) (gv := vIv) (ok_spec_DivI _ _) fun r21 _ => ?_
        exact Run.x 0

theorem ok_spec_l08Scale (a0 : Iv) (a1 : I64) : Fun Tryz.prog 334 [] #[vIv a0, vI a1] (vIv (F_spec_l08Scale a0 a1)) [] := by
  refine Fun.ofH 400 E_ok mixed Tryz.func334 (by kernel_rfl) (by kernel_rfl) ?_
  unfold F_spec_l08Scale
  refine Run.y (gv := vIv) (fun h1 => ?_) (fun h1 => ?_)
  · refine Run.k (c := (decide (0 ≤ (wu64 a1.val).val))) (by kernel_rfl) (by exact decide_eq_true (U64.lo _)) ?_
    refine Run.k (c := (decide (0 ≤ (wu64 a1.val).val))) (by kernel_rfl) (by exact decide_eq_true (U64.lo _)) ?_
    refine Run.q (e := vIv) (gv := vIv) (ok_spec_l04Make _ _) fun r2 hr2 => ?_
    exact Run.x 0
  · refine Run.k (c := (decide (0 ≤ (wu64 (w64 (0 - a1.val)).val).val))) (by kernel_rfl) (by exact decide_eq_true (U64.lo _)) ?_
    refine Run.k (c := (decide (0 ≤ (wu64 (w64 (0 - a1.val)).val).val))) (by kernel_rfl) (by exact decide_eq_true (U64.lo _)) ?_
    refine Run.q (e := vIv) (gv := vIv) (ok_spec_l04Make _ _) fun r3 hr3 => ?_
    exact Run.x 0

theorem ok_spec_ExpAt (a0 : I64) : Fun Tryz.prog 258 [] #[vI a0] (vIv (F_spec_ExpAt a0)) [] := by
  refine Fun.ofH 400 E_ok mixed Tryz.func258 (by kernel_rfl) (by kernel_rfl) ?_
  unfold F_spec_ExpAt
  refine Run.q (e := vB) (gv := vIv) (ok_spec_l03Ok _) fun r1 hr1 => ?_
  refine Run.y (gv := vIv) (fun h2 => ?_) (fun h2 => ?_)
  · refine Run.z [true, true, true] ?_
    refine Run.q (e := vIv) (gv := vIv) (ok_spec_l04Whole) fun r3 hr3 => ?_
    exact Run.x 0
  · refine Run.z [false, false] ?_
    refine Run.y (gv := vIv) (fun h4 => ?_) (fun h4 => ?_)
    · refine Run.q (e := vIv) (gv := vIv) (ok_spec_l04Whole) fun r5 hr5 => ?_
      exact Run.x 0
    · refine Run.y (gv := vIv) (fun h6 => ?_) (fun h6 => ?_)
      · exact Run.x 0
      · refine Run.z [true, true] ?_
        refine Run.y (gv := vIv) (fun h7 => ?_) (fun h7 => ?_)
        · refine Run.q (e := vIv) (gv := vIv) (ok_spec_l08At _) fun r8 hr8 => ?_
          refine Run.q (e := vIv) (gv := vIv) (ok_spec_LogTwoI _) fun r9 hr9 => ?_
          refine Run.q (e := vIv) (gv := vIv) (ok_spec_SubI _ _) fun r10 hr10 => ?_
          refine Run.q (e := vIv) (gv := vIv) (ok_spec_l08One) fun r11 hr11 => ?_
          refine Run.u 400 E_ok mixed Tryz.func258 ?_
          refine Run.z [true] ?_
          refine Run.q (e := vIv) (gv := vIv) (ok_spec_l08One) fun r12 hr12 => ?_
          refine Run.q (e := vIv) (gv := vIv) (ok_spec_MulI _ _) fun r13 hr13 => ?_
          refine Run.q (e := vIv) (gv := vIv) (ok_spec_Integer _) fun r14 hr14 => ?_
          refine Run.q (e := vIv) (gv := vIv) (ok_spec_DivI _ _) fun r15 hr15 => ?_
          refine Run.q (e := vIv) (gv := vIv) (ok_spec_AddI _ _) fun r16 hr16 => ?_
          refine Run.u 400 E_ok mixed Tryz.func258 ?_
          refine Run.z [true] ?_
          refine Run.q (e := vIv) (gv := vIv) (ok_spec_l08One) fun r17 hr17 => ?_
          refine Run.q (e := vIv) (gv := vIv) (ok_spec_MulI _ _) fun r18 hr18 => ?_
          refine Run.q (e := vIv) (gv := vIv) (ok_spec_Integer _) fun r19 hr19 => ?_
          refine Run.q (e := vIv) (gv := vIv) (ok_spec_DivI _ _) fun r20 hr20 => ?_
          refine Run.q (e := vIv) (gv := vIv) (ok_spec_AddI _ _) fun r21 hr21 => ?_
          refine Run.u 400 E_ok mixed Tryz.func258 ?_
          refine Run.z [true] ?_
          refine Run.q (e := vIv) (gv := vIv) (ok_spec_l08One) fun r22 hr22 => ?_
          refine Run.q (e := vIv) (gv := vIv) (ok_spec_MulI _ _) fun r23 hr23 => ?_
          refine Run.q (e := vIv) (gv := vIv) (ok_spec_Integer _) fun r24 hr24 => ?_
          refine Run.q (e := vIv) (gv := vIv) (ok_spec_DivI _ _) fun r25 hr25 => ?_
          refine Run.q (e := vIv) (gv := vIv) (ok_spec_AddI _ _) fun r26 hr26 => ?_
          refine Run.u 400 E_ok mixed Tryz.func258 ?_
          refine Run.z [true] ?_
          refine Run.q (e := vIv) (gv := vIv) (ok_spec_l08One) fun r27 hr27 => ?_
          refine Run.q (e := vIv) (gv := vIv) (ok_spec_MulI _ _) fun r28 hr28 => ?_
          refine Run.q (e := vIv) (gv := vIv) (ok_spec_Integer _) fun r29 hr29 => ?_
          refine Run.q (e := vIv) (gv := vIv) (ok_spec_DivI _ _) fun r30 hr30 => ?_
          refine Run.q (e := vIv) (gv := vIv) (ok_spec_AddI _ _) fun r31 hr31 => ?_
          refine Run.u 400 E_ok mixed Tryz.func258 ?_
          refine Run.z [true] ?_
          refine Run.q (e := vIv) (gv := vIv) (ok_spec_l08One) fun r32 hr32 => ?_
          refine Run.q (e := vIv) (gv := vIv) (ok_spec_MulI _ _) fun r33 hr33 => ?_
          refine Run.q (e := vIv) (gv := vIv) (ok_spec_Integer _) fun r34 hr34 => ?_
          refine Run.q (e := vIv) (gv := vIv) (ok_spec_DivI _ _) fun r35 hr35 => ?_
          refine Run.q (e := vIv) (gv := vIv) (ok_spec_AddI _ _) fun r36 hr36 => ?_
          refine Run.u 400 E_ok mixed Tryz.func258 ?_
          refine Run.z [true] ?_
          refine Run.q (e := vIv) (gv := vIv) (ok_spec_l08One) fun r37 hr37 => ?_
          refine Run.q (e := vIv) (gv := vIv) (ok_spec_MulI _ _) fun r38 hr38 => ?_
          refine Run.q (e := vIv) (gv := vIv) (ok_spec_Integer _) fun r39 hr39 => ?_
          refine Run.q (e := vIv) (gv := vIv) (ok_spec_DivI _ _) fun r40 hr40 => ?_
          refine Run.q (e := vIv) (gv := vIv) (ok_spec_AddI _ _) fun r41 hr41 => ?_
          refine Run.u 400 E_ok mixed Tryz.func258 ?_
          refine Run.z [true] ?_
          refine Run.q (e := vIv) (gv := vIv) (ok_spec_l08One) fun r42 hr42 => ?_
          refine Run.q (e := vIv) (gv := vIv) (ok_spec_MulI _ _) fun r43 hr43 => ?_
          refine Run.q (e := vIv) (gv := vIv) (ok_spec_Integer _) fun r44 hr44 => ?_
          refine Run.q (e := vIv) (gv := vIv) (ok_spec_DivI _ _) fun r45 hr45 => ?_
          refine Run.q (e := vIv) (gv := vIv) (ok_spec_AddI _ _) fun r46 hr46 => ?_
          refine Run.u 400 E_ok mixed Tryz.func258 ?_
          refine Run.z [true] ?_
          refine Run.q (e := vIv) (gv := vIv) (ok_spec_l08One) fun r47 hr47 => ?_
          refine Run.q (e := vIv) (gv := vIv) (ok_spec_MulI _ _) fun r48 hr48 => ?_
          refine Run.q (e := vIv) (gv := vIv) (ok_spec_Integer _) fun r49 hr49 => ?_
          refine Run.q (e := vIv) (gv := vIv) (ok_spec_DivI _ _) fun r50 hr50 => ?_
          refine Run.q (e := vIv) (gv := vIv) (ok_spec_AddI _ _) fun r51 hr51 => ?_
          refine Run.u 400 E_ok mixed Tryz.func258 ?_
          refine Run.z [true] ?_
          refine Run.q (e := vIv) (gv := vIv) (ok_spec_l08One) fun r52 hr52 => ?_
          refine Run.q (e := vIv) (gv := vIv) (ok_spec_MulI _ _) fun r53 hr53 => ?_
          refine Run.q (e := vIv) (gv := vIv) (ok_spec_Integer _) fun r54 hr54 => ?_
          refine Run.q (e := vIv) (gv := vIv) (ok_spec_DivI _ _) fun r55 hr55 => ?_
          refine Run.q (e := vIv) (gv := vIv) (ok_spec_AddI _ _) fun r56 hr56 => ?_
          refine Run.u 400 E_ok mixed Tryz.func258 ?_
          refine Run.z [false] ?_
          refine Run.q (e := vIv) (gv := vIv) (ok_spec_l08Widen _ _) fun r57 hr57 => ?_
          refine Run.q (e := vIv) (gv := vIv) (ok_spec_l08Scale _ _) fun r58 hr58 => ?_
          exact Run.x 0
        · refine Run.q (e := vIv) (gv := vIv) (ok_spec_l08At _) fun r59 hr59 => ?_
          refine Run.q (e := vIv) (gv := vIv) (ok_spec_LogTwoI _) fun r60 hr60 => ?_
          refine Run.q (e := vIv) (gv := vIv) (ok_spec_SubI _ _) fun r61 hr61 => ?_
          refine Run.q (e := vIv) (gv := vIv) (ok_spec_l08One) fun r62 hr62 => ?_
          refine Run.u 400 E_ok mixed Tryz.func258 ?_
          refine Run.z [true] ?_
          refine Run.q (e := vIv) (gv := vIv) (ok_spec_l08One) fun r63 hr63 => ?_
          refine Run.q (e := vIv) (gv := vIv) (ok_spec_MulI _ _) fun r64 hr64 => ?_
          refine Run.q (e := vIv) (gv := vIv) (ok_spec_Integer _) fun r65 hr65 => ?_
          refine Run.q (e := vIv) (gv := vIv) (ok_spec_DivI _ _) fun r66 hr66 => ?_
          refine Run.q (e := vIv) (gv := vIv) (ok_spec_AddI _ _) fun r67 hr67 => ?_
          refine Run.u 400 E_ok mixed Tryz.func258 ?_
          refine Run.z [true] ?_
          refine Run.q (e := vIv) (gv := vIv) (ok_spec_l08One) fun r68 hr68 => ?_
          refine Run.q (e := vIv) (gv := vIv) (ok_spec_MulI _ _) fun r69 hr69 => ?_
          refine Run.q (e := vIv) (gv := vIv) (ok_spec_Integer _) fun r70 hr70 => ?_
          refine Run.q (e := vIv) (gv := vIv) (ok_spec_DivI _ _) fun r71 hr71 => ?_
          refine Run.q (e := vIv) (gv := vIv) (ok_spec_AddI _ _) fun r72 hr72 => ?_
          refine Run.u 400 E_ok mixed Tryz.func258 ?_
          refine Run.z [true] ?_
          refine Run.q (e := vIv) (gv := vIv) (ok_spec_l08One) fun r73 hr73 => ?_
          refine Run.q (e := vIv) (gv := vIv) (ok_spec_MulI _ _) fun r74 hr74 => ?_
          refine Run.q (e := vIv) (gv := vIv) (ok_spec_Integer _) fun r75 hr75 => ?_
          refine Run.q (e := vIv) (gv := vIv) (ok_spec_DivI _ _) fun r76 hr76 => ?_
          refine Run.q (e := vIv) (gv := vIv) (ok_spec_AddI _ _) fun r77 hr77 => ?_
          refine Run.u 400 E_ok mixed Tryz.func258 ?_
          refine Run.z [true] ?_
          refine Run.q (e := vIv) (gv := vIv) (ok_spec_l08One) fun r78 hr78 => ?_
          refine Run.q (e := vIv) (gv := vIv) (ok_spec_MulI _ _) fun r79 hr79 => ?_
          refine Run.q (e := vIv) (gv := vIv) (ok_spec_Integer _) fun r80 hr80 => ?_
          refine Run.q (e := vIv) (gv := vIv) (ok_spec_DivI _ _) fun r81 hr81 => ?_
          refine Run.q (e := vIv) (gv := vIv) (ok_spec_AddI _ _) fun r82 hr82 => ?_
          refine Run.u 400 E_ok mixed Tryz.func258 ?_
          refine Run.z [true] ?_
          refine Run.q (e := vIv) (gv := vIv) (ok_spec_l08One) fun r83 hr83 => ?_
          refine Run.q (e := vIv) (gv := vIv) (ok_spec_MulI _ _) fun r84 hr84 => ?_
          refine Run.q (e := vIv) (gv := vIv) (ok_spec_Integer _) fun r85 hr85 => ?_
          refine Run.q (e := vIv) (gv := vIv) (ok_spec_DivI _ _) fun r86 hr86 => ?_
          refine Run.q (e := vIv) (gv := vIv) (ok_spec_AddI _ _) fun r87 hr87 => ?_
          refine Run.u 400 E_ok mixed Tryz.func258 ?_
          refine Run.z [true] ?_
          refine Run.q (e := vIv) (gv := vIv) (ok_spec_l08One) fun r88 hr88 => ?_
          refine Run.q (e := vIv) (gv := vIv) (ok_spec_MulI _ _) fun r89 hr89 => ?_
          refine Run.q (e := vIv) (gv := vIv) (ok_spec_Integer _) fun r90 hr90 => ?_
          refine Run.q (e := vIv) (gv := vIv) (ok_spec_DivI _ _) fun r91 hr91 => ?_
          refine Run.q (e := vIv) (gv := vIv) (ok_spec_AddI _ _) fun r92 hr92 => ?_
          refine Run.u 400 E_ok mixed Tryz.func258 ?_
          refine Run.z [true] ?_
          refine Run.q (e := vIv) (gv := vIv) (ok_spec_l08One) fun r93 hr93 => ?_
          refine Run.q (e := vIv) (gv := vIv) (ok_spec_MulI _ _) fun r94 hr94 => ?_
          refine Run.q (e := vIv) (gv := vIv) (ok_spec_Integer _) fun r95 hr95 => ?_
          refine Run.q (e := vIv) (gv := vIv) (ok_spec_DivI _ _) fun r96 hr96 => ?_
          refine Run.q (e := vIv) (gv := vIv) (ok_spec_AddI _ _) fun r97 hr97 => ?_
          refine Run.u 400 E_ok mixed Tryz.func258 ?_
          refine Run.z [true] ?_
          refine Run.q (e := vIv) (gv := vIv) (ok_spec_l08One) fun r98 hr98 => ?_
          refine Run.q (e := vIv) (gv := vIv) (ok_spec_MulI _ _) fun r99 hr99 => ?_
          refine Run.q (e := vIv) (gv := vIv) (ok_spec_Integer _) fun r100 hr100 => ?_
          refine Run.q (e := vIv) (gv := vIv) (ok_spec_DivI _ _) fun r101 hr101 => ?_
          refine Run.q (e := vIv) (gv := vIv) (ok_spec_AddI _ _) fun r102 hr102 => ?_
          refine Run.u 400 E_ok mixed Tryz.func258 ?_
          refine Run.z [true] ?_
          refine Run.q (e := vIv) (gv := vIv) (ok_spec_l08One) fun r103 hr103 => ?_
          refine Run.q (e := vIv) (gv := vIv) (ok_spec_MulI _ _) fun r104 hr104 => ?_
          refine Run.q (e := vIv) (gv := vIv) (ok_spec_Integer _) fun r105 hr105 => ?_
          refine Run.q (e := vIv) (gv := vIv) (ok_spec_DivI _ _) fun r106 hr106 => ?_
          refine Run.q (e := vIv) (gv := vIv) (ok_spec_AddI _ _) fun r107 hr107 => ?_
          refine Run.u 400 E_ok mixed Tryz.func258 ?_
          refine Run.z [false] ?_
          refine Run.q (e := vIv) (gv := vIv) (ok_spec_l08Widen _ _) fun r108 hr108 => ?_
          refine Run.q (e := vIv) (gv := vIv) (ok_spec_l08Scale _ _) fun r109 hr109 => ?_
          exact Run.x 0

theorem ok_spec_ExpI (a0 : Iv) : Fun Tryz.prog 132 [] #[vIv a0] (vIv (F_spec_ExpI a0)) [] := by
  refine Fun.ofH 400 E_ok mixed Tryz.func132 (by kernel_rfl) (by kernel_rfl) ?_
  unfold F_spec_ExpI
  refine Run.q (e := vB) (gv := vIv) (ok_spec_l04Ok _) fun r1 _ => ?_
  refine Run.y (gv := vIv) (fun _ => ?_) (fun _ => ?_)
  · refine Run.q (e := vIv) (gv := vIv) (ok_spec_l04Whole) fun r2 _ => ?_
    exact Run.x 0
  · refine Run.q (e := vIv) (gv := vIv) (ok_spec_ExpAt _) fun r3 _ => ?_
    refine Run.q (e := vIv) (gv := vIv) (ok_spec_ExpAt _) fun r4 _ => ?_
    refine Run.q (e := vIv) (gv := vIv) (ok_spec_l08Ends _ _) fun r5 _ => ?_
    exact Run.x 0

theorem ok_spec_l19Constant (a0 : Pj) (a1 : Iv) : Fun Tryz.prog 40 [] #[vPj a0, vIv a1] (vIv (F_spec_l19Constant a0 a1)) [] := by
  refine Fun.ofH 400 E_ok mixed Tryz.func40 (by kernel_rfl) (by kernel_rfl) ?_
  unfold F_spec_l19Constant
  refine Run.q (e := vIv) (gv := vIv) (ok_spec_RadiansOf _) fun r1 _ => ?_
  refine Run.y (gv := vIv) (fun _ => ?_) (fun _ => ?_)
  · refine Run.q (e := vIv) (gv := vIv) (ok_spec_CosI _) fun r2 _ => ?_
    refine Run.q (e := vIv) (gv := vIv) (ok_spec_SqrI _) fun r3 _ => ?_
    refine Run.q (e := vIv) (gv := vIv) (ok_spec_Integer _) fun r4 _ => ?_
    refine Run.q (e := vIv) (gv := vIv) (ok_spec_MulI _ _) fun r5 _ => ?_
    refine Run.q (e := vIv) (gv := vIv) (ok_spec_SinI _) fun r6 _ => ?_
    refine Run.q (e := vIv) (gv := vIv) (ok_spec_MulI _ _) fun r7 _ => ?_
    refine Run.q (e := vIv) (gv := vIv) (ok_spec_AddI _ _) fun r8 _ => ?_
    exact Run.x 0
  · refine Run.y (gv := vIv) (fun _ => ?_) (fun _ => ?_)
    · refine Run.q (e := vIv) (gv := vIv) (ok_spec_CosI _) fun r9 _ => ?_
      refine Run.q (e := vIv) (gv := vIv) (ok_spec_l19Iso _) fun r10 _ => ?_
      refine Run.q (e := vIv) (gv := vIv) (ok_spec_MulI _ _) fun r11 _ => ?_
      refine Run.q (e := vIv) (gv := vIv) (ok_spec_ExpI _) fun r12 _ => ?_
      refine Run.q (e := vIv) (gv := vIv) (ok_spec_MulI _ _) fun r13 _ => ?_
      refine Run.q (e := vIv) (gv := vIv) (ok_spec_DivI _ _) fun r14 _ => ?_
      exact Run.x 0
    · refine Run.q (e := vIv) (gv := vIv) (ok_spec_CosI _) fun r15 _ => ?_
      refine Run.q (e := vIv) (gv := vIv) (ok_spec_DivI _ _) fun r16 _ => ?_
      refine Run.q (e := vIv) (gv := vIv) (ok_spec_AddI _ _) fun r17 _ => ?_
      exact Run.x 0

theorem ok_spec_LatOf (a0 : Pt) : Fun Tryz.prog 42 [] #[vPt a0] (vIv (F_spec_LatOf a0)) [] := by
  refine Fun.ofH 400 E_ok mixed Tryz.func42 (by kernel_rfl) (by kernel_rfl) ?_
  unfold F_spec_LatOf
  refine Run.q (e := vB) (gv := vIv) (ok_spec_l11Ok _) fun r1 _ => ?_
  refine Run.y (gv := vIv) (fun _ => ?_) (fun _ => ?_)
  · refine Run.q (e := vIv) (gv := vIv) (ok_spec_Whole) fun r2 _ => ?_
    exact Run.x 0
  · refine Run.q (e := vIv) (gv := vIv) (ok_spec_RadiansOf _) fun r3 _ => ?_
    exact Run.x 0

theorem ok_spec_l19Radius (a0 : I64) (a1 : Iv) (a2 : Iv) (a3 : Iv) : Fun Tryz.prog 41 [] #[vI a0, vIv a1, vIv a2, vIv a3] (vIv (F_spec_l19Radius a0 a1 a2 a3)) [] := by
  refine Fun.ofH 400 E_ok mixed Tryz.func41 (by kernel_rfl) (by kernel_rfl) ?_
  unfold F_spec_l19Radius
  refine Run.y (gv := vIv) (fun _ => ?_) (fun _ => ?_)
  · refine Run.q (e := vIv) (gv := vIv) (ok_spec_Integer _) fun r1 _ => ?_
    refine Run.q (e := vIv) (gv := vIv) (ok_spec_MulI _ _) fun r2 _ => ?_
    refine Run.q (e := vIv) (gv := vIv) (ok_spec_SinI _) fun r3 _ => ?_
    refine Run.q (e := vIv) (gv := vIv) (ok_spec_MulI _ _) fun r4 _ => ?_
    refine Run.q (e := vIv) (gv := vIv) (ok_spec_SubI _ _) fun r5 _ => ?_
    refine Run.q (e := vIv) (gv := vIv) (ok_spec_SqrtI _) fun r6 _ => ?_
    refine Run.q (e := vIv) (gv := vIv) (ok_spec_DivI _ _) fun r7 _ => ?_
    exact Run.x 0
  · refine Run.y (gv := vIv) (fun _ => ?_) (fun _ => ?_)
    · refine Run.q (e := vIv) (gv := vIv) (ok_spec_l19Iso _) fun r8 _ => ?_
      refine Run.q (e := vIv) (gv := vIv) (ok_spec_MulI _ _) fun r9 _ => ?_
      refine Run.q (e := vIv) (gv := vIv) (ok_spec_NegI _) fun r10 _ => ?_
      refine Run.q (e := vIv) (gv := vIv) (ok_spec_ExpI _) fun r11 _ => ?_
      refine Run.q (e := vIv) (gv := vIv) (ok_spec_MulI _ _) fun r12 _ => ?_
      exact Run.x 0
    · refine Run.q (e := vIv) (gv := vIv) (ok_spec_SubI _ _) fun r13 _ => ?_
      exact Run.x 0

theorem ok_spec_l17Lon (a0 : Pj) (a1 : Pt) : Fun Tryz.prog 45 [] #[vPj a0, vPt a1] (vIv (F_spec_l17Lon a0 a1)) [] := by
  refine Fun.ofH 400 E_ok mixed Tryz.func45 (by kernel_rfl) (by kernel_rfl) ?_
  unfold F_spec_l17Lon
  refine Run.q (e := vI) (gv := vIv) (ok_spec_l11Wrap _) fun r1 _ => ?_
  refine Run.q (e := vIv) (gv := vIv) (ok_spec_RadiansOf _) fun r2 _ => ?_
  exact Run.x 0

theorem ok_spec_l17End (a0 : Iv) (a1 : Iv) : Fun Tryz.prog 46 [] #[vIv a0, vIv a1] (vT_Pn_I (F_spec_l17End a0 a1)) [] := by
  refine Fun.ofH 400 E_ok mixed Tryz.func46 (by kernel_rfl) (by kernel_rfl) ?_
  unfold F_spec_l17End
  refine Run.q (e := vB) (gv := vT_Pn_I) (ok_spec_l04Ok _) fun r1 _ => ?_
  refine Run.y (gv := vT_Pn_I) (fun _ => ?_) (fun _ => ?_)
  · refine Run.z [true, true, true, true] ?_
    exact Run.x 0
  · refine Run.z [false] ?_
    refine Run.q (e := vB) (gv := vT_Pn_I) (ok_spec_l04Ok _) fun r2 _ => ?_
    refine Run.z [false, false] ?_
    refine Run.y (gv := vT_Pn_I) (fun _ => ?_) (fun _ => ?_)
    · exact Run.x 0
    · exact Run.x 0

theorem ok_spec_ConicForward (a0 : Pj) (a1 : Pt) : Fun Tryz.prog 13 [] #[vPj a0, vPt a1] (vT_Pn_I (F_spec_ConicForward a0 a1)) [] := by
  refine Fun.ofH 400 E_ok mixed Tryz.func13 (by kernel_rfl) (by kernel_rfl) ?_
  unfold F_spec_ConicForward
  refine Run.q (e := vB) (gv := vT_Pn_I) (ok_spec_l19Ok _) fun r1 _ => ?_
  refine Run.y (gv := vT_Pn_I) (fun _ => ?_) (fun _ => ?_)
  · refine Run.z [true, true, true, true] ?_
    exact Run.x 0
  · refine Run.z [false] ?_
    refine Run.q (e := vB) (gv := vT_Pn_I) (ok_spec_l11Ok _) fun r2 _ => ?_
    refine Run.z [false, false] ?_
    refine Run.y (gv := vT_Pn_I) (fun _ => ?_) (fun _ => ?_)
    · exact Run.x 0
    · refine Run.y (gv := vT_Pn_I) (fun _ => ?_) (fun _ => ?_)
      · refine Run.z [true] ?_
        refine Run.q (e := vB) (gv := vT_Pn_I) (ok_spec_l11Pole _) fun r3 _ => ?_
        refine Run.z [true] ?_
        refine Run.y (gv := vT_Pn_I) (fun _ => ?_) (fun _ => ?_)
        · exact Run.x 0
        · refine Run.q (e := vIv) (gv := vT_Pn_I) (ok_spec_l19Cone _) fun r4 _ => ?_
          refine Run.q (e := vIv) (gv := vT_Pn_I) (ok_spec_l19Constant _ _) fun r5 _ => ?_
          refine Run.q (e := vIv) (gv := vT_Pn_I) (ok_spec_LatOf _) fun r6 _ => ?_
          refine Run.q (e := vIv) (gv := vT_Pn_I) (ok_spec_l19Radius _ _ _ _) fun r7 _ => ?_
          refine Run.q (e := vIv) (gv := vT_Pn_I) (ok_spec_RadiansOf _) fun r8 _ => ?_
          refine Run.q (e := vIv) (gv := vT_Pn_I) (ok_spec_l19Radius _ _ _ _) fun r9 _ => ?_
          refine Run.q (e := vIv) (gv := vT_Pn_I) (ok_spec_l17Lon _ _) fun r10 _ => ?_
          refine Run.q (e := vIv) (gv := vT_Pn_I) (ok_spec_MulI _ _) fun r11 _ => ?_
          refine Run.q (e := vIv) (gv := vT_Pn_I) (ok_spec_SinI _) fun r12 _ => ?_
          refine Run.q (e := vIv) (gv := vT_Pn_I) (ok_spec_MulI _ _) fun r13 _ => ?_
          refine Run.q (e := vIv) (gv := vT_Pn_I) (ok_spec_CosI _) fun r14 _ => ?_
          refine Run.q (e := vIv) (gv := vT_Pn_I) (ok_spec_MulI _ _) fun r15 _ => ?_
          refine Run.q (e := vIv) (gv := vT_Pn_I) (ok_spec_SubI _ _) fun r16 _ => ?_
          refine Run.q (e := vT_Pn_I) (gv := vT_Pn_I) (ok_spec_l17End _ _) fun r17 _ => ?_
          exact Run.x 0
      · refine Run.z [false, false, false] ?_
        refine Run.q (e := vIv) (gv := vT_Pn_I) (ok_spec_l19Cone _) fun r18 _ => ?_
        refine Run.q (e := vIv) (gv := vT_Pn_I) (ok_spec_l19Constant _ _) fun r19 _ => ?_
        refine Run.q (e := vIv) (gv := vT_Pn_I) (ok_spec_LatOf _) fun r20 _ => ?_
        refine Run.q (e := vIv) (gv := vT_Pn_I) (ok_spec_l19Radius _ _ _ _) fun r21 _ => ?_
        refine Run.q (e := vIv) (gv := vT_Pn_I) (ok_spec_RadiansOf _) fun r22 _ => ?_
        refine Run.q (e := vIv) (gv := vT_Pn_I) (ok_spec_l19Radius _ _ _ _) fun r23 _ => ?_
        refine Run.q (e := vIv) (gv := vT_Pn_I) (ok_spec_l17Lon _ _) fun r24 _ => ?_
        refine Run.q (e := vIv) (gv := vT_Pn_I) (ok_spec_MulI _ _) fun r25 _ => ?_
        refine Run.q (e := vIv) (gv := vT_Pn_I) (ok_spec_SinI _) fun r26 _ => ?_
        refine Run.q (e := vIv) (gv := vT_Pn_I) (ok_spec_MulI _ _) fun r27 _ => ?_
        refine Run.q (e := vIv) (gv := vT_Pn_I) (ok_spec_CosI _) fun r28 _ => ?_
        refine Run.q (e := vIv) (gv := vT_Pn_I) (ok_spec_MulI _ _) fun r29 _ => ?_
        refine Run.q (e := vIv) (gv := vT_Pn_I) (ok_spec_SubI _ _) fun r30 _ => ?_
        refine Run.q (e := vT_Pn_I) (gv := vT_Pn_I) (ok_spec_l17End _ _) fun r31 _ => ?_
        exact Run.x 0

theorem ok_impl_SinAt (a0 : I64) : Fun Tryz.prog 352 [] #[vI a0] (vIv (F_impl_SinAt a0)) [] := by
  refine Fun.ofH 400 E_ok mixed Tryz.func352 (by kernel_rfl) (by kernel_rfl) ?_
  unfold F_impl_SinAt
  refine Run.q (e := vIv) (gv := vIv) (ok_impl_circleValue _ _) fun r1 _ => ?_
  exact Run.x 0

theorem ok_impl_CosAt (a0 : I64) : Fun Tryz.prog 353 [] #[vI a0] (vIv (F_impl_CosAt a0)) [] := by
  refine Fun.ofH 400 E_ok mixed Tryz.func353 (by kernel_rfl) (by kernel_rfl) ?_
  unfold F_impl_CosAt
  refine Run.q (e := vIv) (gv := vIv) (ok_impl_circleValue _ _) fun r1 _ => ?_
  exact Run.x 0

end Go.Proofs.YtclbkeejhnmeoaaGreat.Abs
