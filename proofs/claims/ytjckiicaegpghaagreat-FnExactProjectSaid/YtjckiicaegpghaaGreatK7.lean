/- The program's functions are these; part 7 (written by w.py). -/
import Derived.Test.YtjckiicaegpghaaGreatE
import Derived.Test.YtjckiicaegpghaaGreatF6
import Derived.Test.YtjckiicaegpghaaGreatQpre
import Derived.Test.YtjckiicaegpghaaGreatK5
import Derived.Test.YtjckiicaegpghaaGreatK6
set_option linter.unusedVariables false
set_option linter.unusedSimpArgs false
namespace Go.Proofs.YtjckiicaegpghaaGreat.Abs
open Go Go.RowKit

theorem ok_impl_widened (a0 : Iv) (a1 : I64) : Fun Tryz.prog 319 [] #[vIv a0, vI a1] (vIv (F_impl_widened a0 a1)) [] := by
  refine Fun.ofH 400 E_ok mixed Tryz.func319 (by kernel_rfl) (by kernel_rfl) ?_
  unfold F_impl_widened
  refine Run.q (e := vB) (gv := vIv) (ok_impl_ValidInterval _) fun r1 _ => ?_
  refine Run.q (e := vIv) (gv := vIv) (ok_impl_bounded _ _ _) fun r2 _ => ?_
  exact Run.x 0

theorem ok_impl_LogAt (a0 : I64) : Fun Tryz.prog 236 [] #[vI a0] (vIv (F_impl_LogAt a0)) [] := by
  refine Fun.ofH 400 E_ok mixed Tryz.func236 (by kernel_rfl) (by kernel_rfl) ?_
  unfold F_impl_LogAt
  refine Run.q (e := vB) (gv := vIv) (ok_impl_ValidFix _) fun r1 hr1 => ?_
  refine Run.y (gv := vIv) (fun h2 => ?_) (fun h2 => ?_)
  · refine Run.z [true, true, true] ?_
    refine Run.q (e := vIv) (gv := vIv) (ok_impl_Whole) fun r3 hr3 => ?_
    exact Run.x 0
  · refine Run.z [false, false] ?_
    refine Run.y (gv := vIv) (fun h4 => ?_) (fun h4 => ?_)
    · refine Run.q (e := vIv) (gv := vIv) (ok_impl_Whole) fun r5 hr5 => ?_
      exact Run.x 0
    · refine Run.q (e := vI) (gv := vIv) (ok_impl_twosOf _ (by first | (have z := validfix_p hr1 h2; simp only [decide_eq_false_iff_not] at h4; omega) | (simp only [decide_eq_true_eq] at h8 ⊢; omega) | (have z := twosOf_b a0; rw [← hr6] at z; simp only [decide_eq_false_iff_not] at h8; simp only [w64_val, decide_eq_true_eq]; omega)) (by first | (have z := validfix_p hr1 h2; simp only [decide_eq_false_iff_not] at h4; omega) | (simp only [decide_eq_true_eq] at h8 ⊢; omega) | (have z := twosOf_b a0; rw [← hr6] at z; simp only [decide_eq_false_iff_not] at h8; simp only [w64_val, decide_eq_true_eq]; omega))) fun r6 hr6 => ?_
      refine Run.q (e := vIv) (gv := vIv) (ok_impl_at _) fun r7 hr7 => ?_
      refine Run.y (gv := vIv) (fun h8 => ?_) (fun h8 => ?_)
      · refine Run.k (c := (decide (0 ≤ r6.val))) (by kernel_rfl) (by first | (have z := validfix_p hr1 h2; simp only [decide_eq_false_iff_not] at h4; omega) | (simp only [decide_eq_true_eq] at h8 ⊢; omega) | (have z := twosOf_b a0; rw [← hr6] at z; simp only [decide_eq_false_iff_not] at h8; simp only [w64_val, decide_eq_true_eq]; omega)) ?_
        refine Run.k (c := (decide (0 ≤ r6.val))) (by kernel_rfl) (by first | (have z := validfix_p hr1 h2; simp only [decide_eq_false_iff_not] at h4; omega) | (simp only [decide_eq_true_eq] at h8 ⊢; omega) | (have z := twosOf_b a0; rw [← hr6] at z; simp only [decide_eq_false_iff_not] at h8; simp only [w64_val, decide_eq_true_eq]; omega)) ?_
        refine Run.q (e := vIv) (gv := vIv) (ok_impl_Integer _) fun r9 hr9 => ?_
        refine Run.q (e := vIv) (gv := vIv) (ok_impl_SubI _ _) fun r10 hr10 => ?_
        refine Run.q (e := vIv) (gv := vIv) (ok_impl_Integer _) fun r11 hr11 => ?_
        refine Run.q (e := vIv) (gv := vIv) (ok_impl_AddI _ _) fun r12 hr12 => ?_
        refine Run.q (e := vIv) (gv := vIv) (ok_impl_DivI _ _) fun r13 hr13 => ?_
        refine Run.q (e := vIv) (gv := vIv) (ok_impl_SqrI _) fun r14 hr14 => ?_
        refine Run.q (e := vIv) (gv := vIv) (ok_impl_Quotient _ _) fun r15 hr15 => ?_
        refine Run.u 400 E_ok mixed Tryz.func236 ?_
        refine Run.z [true] ?_
        refine Run.q (e := vIv) (gv := vIv) (ok_impl_Quotient _ _) fun r16 hr16 => ?_
        refine Run.q (e := vIv) (gv := vIv) (ok_impl_MulI _ _) fun r17 hr17 => ?_
        refine Run.q (e := vIv) (gv := vIv) (ok_impl_AddI _ _) fun r18 hr18 => ?_
        refine Run.u 400 E_ok mixed Tryz.func236 ?_
        refine Run.z [true] ?_
        refine Run.q (e := vIv) (gv := vIv) (ok_impl_Quotient _ _) fun r19 hr19 => ?_
        refine Run.q (e := vIv) (gv := vIv) (ok_impl_MulI _ _) fun r20 hr20 => ?_
        refine Run.q (e := vIv) (gv := vIv) (ok_impl_AddI _ _) fun r21 hr21 => ?_
        refine Run.u 400 E_ok mixed Tryz.func236 ?_
        refine Run.z [true] ?_
        refine Run.q (e := vIv) (gv := vIv) (ok_impl_Quotient _ _) fun r22 hr22 => ?_
        refine Run.q (e := vIv) (gv := vIv) (ok_impl_MulI _ _) fun r23 hr23 => ?_
        refine Run.q (e := vIv) (gv := vIv) (ok_impl_AddI _ _) fun r24 hr24 => ?_
        refine Run.u 400 E_ok mixed Tryz.func236 ?_
        refine Run.z [true] ?_
        refine Run.q (e := vIv) (gv := vIv) (ok_impl_Quotient _ _) fun r25 hr25 => ?_
        refine Run.q (e := vIv) (gv := vIv) (ok_impl_MulI _ _) fun r26 hr26 => ?_
        refine Run.q (e := vIv) (gv := vIv) (ok_impl_AddI _ _) fun r27 hr27 => ?_
        refine Run.u 400 E_ok mixed Tryz.func236 ?_
        refine Run.z [true] ?_
        refine Run.q (e := vIv) (gv := vIv) (ok_impl_Quotient _ _) fun r28 hr28 => ?_
        refine Run.q (e := vIv) (gv := vIv) (ok_impl_MulI _ _) fun r29 hr29 => ?_
        refine Run.q (e := vIv) (gv := vIv) (ok_impl_AddI _ _) fun r30 hr30 => ?_
        refine Run.u 400 E_ok mixed Tryz.func236 ?_
        refine Run.z [false] ?_
        refine Run.q (e := vIv) (gv := vIv) (ok_impl_LogTwoI _) fun r31 hr31 => ?_
        refine Run.q (e := vIv) (gv := vIv) (ok_impl_Integer _) fun r32 hr32 => ?_
        refine Run.q (e := vIv) (gv := vIv) (ok_impl_MulI _ _) fun r33 hr33 => ?_
        refine Run.q (e := vIv) (gv := vIv) (ok_impl_MulI _ _) fun r34 hr34 => ?_
        refine Run.q (e := vIv) (gv := vIv) (ok_impl_widened _ _) fun r35 hr35 => ?_
        refine Run.q (e := vIv) (gv := vIv) (ok_impl_AddI _ _) fun r36 hr36 => ?_
        exact Run.x 0
      · refine Run.k (c := (decide (0 ≤ (w64 (0 - r6.val)).val))) (by kernel_rfl) (by first | (have z := validfix_p hr1 h2; simp only [decide_eq_false_iff_not] at h4; omega) | (simp only [decide_eq_true_eq] at h8 ⊢; omega) | (have z := twosOf_b a0; rw [← hr6] at z; simp only [decide_eq_false_iff_not] at h8; simp only [w64_val, decide_eq_true_eq]; omega)) ?_
        refine Run.q (e := vIv) (gv := vIv) (ok_impl_at _) fun r37 hr37 => ?_
        refine Run.q (e := vIv) (gv := vIv) (ok_impl_Integer _) fun r38 hr38 => ?_
        refine Run.q (e := vIv) (gv := vIv) (ok_impl_SubI _ _) fun r39 hr39 => ?_
        refine Run.q (e := vIv) (gv := vIv) (ok_impl_Integer _) fun r40 hr40 => ?_
        refine Run.q (e := vIv) (gv := vIv) (ok_impl_AddI _ _) fun r41 hr41 => ?_
        refine Run.q (e := vIv) (gv := vIv) (ok_impl_DivI _ _) fun r42 hr42 => ?_
        refine Run.q (e := vIv) (gv := vIv) (ok_impl_SqrI _) fun r43 hr43 => ?_
        refine Run.q (e := vIv) (gv := vIv) (ok_impl_Quotient _ _) fun r44 hr44 => ?_
        refine Run.u 400 E_ok mixed Tryz.func236 ?_
        refine Run.z [true] ?_
        refine Run.q (e := vIv) (gv := vIv) (ok_impl_Quotient _ _) fun r45 hr45 => ?_
        refine Run.q (e := vIv) (gv := vIv) (ok_impl_MulI _ _) fun r46 hr46 => ?_
        refine Run.q (e := vIv) (gv := vIv) (ok_impl_AddI _ _) fun r47 hr47 => ?_
        refine Run.u 400 E_ok mixed Tryz.func236 ?_
        refine Run.z [true] ?_
        refine Run.q (e := vIv) (gv := vIv) (ok_impl_Quotient _ _) fun r48 hr48 => ?_
        refine Run.q (e := vIv) (gv := vIv) (ok_impl_MulI _ _) fun r49 hr49 => ?_
        refine Run.q (e := vIv) (gv := vIv) (ok_impl_AddI _ _) fun r50 hr50 => ?_
        refine Run.u 400 E_ok mixed Tryz.func236 ?_
        refine Run.z [true] ?_
        refine Run.q (e := vIv) (gv := vIv) (ok_impl_Quotient _ _) fun r51 hr51 => ?_
        refine Run.q (e := vIv) (gv := vIv) (ok_impl_MulI _ _) fun r52 hr52 => ?_
        refine Run.q (e := vIv) (gv := vIv) (ok_impl_AddI _ _) fun r53 hr53 => ?_
        refine Run.u 400 E_ok mixed Tryz.func236 ?_
        refine Run.z [true] ?_
        refine Run.q (e := vIv) (gv := vIv) (ok_impl_Quotient _ _) fun r54 hr54 => ?_
        refine Run.q (e := vIv) (gv := vIv) (ok_impl_MulI _ _) fun r55 hr55 => ?_
        refine Run.q (e := vIv) (gv := vIv) (ok_impl_AddI _ _) fun r56 hr56 => ?_
        refine Run.u 400 E_ok mixed Tryz.func236 ?_
        refine Run.z [true] ?_
        refine Run.q (e := vIv) (gv := vIv) (ok_impl_Quotient _ _) fun r57 hr57 => ?_
        refine Run.q (e := vIv) (gv := vIv) (ok_impl_MulI _ _) fun r58 hr58 => ?_
        refine Run.q (e := vIv) (gv := vIv) (ok_impl_AddI _ _) fun r59 hr59 => ?_
        refine Run.u 400 E_ok mixed Tryz.func236 ?_
        refine Run.z [false] ?_
        refine Run.q (e := vIv) (gv := vIv) (ok_impl_LogTwoI _) fun r60 hr60 => ?_
        refine Run.q (e := vIv) (gv := vIv) (ok_impl_Integer _) fun r61 hr61 => ?_
        refine Run.q (e := vIv) (gv := vIv) (ok_impl_MulI _ _) fun r62 hr62 => ?_
        refine Run.q (e := vIv) (gv := vIv) (ok_impl_MulI _ _) fun r63 hr63 => ?_
        refine Run.q (e := vIv) (gv := vIv) (ok_impl_widened _ _) fun r64 hr64 => ?_
        refine Run.q (e := vIv) (gv := vIv) (ok_impl_AddI _ _) fun r65 hr65 => ?_
        exact Run.x 0

theorem ok_impl_monotonic__impl_LogAt (a0 : Iv) : Fun Tryz.prog 231 [] #[vIv a0, .func (.func 236) #[] #[]] (vIv (F_impl_monotonic__impl_LogAt a0)) [] := by
  refine Fun.ofH 400 E_ok mixed Tryz.func231 (by kernel_rfl) (by kernel_rfl) ?_
  unfold F_impl_monotonic__impl_LogAt
  refine Run.q (e := vB) (gv := vIv) (ok_impl_IsWhole _) fun r1 _ => ?_
  refine Run.y (gv := vIv) (fun _ => ?_) (fun _ => ?_)
  · refine Run.q (e := vIv) (gv := vIv) (ok_impl_Whole) fun r2 _ => ?_
    exact Run.x 0
  · refine Run.q (e := vIv) (gv := vIv) (ok_impl_LogAt _) fun r3 _ => ?_
    refine Run.q (e := vIv) (gv := vIv) (ok_impl_LogAt _) fun r4 _ => ?_
    refine Run.q (e := vB) (gv := vIv) (ok_impl_areBounded _ _) fun r5 _ => ?_
    refine Run.y (gv := vIv) (fun _ => ?_) (fun _ => ?_)
    · refine Run.q (e := vIv) (gv := vIv) (ok_impl_Whole) fun r6 _ => ?_
      exact Run.x 0
    · refine Run.q (e := vIv) (gv := vIv) (ok_impl_bounded _ _ _) fun r7 _ => ?_
      exact Run.x 0

theorem ok_impl_LogI (a0 : Iv) : Fun Tryz.prog 234 [] #[vIv a0] (vIv (F_impl_LogI a0)) [] := by
  refine Fun.ofH 400 E_ok mixed Tryz.func234 (by kernel_rfl) (by kernel_rfl) ?_
  unfold F_impl_LogI
  refine Run.q (e := vIv) (gv := vIv) (ok_impl_monotonic__impl_LogAt _) fun r1 _ => ?_
  exact Run.x 0

theorem ok_impl_SinAt (a0 : I64) : Fun Tryz.prog 239 [] #[vI a0] (vIv (F_impl_SinAt a0)) [] := by
  refine Fun.ofH 400 E_ok mixed Tryz.func239 (by kernel_rfl) (by kernel_rfl) ?_
  unfold F_impl_SinAt
  refine Run.q (e := vIv) (gv := vIv) (ok_impl_circleValue _ _) fun r1 _ => ?_
  exact Run.x 0

theorem ok_impl_CosAt (a0 : I64) : Fun Tryz.prog 240 [] #[vI a0] (vIv (F_impl_CosAt a0)) [] := by
  refine Fun.ofH 400 E_ok mixed Tryz.func240 (by kernel_rfl) (by kernel_rfl) ?_
  unfold F_impl_CosAt
  refine Run.q (e := vIv) (gv := vIv) (ok_impl_circleValue _ _) fun r1 _ => ?_
  exact Run.x 0

theorem ok_impl_TanI_L0 : ∀ (fu : Nat) (cp_r4 : Nat) (pd_r4 : List Value) (r4 : List I64) (a0 : Iv) (x_12 : I64) (y_1 : Iv) (q0 : 0 ≤ x_12.val) (q1 : ((r4.length : Nat) : Int) ≤ 4000) (hm : (((r4.length : Nat) : Int) - x_12.val).toNat < fu) (t : Array Value) (ht : maskA t [0, 3, 4, 5, 6, 7, 8, 9, 13, 14, 15, 16, 17, 18, 19, 20, 21, 22, 23, 24, 25, 26, 27, 28, 29, 30, 31, 32, 33, 34, 35] = #[undef, .pointer (some ⟨0, 0, none⟩), .pointer (some ⟨1, 0, none⟩), undef, undef, undef, undef, undef, undef, undef, .slice (some ⟨2, 0, some 0⟩) r4.length cp_r4, .int .i64 (((r4.length : Nat) : Int)), .int .i64 x_12.val, undef, undef, undef, undef, undef, undef, undef, undef, undef, undef, undef, undef, undef, undef, undef, undef, undef, undef, undef, undef, undef, undef, undef]), Cfg Tryz.prog 130 (loopAt Tryz.f130 0) t [(#[.int .i64 a0.lo.val, .int .i64 a0.hi.val], 27), (#[.int .i64 y_1.lo.val, .int .i64 y_1.hi.val], 27), (rowOf r4 pd_r4, 2)] (RvH [] (vIv (F_impl_TanI_L0 fu r4 a0 x_12 y_1))) := by
  intro fu
  induction fu with
  | zero => intro cp_r4 pd_r4 r4 a0 x_12 y_1 q0 q1 hm; exact absurd hm (Nat.not_lt_zero _)
  | succ fu ih =>
    intro cp_r4 pd_r4 r4 a0 x_12 y_1 q0 q1 hm t ht
    refine Cfg.round E_ok mixed Tryz.func130 ht fun g => ?_
    unfold F_impl_TanI_L0
    refine Run.y (gv := vIv) (fun h5 => ?_) (fun h5 => ?_)
    · refine Run.k (c := (decide (0 ≤ x_12.val ∧ x_12.val < ((r4.length : Nat) : Int)))) (by kernel_rfl) (by simp only [w64_val, wu64_val, c64_val, cu64_val, decide_eq_true_eq, decide_eq_false_iff_not, cond_true, cond_false] at *; omega) ?_
      refine Run.ld (by kernel_rfl) (listAt_ok (L := r4) (pad := pd_r4) (i := x_12) (by simp only [w64_val, wu64_val, c64_val, cu64_val, decide_eq_true_eq, decide_eq_false_iff_not, cond_true, cond_false] at *; omega)) ?_
      refine Run.y (gv := vIv) (fun h6 => ?_) (fun h6 => ?_)
      · refine Run.q (e := vIv) (gv := vIv) (ok_impl_Whole) fun r7 hr7 => ?_
        exact Run.x 0
      · exact Run.l (by kernel_rfl) (by kernel_rfl) (by kernel_rfl) (by kernel_rfl) (ih cp_r4 pd_r4 r4 a0 (w64 (x_12.val + 1)) y_1 (by first | omega | (simp only [w64_val, wu64_val, c64_val, cu64_val, decide_eq_true_eq, decide_eq_false_iff_not, cond_true, cond_false] at *; omega)) (by first | omega | (simp only [w64_val, wu64_val, c64_val, cu64_val, decide_eq_true_eq, decide_eq_false_iff_not, cond_true, cond_false] at *; omega)) (by first | omega | (simp only [w64_val, wu64_val, c64_val, cu64_val, decide_eq_true_eq, decide_eq_false_iff_not, cond_true, cond_false] at *; omega)))
    · refine Run.q (e := vIv) (gv := vIv) (ok_impl_SinAt _) fun r8 hr8 => ?_
      refine Run.q (e := vIv) (gv := vIv) (ok_impl_CosAt _) fun r9 hr9 => ?_
      refine Run.q (e := vIv) (gv := vIv) (ok_impl_DivI _ _) fun r10 hr10 => ?_
      refine Run.q (e := vIv) (gv := vIv) (ok_impl_SinAt _) fun r11 hr11 => ?_
      refine Run.q (e := vIv) (gv := vIv) (ok_impl_CosAt _) fun r12 hr12 => ?_
      refine Run.q (e := vIv) (gv := vIv) (ok_impl_DivI _ _) fun r13 hr13 => ?_
      refine Run.q (e := vIv) (gv := vIv) (ok_impl_HullI _ _) fun r14 hr14 => ?_
      exact Run.x 0

theorem ok_impl_TanI (a0 : Iv) : Fun Tryz.prog 130 [] #[vIv a0] (vIv (F_impl_TanI a0)) [] := by
  refine Fun.ofH 400 E_ok mixed Tryz.func130 (by kernel_rfl) (by kernel_rfl) ?_
  unfold F_impl_TanI
  refine Run.q (e := vB) (gv := vIv) (ok_impl_areAngles _) fun r1 hr1 => ?_
  refine Run.y (gv := vIv) (fun h2 => ?_) (fun h2 => ?_)
  · refine Run.q (e := vIv) (gv := vIv) (ok_impl_Whole) fun r3 hr3 => ?_
    exact Run.x 0
  · refine Run.bl (gv := vIv) (by kernel_rfl) (by kernel_rfl) (ok_impl_turnsIn _) (by kernel_rfl) (fun r4 hr4 nr4 => ?_) (fun r4 hr4 cp_r4 pd_r4 => ?_)
    · subst nr4
      have e0 : F_impl_TanI_L0 (((([] : List I64).length : Nat) : Int).toNat + 1) ([] : List I64) a0 (c64 0) (⟨(c64 0), (c64 0)⟩ : Iv) = bindP (F_impl_SinAt a0.lo) fun r15 => bindP (F_impl_CosAt a0.lo) fun r16 => bindP (F_impl_DivI r15 r16) fun r17 => bindP (F_impl_SinAt a0.hi) fun r18 => bindP (F_impl_CosAt a0.hi) fun r19 => bindP (F_impl_DivI r18 r19) fun r20 => bindP (F_impl_HullI r17 r20) fun r21 => r21 := by rw [F_impl_TanI_L0]; exact cond_false _ _
      show Run _ _ (RvH [] (vIv (F_impl_TanI_L0 (((([] : List I64).length : Nat) : Int).toNat + 1) ([] : List I64) a0 (c64 0) (⟨(c64 0), (c64 0)⟩ : Iv)))) _
      rw [e0]
      refine Run.u 400 E_ok mixed Tryz.func130 ?_
      refine Run.z [false] ?_
      refine Run.q (e := vIv) (gv := vIv) (ok_impl_SinAt _) fun r15 hr15 => ?_
      refine Run.q (e := vIv) (gv := vIv) (ok_impl_CosAt _) fun r16 hr16 => ?_
      refine Run.q (e := vIv) (gv := vIv) (ok_impl_DivI _ _) fun r17 hr17 => ?_
      refine Run.q (e := vIv) (gv := vIv) (ok_impl_SinAt _) fun r18 hr18 => ?_
      refine Run.q (e := vIv) (gv := vIv) (ok_impl_CosAt _) fun r19 hr19 => ?_
      refine Run.q (e := vIv) (gv := vIv) (ok_impl_DivI _ _) fun r20 hr20 => ?_
      refine Run.q (e := vIv) (gv := vIv) (ok_impl_HullI _ _) fun r21 hr21 => ?_
      exact Run.x 0
    · have hl_r4 : ((r4.length : Nat) : Int) ≤ 4000 := by rw [hr4]; exact Int.ofNat_le.2 (len_impl_turnsIn _)
      exact Run.l (by kernel_rfl) (by kernel_rfl) (by kernel_rfl) (by kernel_rfl) (ok_impl_TanI_L0 (((r4.length : Nat) : Int).toNat + 1) cp_r4 pd_r4 r4 a0 (c64 0) (⟨(c64 0), (c64 0)⟩ : Iv) (by first | omega | (simp only [w64_val, wu64_val, c64_val, cu64_val, decide_eq_true_eq, decide_eq_false_iff_not, cond_true, cond_false] at *; omega)) (by first | omega | (simp only [w64_val, wu64_val, c64_val, cu64_val, decide_eq_true_eq, decide_eq_false_iff_not, cond_true, cond_false] at *; omega)) (by first | omega | (simp only [w64_val, wu64_val, c64_val, cu64_val, decide_eq_true_eq, decide_eq_false_iff_not, cond_true, cond_false] at *; omega)))

theorem ok_impl_odd (g : FuncId) : Fun Tryz.prog 232 [] #[.func (.func g) #[] #[]] (.func (.func 317) #[] #[.pointer (some ⟨0, 0, none⟩)]) [(#[.func (.func g) #[] #[]], 53)] := by
  refine FunR.fo rfl (FunR.of 400 E_ok mixed Tryz.func232 (by kernel_rfl) ?_)
  exact Run.r (by kernel_rfl) ⟨0, rfl, by kernel_rfl⟩

theorem ok_impl_AsinhI_1 (a0 : I64) : Fun Tryz.prog 233 [] #[vI a0] (vIv (F_impl_AsinhI_1 a0)) [] := by
  refine Fun.ofH 400 E_ok mixed Tryz.func233 (by kernel_rfl) (by kernel_rfl) ?_
  unfold F_impl_AsinhI_1
  refine Run.y (gv := vIv) (fun _ => ?_) (fun _ => ?_)
  · refine Run.q (e := vIv) (gv := vIv) (ok_impl_at _) fun r1 _ => ?_
    refine Run.q (e := vIv) (gv := vIv) (ok_impl_at _) fun r2 _ => ?_
    refine Run.q (e := vIv) (gv := vIv) (ok_impl_SqrI _) fun r3 _ => ?_
    refine Run.q (e := vIv) (gv := vIv) (ok_impl_Integer _) fun r4 _ => ?_
    refine Run.q (e := vIv) (gv := vIv) (ok_impl_AddI _ _) fun r5 _ => ?_
    refine Run.q (e := vIv) (gv := vIv) (ok_impl_SqrtI _) fun r6 _ => ?_
    refine Run.q (e := vIv) (gv := vIv) (ok_impl_AddI _ _) fun r7 _ => ?_
    refine Run.q (e := vIv) (gv := vIv) (ok_impl_LogI _) fun r8 _ => ?_
    exact Run.x 0
  · refine Run.q (e := vIv) (gv := vIv) (ok_impl_LogTwoI _) fun r9 _ => ?_
    refine Run.q (e := vIv) (gv := vIv) (ok_impl_LogAt _) fun r10 _ => ?_
    refine Run.q (e := vIv) (gv := vIv) (ok_impl_AddI _ _) fun r11 _ => ?_
    refine Run.q (e := vIv) (gv := vIv) (ok_impl_AddI _ _) fun r12 _ => ?_
    exact Run.x 0

theorem ok_impl_odd_1__p_impl_AsinhI_1 (a0 : I64) : Fun Tryz.prog 317 [(#[.func (.func 233) #[] #[]], 53)] #[vI a0, .pointer (some ⟨0, 0, none⟩)] (vIv (F_impl_odd_1__p_impl_AsinhI_1 a0)) [(#[.func (.func 233) #[] #[]], 53)] := by
  refine Fun.ofH 400 E_ok mixed Tryz.func317 (by kernel_rfl) (by kernel_rfl) ?_
  unfold F_impl_odd_1__p_impl_AsinhI_1
  refine Run.y (gv := vIv) (fun _ => ?_) (fun _ => ?_)
  · refine Run.q (e := vIv) (gv := vIv) (ok_impl_AsinhI_1 _) fun r1 _ => ?_
    refine Run.q (e := vIv) (gv := vIv) (ok_impl_NegI _) fun r2 _ => ?_
    exact Run.x 1
  · refine Run.q (e := vIv) (gv := vIv) (ok_impl_AsinhI_1 _) fun r3 _ => ?_
    exact Run.x 1

theorem ok_impl_monotonic__impl_odd_1_p_impl_AsinhI_1 (a0 : Iv) : Fun Tryz.prog 231 [(#[.func (.func 233) #[] #[]], 53)] #[vIv a0, .func (.func 317) #[] #[.pointer (some ⟨0, 0, none⟩)]] (vIv (F_impl_monotonic__impl_odd_1_p_impl_AsinhI_1 a0)) [(#[.func (.func 233) #[] #[]], 53)] := by
  refine Fun.ofH 400 E_ok mixed Tryz.func231 (by kernel_rfl) (by kernel_rfl) ?_
  unfold F_impl_monotonic__impl_odd_1_p_impl_AsinhI_1
  refine Run.q (e := vB) (gv := vIv) (ok_impl_IsWhole _) fun r1 _ => ?_
  refine Run.y (gv := vIv) (fun _ => ?_) (fun _ => ?_)
  · refine Run.q (e := vIv) (gv := vIv) (ok_impl_Whole) fun r2 _ => ?_
    exact Run.x 1
  · refine Run.w (e := vIv) (gv := vIv) [0] (ok_impl_odd_1__p_impl_AsinhI_1 _) fun r3 _ => ?_
    refine Run.w (e := vIv) (gv := vIv) [0] (ok_impl_odd_1__p_impl_AsinhI_1 _) fun r4 _ => ?_
    refine Run.q (e := vB) (gv := vIv) (ok_impl_areBounded _ _) fun r5 _ => ?_
    refine Run.y (gv := vIv) (fun _ => ?_) (fun _ => ?_)
    · refine Run.q (e := vIv) (gv := vIv) (ok_impl_Whole) fun r6 _ => ?_
      exact Run.x 1
    · refine Run.q (e := vIv) (gv := vIv) (ok_impl_bounded _ _ _) fun r7 _ => ?_
      exact Run.x 1

theorem ok_impl_AsinhI (a0 : Iv) : Fun Tryz.prog 129 [] #[vIv a0] (vIv (F_impl_AsinhI a0)) [] := by
  refine Fun.ofH 400 E_ok mixed Tryz.func129 (by kernel_rfl) (by kernel_rfl) ?_
  unfold F_impl_AsinhI
  refine Run.o (by kernel_rfl) ?_ ?_
  · refine Run.m (by kernel_rfl) (by kernel_rfl) (ok_impl_odd 233) (by kernel_rfl) (by kernel_rfl) (by kernel_rfl) ?_
    refine Run.w (e := vIv) (gv := vIv) [2] (ok_impl_monotonic__impl_odd_1_p_impl_AsinhI_1 _) fun r1 hr1 => ?_
    exact Run.x 0
  · refine Run.m (by kernel_rfl) (by kernel_rfl) (ok_impl_odd 233) (by kernel_rfl) (by kernel_rfl) (by kernel_rfl) ?_
    refine Run.w (e := vIv) (gv := vIv) [2] (ok_impl_monotonic__impl_odd_1_p_impl_AsinhI_1 _) fun r2 hr2 => ?_
    exact Run.x 0

theorem ok_impl_isometricSphere (a0 : Iv) : Fun Tryz.prog 247 [] #[vIv a0] (vIv (F_impl_isometricSphere a0)) [] := by
  refine Fun.ofH 400 E_ok mixed Tryz.func247 (by kernel_rfl) (by kernel_rfl) ?_
  unfold F_impl_isometricSphere
  refine Run.q (e := vIv) (gv := vIv) (ok_impl_TanI _) fun r1 _ => ?_
  refine Run.q (e := vIv) (gv := vIv) (ok_impl_AsinhI _) fun r2 _ => ?_
  exact Run.x 0

theorem ok_impl_conic_cone__pCn (b0 : Cn) : Fun Tryz.prog 244 [(#[.int .i64 b0.p.kind.val, .int .i64 b0.p.lat0.val, .int .i64 b0.p.lon0.val, .int .i64 b0.p.lat1.val, .int .i64 b0.p.lat2.val, .int .i64 b0.a.lo.val, .int .i64 b0.a.hi.val, .int .i64 b0.b.lo.val, .int .i64 b0.b.hi.val, .int .i64 b0.o.lo.val, .int .i64 b0.o.hi.val, .int .i64 b0.n.lo.val, .int .i64 b0.n.hi.val, .int .i64 b0.g.lo.val, .int .i64 b0.g.hi.val], 95)] #[.pointer (some ⟨0, 0, none⟩)] (vIv (F_impl_conic_cone__pCn b0)) [(#[.int .i64 b0.p.kind.val, .int .i64 b0.p.lat0.val, .int .i64 b0.p.lon0.val, .int .i64 b0.p.lat1.val, .int .i64 b0.p.lat2.val, .int .i64 b0.a.lo.val, .int .i64 b0.a.hi.val, .int .i64 b0.b.lo.val, .int .i64 b0.b.hi.val, .int .i64 b0.o.lo.val, .int .i64 b0.o.hi.val, .int .i64 b0.n.lo.val, .int .i64 b0.n.hi.val, .int .i64 b0.g.lo.val, .int .i64 b0.g.hi.val], 95)] := by
  refine Fun.ofH 400 E_ok mixed Tryz.func244 (by kernel_rfl) (by kernel_rfl) ?_
  unfold F_impl_conic_cone__pCn
  refine Run.y (gv := vIv) (fun _ => ?_) (fun _ => ?_)
  · refine Run.q (e := vIv) (gv := vIv) (ok_impl_SinI _) fun r1 _ => ?_
    refine Run.q (e := vIv) (gv := vIv) (ok_impl_SinI _) fun r2 _ => ?_
    refine Run.q (e := vIv) (gv := vIv) (ok_impl_AddI _ _) fun r3 _ => ?_
    refine Run.q (e := vIv) (gv := vIv) (ok_impl_HalfI _) fun r4 _ => ?_
    exact Run.x 1
  · refine Run.y (gv := vIv) (fun _ => ?_) (fun _ => ?_)
    · refine Run.q (e := vIv) (gv := vIv) (ok_impl_SinI _) fun r5 _ => ?_
      exact Run.x 1
    · refine Run.y (gv := vIv) (fun _ => ?_) (fun _ => ?_)
      · refine Run.q (e := vIv) (gv := vIv) (ok_impl_CosI _) fun r6 _ => ?_
        refine Run.q (e := vIv) (gv := vIv) (ok_impl_LogI _) fun r7 _ => ?_
        refine Run.q (e := vIv) (gv := vIv) (ok_impl_CosI _) fun r8 _ => ?_
        refine Run.q (e := vIv) (gv := vIv) (ok_impl_LogI _) fun r9 _ => ?_
        refine Run.q (e := vIv) (gv := vIv) (ok_impl_SubI _ _) fun r10 _ => ?_
        refine Run.q (e := vIv) (gv := vIv) (ok_impl_isometricSphere _) fun r11 _ => ?_
        refine Run.q (e := vIv) (gv := vIv) (ok_impl_isometricSphere _) fun r12 _ => ?_
        refine Run.q (e := vIv) (gv := vIv) (ok_impl_SubI _ _) fun r13 _ => ?_
        refine Run.q (e := vIv) (gv := vIv) (ok_impl_DivI _ _) fun r14 _ => ?_
        exact Run.x 1
      · refine Run.q (e := vIv) (gv := vIv) (ok_impl_CosI _) fun r15 _ => ?_
        refine Run.q (e := vIv) (gv := vIv) (ok_impl_CosI _) fun r16 _ => ?_
        refine Run.q (e := vIv) (gv := vIv) (ok_impl_SubI _ _) fun r17 _ => ?_
        refine Run.q (e := vIv) (gv := vIv) (ok_impl_SubI _ _) fun r18 _ => ?_
        refine Run.q (e := vIv) (gv := vIv) (ok_impl_DivI _ _) fun r19 _ => ?_
        exact Run.x 1

theorem ok_impl_times (a0 : I64) (a1 : Iv) : Fun Tryz.prog 42 [] #[vI a0, vIv a1] (vIv (F_impl_times a0 a1)) [] := by
  refine Fun.ofH 400 E_ok mixed Tryz.func42 (by kernel_rfl) (by kernel_rfl) ?_
  unfold F_impl_times
  refine Run.q (e := vIv) (gv := vIv) (ok_impl_Integer _) fun r1 _ => ?_
  refine Run.q (e := vIv) (gv := vIv) (ok_impl_MulI _ _) fun r2 _ => ?_
  exact Run.x 0

theorem ok_impl_scaled_L0 : ∀ (fu : Nat) (x_k : I64) (y_0 : Iv) (q0 : -100 ≤ x_k.val) (q1 : x_k.val ≤ 100) (hm : x_k.val.toNat < fu) (t : Array Value) (ht : maskA t [0, 3, 5, 6, 7, 8, 9, 10, 11, 12, 13, 14, 15, 16, 17, 18, 19, 20, 21, 22, 23, 24, 25, 26] = #[undef, .int .i64 x_k.val, .pointer (some ⟨0, 0, none⟩), undef, .pointer (some ⟨1, 0, none⟩), undef, undef, undef, undef, undef, undef, undef, undef, undef, undef, undef, undef, undef, undef, undef, undef, undef, undef, undef, undef, undef, undef]), Cfg Tryz.prog 337 (loopAt Tryz.f337 0) t [(#[.int .i64 y_0.lo.val, .int .i64 y_0.hi.val], 27), (#[.int .i64 0, .int .i64 0], 27)] (RvH [] (vIv (F_impl_scaled_L0 fu x_k y_0))) := by
  intro fu
  induction fu with
  | zero => intro x_k y_0 q0 q1 hm; exact absurd hm (Nat.not_lt_zero _)
  | succ fu ih =>
    intro x_k y_0 q0 q1 hm t ht
    refine Cfg.round E_ok mixed Tryz.func337 ht fun g => ?_
    unfold F_impl_scaled_L0
    refine Run.y (gv := vIv) (fun h1 => ?_) (fun h1 => ?_)
    · refine Run.q (e := vIv) (gv := vIv) (ok_impl_DoubleI _) fun r2 hr2 => ?_
      exact Run.l (by kernel_rfl) (by kernel_rfl) (by kernel_rfl) (by kernel_rfl) (ih (w64 (x_k.val - 1)) r2 (by first | omega | (simp only [w64_val, wu64_val, c64_val, cu64_val, decide_eq_true_eq, decide_eq_false_iff_not, cond_true, cond_false] at *; omega)) (by first | omega | (simp only [w64_val, wu64_val, c64_val, cu64_val, decide_eq_true_eq, decide_eq_false_iff_not, cond_true, cond_false] at *; omega)) (by first | omega | (simp only [w64_val, wu64_val, c64_val, cu64_val, decide_eq_true_eq, decide_eq_false_iff_not, cond_true, cond_false] at *; omega)))
    · refine Run.q (e := vB) (gv := vIv) (ok_impl_IsWhole _) fun r3 hr3 => ?_
      refine Run.y (gv := vIv) (fun h4 => ?_) (fun h4 => ?_)
      · refine Run.q (e := vIv) (gv := vIv) (ok_impl_Whole) fun r5 hr5 => ?_
        exact Run.x 0
      · refine Run.k (c := (decide (0 ≤ (w64 (0 - x_k.val)).val))) (by kernel_rfl) (by simp only [w64_val, wu64_val, c64_val, cu64_val, decide_eq_true_eq, decide_eq_false_iff_not, cond_true, cond_false] at *; omega) ?_
        refine Run.k (c := (decide (0 ≤ (w64 (0 - x_k.val)).val))) (by kernel_rfl) (by simp only [w64_val, wu64_val, c64_val, cu64_val, decide_eq_true_eq, decide_eq_false_iff_not, cond_true, cond_false] at *; omega) ?_
        exact Run.x 0

theorem ok_impl_scaled (a0 : Iv) (a1 : I64) (p0 : -100 ≤ a1.val) (p1 : a1.val ≤ 100) : Fun Tryz.prog 337 [] #[vIv a0, vI a1] (vIv (F_impl_scaled a0 a1)) [] := by
  refine Fun.ofH 400 E_ok mixed Tryz.func337 (by kernel_rfl) (by kernel_rfl) ?_
  unfold F_impl_scaled
  exact Run.l (by kernel_rfl) (by kernel_rfl) (by kernel_rfl) (by kernel_rfl) (ok_impl_scaled_L0 (a1.val.toNat + 1) a1 a0 (by first | omega | (simp only [w64_val, wu64_val, c64_val, cu64_val, decide_eq_true_eq, decide_eq_false_iff_not, cond_true, cond_false] at *; omega)) (by first | omega | (simp only [w64_val, wu64_val, c64_val, cu64_val, decide_eq_true_eq, decide_eq_false_iff_not, cond_true, cond_false] at *; omega)) (by first | omega | (simp only [w64_val, wu64_val, c64_val, cu64_val, decide_eq_true_eq, decide_eq_false_iff_not, cond_true, cond_false] at *; omega)))

theorem ok_impl_ExpAt (a0 : I64) : Fun Tryz.prog 264 [] #[vI a0] (vIv (F_impl_ExpAt a0)) [] := by
  refine Fun.ofH 400 E_ok mixed Tryz.func264 (by kernel_rfl) (by kernel_rfl) ?_
  unfold F_impl_ExpAt
  refine Run.q (e := vB) (gv := vIv) (ok_impl_ValidFix _) fun r1 hr1 => ?_
  refine Run.y (gv := vIv) (fun h2 => ?_) (fun h2 => ?_)
  · refine Run.z [true, true, true] ?_
    refine Run.q (e := vIv) (gv := vIv) (ok_impl_Whole) fun r3 hr3 => ?_
    exact Run.x 0
  · refine Run.z [false, false] ?_
    refine Run.y (gv := vIv) (fun h4 => ?_) (fun h4 => ?_)
    · refine Run.q (e := vIv) (gv := vIv) (ok_impl_Whole) fun r5 hr5 => ?_
      exact Run.x 0
    · refine Run.y (gv := vIv) (fun h6 => ?_) (fun h6 => ?_)
      · exact Run.x 0
      · refine Run.z [true] ?_
        refine Run.y (gv := vIv) (fun h7 => ?_) (fun h7 => ?_)
        · refine Run.q (e := vIv) (gv := vIv) (ok_impl_at _) fun r8 hr8 => ?_
          refine Run.q (e := vIv) (gv := vIv) (ok_impl_LogTwoI _) fun r9 hr9 => ?_
          refine Run.q (e := vIv) (gv := vIv) (ok_impl_SubI _ _) fun r10 hr10 => ?_
          refine Run.q (e := vIv) (gv := vIv) (ok_impl_Integer _) fun r11 hr11 => ?_
          refine Run.u 400 E_ok mixed Tryz.func264 ?_
          refine Run.z [true] ?_
          refine Run.q (e := vIv) (gv := vIv) (ok_impl_Integer _) fun r12 hr12 => ?_
          refine Run.q (e := vIv) (gv := vIv) (ok_impl_MulI _ _) fun r13 hr13 => ?_
          refine Run.q (e := vIv) (gv := vIv) (ok_impl_Integer _) fun r14 hr14 => ?_
          refine Run.q (e := vIv) (gv := vIv) (ok_impl_DivI _ _) fun r15 hr15 => ?_
          refine Run.q (e := vIv) (gv := vIv) (ok_impl_AddI _ _) fun r16 hr16 => ?_
          refine Run.u 400 E_ok mixed Tryz.func264 ?_
          refine Run.z [true] ?_
          refine Run.q (e := vIv) (gv := vIv) (ok_impl_Integer _) fun r17 hr17 => ?_
          refine Run.q (e := vIv) (gv := vIv) (ok_impl_MulI _ _) fun r18 hr18 => ?_
          refine Run.q (e := vIv) (gv := vIv) (ok_impl_Integer _) fun r19 hr19 => ?_
          refine Run.q (e := vIv) (gv := vIv) (ok_impl_DivI _ _) fun r20 hr20 => ?_
          refine Run.q (e := vIv) (gv := vIv) (ok_impl_AddI _ _) fun r21 hr21 => ?_
          refine Run.u 400 E_ok mixed Tryz.func264 ?_
          refine Run.z [true] ?_
          refine Run.q (e := vIv) (gv := vIv) (ok_impl_Integer _) fun r22 hr22 => ?_
          refine Run.q (e := vIv) (gv := vIv) (ok_impl_MulI _ _) fun r23 hr23 => ?_
          refine Run.q (e := vIv) (gv := vIv) (ok_impl_Integer _) fun r24 hr24 => ?_
          refine Run.q (e := vIv) (gv := vIv) (ok_impl_DivI _ _) fun r25 hr25 => ?_
          refine Run.q (e := vIv) (gv := vIv) (ok_impl_AddI _ _) fun r26 hr26 => ?_
          refine Run.u 400 E_ok mixed Tryz.func264 ?_
          refine Run.z [true] ?_
          refine Run.q (e := vIv) (gv := vIv) (ok_impl_Integer _) fun r27 hr27 => ?_
          refine Run.q (e := vIv) (gv := vIv) (ok_impl_MulI _ _) fun r28 hr28 => ?_
          refine Run.q (e := vIv) (gv := vIv) (ok_impl_Integer _) fun r29 hr29 => ?_
          refine Run.q (e := vIv) (gv := vIv) (ok_impl_DivI _ _) fun r30 hr30 => ?_
          refine Run.q (e := vIv) (gv := vIv) (ok_impl_AddI _ _) fun r31 hr31 => ?_
          refine Run.u 400 E_ok mixed Tryz.func264 ?_
          refine Run.z [true] ?_
          refine Run.q (e := vIv) (gv := vIv) (ok_impl_Integer _) fun r32 hr32 => ?_
          refine Run.q (e := vIv) (gv := vIv) (ok_impl_MulI _ _) fun r33 hr33 => ?_
          refine Run.q (e := vIv) (gv := vIv) (ok_impl_Integer _) fun r34 hr34 => ?_
          refine Run.q (e := vIv) (gv := vIv) (ok_impl_DivI _ _) fun r35 hr35 => ?_
          refine Run.q (e := vIv) (gv := vIv) (ok_impl_AddI _ _) fun r36 hr36 => ?_
          refine Run.u 400 E_ok mixed Tryz.func264 ?_
          refine Run.z [true] ?_
          refine Run.q (e := vIv) (gv := vIv) (ok_impl_Integer _) fun r37 hr37 => ?_
          refine Run.q (e := vIv) (gv := vIv) (ok_impl_MulI _ _) fun r38 hr38 => ?_
          refine Run.q (e := vIv) (gv := vIv) (ok_impl_Integer _) fun r39 hr39 => ?_
          refine Run.q (e := vIv) (gv := vIv) (ok_impl_DivI _ _) fun r40 hr40 => ?_
          refine Run.q (e := vIv) (gv := vIv) (ok_impl_AddI _ _) fun r41 hr41 => ?_
          refine Run.u 400 E_ok mixed Tryz.func264 ?_
          refine Run.z [true] ?_
          refine Run.q (e := vIv) (gv := vIv) (ok_impl_Integer _) fun r42 hr42 => ?_
          refine Run.q (e := vIv) (gv := vIv) (ok_impl_MulI _ _) fun r43 hr43 => ?_
          refine Run.q (e := vIv) (gv := vIv) (ok_impl_Integer _) fun r44 hr44 => ?_
          refine Run.q (e := vIv) (gv := vIv) (ok_impl_DivI _ _) fun r45 hr45 => ?_
          refine Run.q (e := vIv) (gv := vIv) (ok_impl_AddI _ _) fun r46 hr46 => ?_
          refine Run.u 400 E_ok mixed Tryz.func264 ?_
          refine Run.z [true] ?_
          refine Run.q (e := vIv) (gv := vIv) (ok_impl_Integer _) fun r47 hr47 => ?_
          refine Run.q (e := vIv) (gv := vIv) (ok_impl_MulI _ _) fun r48 hr48 => ?_
          refine Run.q (e := vIv) (gv := vIv) (ok_impl_Integer _) fun r49 hr49 => ?_
          refine Run.q (e := vIv) (gv := vIv) (ok_impl_DivI _ _) fun r50 hr50 => ?_
          refine Run.q (e := vIv) (gv := vIv) (ok_impl_AddI _ _) fun r51 hr51 => ?_
          refine Run.u 400 E_ok mixed Tryz.func264 ?_
          refine Run.z [true] ?_
          refine Run.q (e := vIv) (gv := vIv) (ok_impl_Integer _) fun r52 hr52 => ?_
          refine Run.q (e := vIv) (gv := vIv) (ok_impl_MulI _ _) fun r53 hr53 => ?_
          refine Run.q (e := vIv) (gv := vIv) (ok_impl_Integer _) fun r54 hr54 => ?_
          refine Run.q (e := vIv) (gv := vIv) (ok_impl_DivI _ _) fun r55 hr55 => ?_
          refine Run.q (e := vIv) (gv := vIv) (ok_impl_AddI _ _) fun r56 hr56 => ?_
          refine Run.u 400 E_ok mixed Tryz.func264 ?_
          refine Run.z [false] ?_
          refine Run.q (e := vIv) (gv := vIv) (ok_impl_widened _ _) fun r57 hr57 => ?_
          refine Run.q (e := vIv) (gv := vIv) (ok_impl_scaled _ _ (by have z := expk_range a0 h6 h4; first | exact z.1 | exact z.2.1 | exact z.2.2.1 | exact z.2.2.2) (by have z := expk_range a0 h6 h4; first | exact z.1 | exact z.2.1 | exact z.2.2.1 | exact z.2.2.2)) fun r58 hr58 => ?_
          exact Run.x 0
        · refine Run.q (e := vIv) (gv := vIv) (ok_impl_at _) fun r59 hr59 => ?_
          refine Run.q (e := vIv) (gv := vIv) (ok_impl_LogTwoI _) fun r60 hr60 => ?_
          refine Run.q (e := vIv) (gv := vIv) (ok_impl_SubI _ _) fun r61 hr61 => ?_
          refine Run.q (e := vIv) (gv := vIv) (ok_impl_Integer _) fun r62 hr62 => ?_
          refine Run.u 400 E_ok mixed Tryz.func264 ?_
          refine Run.z [true] ?_
          refine Run.q (e := vIv) (gv := vIv) (ok_impl_Integer _) fun r63 hr63 => ?_
          refine Run.q (e := vIv) (gv := vIv) (ok_impl_MulI _ _) fun r64 hr64 => ?_
          refine Run.q (e := vIv) (gv := vIv) (ok_impl_Integer _) fun r65 hr65 => ?_
          refine Run.q (e := vIv) (gv := vIv) (ok_impl_DivI _ _) fun r66 hr66 => ?_
          refine Run.q (e := vIv) (gv := vIv) (ok_impl_AddI _ _) fun r67 hr67 => ?_
          refine Run.u 400 E_ok mixed Tryz.func264 ?_
          refine Run.z [true] ?_
          refine Run.q (e := vIv) (gv := vIv) (ok_impl_Integer _) fun r68 hr68 => ?_
          refine Run.q (e := vIv) (gv := vIv) (ok_impl_MulI _ _) fun r69 hr69 => ?_
          refine Run.q (e := vIv) (gv := vIv) (ok_impl_Integer _) fun r70 hr70 => ?_
          refine Run.q (e := vIv) (gv := vIv) (ok_impl_DivI _ _) fun r71 hr71 => ?_
          refine Run.q (e := vIv) (gv := vIv) (ok_impl_AddI _ _) fun r72 hr72 => ?_
          refine Run.u 400 E_ok mixed Tryz.func264 ?_
          refine Run.z [true] ?_
          refine Run.q (e := vIv) (gv := vIv) (ok_impl_Integer _) fun r73 hr73 => ?_
          refine Run.q (e := vIv) (gv := vIv) (ok_impl_MulI _ _) fun r74 hr74 => ?_
          refine Run.q (e := vIv) (gv := vIv) (ok_impl_Integer _) fun r75 hr75 => ?_
          refine Run.q (e := vIv) (gv := vIv) (ok_impl_DivI _ _) fun r76 hr76 => ?_
          refine Run.q (e := vIv) (gv := vIv) (ok_impl_AddI _ _) fun r77 hr77 => ?_
          refine Run.u 400 E_ok mixed Tryz.func264 ?_
          refine Run.z [true] ?_
          refine Run.q (e := vIv) (gv := vIv) (ok_impl_Integer _) fun r78 hr78 => ?_
          refine Run.q (e := vIv) (gv := vIv) (ok_impl_MulI _ _) fun r79 hr79 => ?_
          refine Run.q (e := vIv) (gv := vIv) (ok_impl_Integer _) fun r80 hr80 => ?_
          refine Run.q (e := vIv) (gv := vIv) (ok_impl_DivI _ _) fun r81 hr81 => ?_
          refine Run.q (e := vIv) (gv := vIv) (ok_impl_AddI _ _) fun r82 hr82 => ?_
          refine Run.u 400 E_ok mixed Tryz.func264 ?_
          refine Run.z [true] ?_
          refine Run.q (e := vIv) (gv := vIv) (ok_impl_Integer _) fun r83 hr83 => ?_
          refine Run.q (e := vIv) (gv := vIv) (ok_impl_MulI _ _) fun r84 hr84 => ?_
          refine Run.q (e := vIv) (gv := vIv) (ok_impl_Integer _) fun r85 hr85 => ?_
          refine Run.q (e := vIv) (gv := vIv) (ok_impl_DivI _ _) fun r86 hr86 => ?_
          refine Run.q (e := vIv) (gv := vIv) (ok_impl_AddI _ _) fun r87 hr87 => ?_
          refine Run.u 400 E_ok mixed Tryz.func264 ?_
          refine Run.z [true] ?_
          refine Run.q (e := vIv) (gv := vIv) (ok_impl_Integer _) fun r88 hr88 => ?_
          refine Run.q (e := vIv) (gv := vIv) (ok_impl_MulI _ _) fun r89 hr89 => ?_
          refine Run.q (e := vIv) (gv := vIv) (ok_impl_Integer _) fun r90 hr90 => ?_
          refine Run.q (e := vIv) (gv := vIv) (ok_impl_DivI _ _) fun r91 hr91 => ?_
          refine Run.q (e := vIv) (gv := vIv) (ok_impl_AddI _ _) fun r92 hr92 => ?_
          refine Run.u 400 E_ok mixed Tryz.func264 ?_
          refine Run.z [true] ?_
          refine Run.q (e := vIv) (gv := vIv) (ok_impl_Integer _) fun r93 hr93 => ?_
          refine Run.q (e := vIv) (gv := vIv) (ok_impl_MulI _ _) fun r94 hr94 => ?_
          refine Run.q (e := vIv) (gv := vIv) (ok_impl_Integer _) fun r95 hr95 => ?_
          refine Run.q (e := vIv) (gv := vIv) (ok_impl_DivI _ _) fun r96 hr96 => ?_
          refine Run.q (e := vIv) (gv := vIv) (ok_impl_AddI _ _) fun r97 hr97 => ?_
          refine Run.u 400 E_ok mixed Tryz.func264 ?_
          refine Run.z [true] ?_
          refine Run.q (e := vIv) (gv := vIv) (ok_impl_Integer _) fun r98 hr98 => ?_
          refine Run.q (e := vIv) (gv := vIv) (ok_impl_MulI _ _) fun r99 hr99 => ?_
          refine Run.q (e := vIv) (gv := vIv) (ok_impl_Integer _) fun r100 hr100 => ?_
          refine Run.q (e := vIv) (gv := vIv) (ok_impl_DivI _ _) fun r101 hr101 => ?_
          refine Run.q (e := vIv) (gv := vIv) (ok_impl_AddI _ _) fun r102 hr102 => ?_
          refine Run.u 400 E_ok mixed Tryz.func264 ?_
          refine Run.z [true] ?_
          refine Run.q (e := vIv) (gv := vIv) (ok_impl_Integer _) fun r103 hr103 => ?_
          refine Run.q (e := vIv) (gv := vIv) (ok_impl_MulI _ _) fun r104 hr104 => ?_
          refine Run.q (e := vIv) (gv := vIv) (ok_impl_Integer _) fun r105 hr105 => ?_
          refine Run.q (e := vIv) (gv := vIv) (ok_impl_DivI _ _) fun r106 hr106 => ?_
          refine Run.q (e := vIv) (gv := vIv) (ok_impl_AddI _ _) fun r107 hr107 => ?_
          refine Run.u 400 E_ok mixed Tryz.func264 ?_
          refine Run.z [false] ?_
          refine Run.q (e := vIv) (gv := vIv) (ok_impl_widened _ _) fun r108 hr108 => ?_
          refine Run.q (e := vIv) (gv := vIv) (ok_impl_scaled _ _ (by have z := expk_range a0 h6 h4; first | exact z.1 | exact z.2.1 | exact z.2.2.1 | exact z.2.2.2) (by have z := expk_range a0 h6 h4; first | exact z.1 | exact z.2.1 | exact z.2.2.1 | exact z.2.2.2)) fun r109 hr109 => ?_
          exact Run.x 0

theorem ok_impl_monotonic__impl_ExpAt (a0 : Iv) : Fun Tryz.prog 231 [] #[vIv a0, .func (.func 264) #[] #[]] (vIv (F_impl_monotonic__impl_ExpAt a0)) [] := by
  refine Fun.ofH 400 E_ok mixed Tryz.func231 (by kernel_rfl) (by kernel_rfl) ?_
  unfold F_impl_monotonic__impl_ExpAt
  refine Run.q (e := vB) (gv := vIv) (ok_impl_IsWhole _) fun r1 _ => ?_
  refine Run.y (gv := vIv) (fun _ => ?_) (fun _ => ?_)
  · refine Run.q (e := vIv) (gv := vIv) (ok_impl_Whole) fun r2 _ => ?_
    exact Run.x 0
  · refine Run.q (e := vIv) (gv := vIv) (ok_impl_ExpAt _) fun r3 _ => ?_
    refine Run.q (e := vIv) (gv := vIv) (ok_impl_ExpAt _) fun r4 _ => ?_
    refine Run.q (e := vB) (gv := vIv) (ok_impl_areBounded _ _) fun r5 _ => ?_
    refine Run.y (gv := vIv) (fun _ => ?_) (fun _ => ?_)
    · refine Run.q (e := vIv) (gv := vIv) (ok_impl_Whole) fun r6 _ => ?_
      exact Run.x 0
    · refine Run.q (e := vIv) (gv := vIv) (ok_impl_bounded _ _ _) fun r7 _ => ?_
      exact Run.x 0

theorem ok_impl_ExpI (a0 : Iv) : Fun Tryz.prog 246 [] #[vIv a0] (vIv (F_impl_ExpI a0)) [] := by
  refine Fun.ofH 400 E_ok mixed Tryz.func246 (by kernel_rfl) (by kernel_rfl) ?_
  unfold F_impl_ExpI
  refine Run.q (e := vIv) (gv := vIv) (ok_impl_monotonic__impl_ExpAt _) fun r1 _ => ?_
  exact Run.x 0

theorem ok_impl_conic_constant__pCn (b0 : Cn) : Fun Tryz.prog 245 [(#[.int .i64 b0.p.kind.val, .int .i64 b0.p.lat0.val, .int .i64 b0.p.lon0.val, .int .i64 b0.p.lat1.val, .int .i64 b0.p.lat2.val, .int .i64 b0.a.lo.val, .int .i64 b0.a.hi.val, .int .i64 b0.b.lo.val, .int .i64 b0.b.hi.val, .int .i64 b0.o.lo.val, .int .i64 b0.o.hi.val, .int .i64 b0.n.lo.val, .int .i64 b0.n.hi.val, .int .i64 b0.g.lo.val, .int .i64 b0.g.hi.val], 95)] #[.pointer (some ⟨0, 0, none⟩)] (vIv (F_impl_conic_constant__pCn b0)) [(#[.int .i64 b0.p.kind.val, .int .i64 b0.p.lat0.val, .int .i64 b0.p.lon0.val, .int .i64 b0.p.lat1.val, .int .i64 b0.p.lat2.val, .int .i64 b0.a.lo.val, .int .i64 b0.a.hi.val, .int .i64 b0.b.lo.val, .int .i64 b0.b.hi.val, .int .i64 b0.o.lo.val, .int .i64 b0.o.hi.val, .int .i64 b0.n.lo.val, .int .i64 b0.n.hi.val, .int .i64 b0.g.lo.val, .int .i64 b0.g.hi.val], 95)] := by
  refine Fun.ofH 400 E_ok mixed Tryz.func245 (by kernel_rfl) (by kernel_rfl) ?_
  unfold F_impl_conic_constant__pCn
  refine Run.y (gv := vIv) (fun _ => ?_) (fun _ => ?_)
  · refine Run.q (e := vIv) (gv := vIv) (ok_impl_CosI _) fun r1 _ => ?_
    refine Run.q (e := vIv) (gv := vIv) (ok_impl_SqrI _) fun r2 _ => ?_
    refine Run.q (e := vIv) (gv := vIv) (ok_impl_times _ _) fun r3 _ => ?_
    refine Run.q (e := vIv) (gv := vIv) (ok_impl_SinI _) fun r4 _ => ?_
    refine Run.q (e := vIv) (gv := vIv) (ok_impl_MulI _ _) fun r5 _ => ?_
    refine Run.q (e := vIv) (gv := vIv) (ok_impl_AddI _ _) fun r6 _ => ?_
    exact Run.x 1
  · refine Run.y (gv := vIv) (fun _ => ?_) (fun _ => ?_)
    · refine Run.q (e := vIv) (gv := vIv) (ok_impl_CosI _) fun r7 _ => ?_
      refine Run.q (e := vIv) (gv := vIv) (ok_impl_isometricSphere _) fun r8 _ => ?_
      refine Run.q (e := vIv) (gv := vIv) (ok_impl_MulI _ _) fun r9 _ => ?_
      refine Run.q (e := vIv) (gv := vIv) (ok_impl_ExpI _) fun r10 _ => ?_
      refine Run.q (e := vIv) (gv := vIv) (ok_impl_MulI _ _) fun r11 _ => ?_
      refine Run.q (e := vIv) (gv := vIv) (ok_impl_DivI _ _) fun r12 _ => ?_
      exact Run.x 1
    · refine Run.q (e := vIv) (gv := vIv) (ok_impl_CosI _) fun r13 _ => ?_
      refine Run.q (e := vIv) (gv := vIv) (ok_impl_DivI _ _) fun r14 _ => ?_
      refine Run.q (e := vIv) (gv := vIv) (ok_impl_AddI _ _) fun r15 _ => ?_
      exact Run.x 1

def R_impl_newConic (r : Cn × I64) : Value → List Blk → Prop := MB 95 (r.2.val != 0) (vCn r.1).cells
theorem ok_impl_newConic (a0 : Pj) : FunR Tryz.prog 138 [] #[vPj a0] (MBx 95 ((F_impl_newConic a0).2.val != 0) (vCn (F_impl_newConic a0).1).cells) := by
  refine FunR.mb (by kernel_rfl) (FunR.of 400 E_ok mixed Tryz.func138 (by kernel_rfl) ?_)
  show Run _ _ (R_impl_newConic (F_impl_newConic a0)) _
  unfold F_impl_newConic
  refine Run.gq (Rg := R_impl_newConic) (e := vB) (ok_impl_ValidProjection _) fun r1 hr1 => ?_
  refine Run.gy (Rg := R_impl_newConic) (fun h2 => ?_) (fun h2 => ?_)
  · refine Run.z [true, true, true, true, true] ?_
    exact Run.mbn (by kernel_rfl) (by kernel_rfl)
  · refine Run.z [false, false] ?_
    refine Run.gq (Rg := R_impl_newConic) (e := vB) (ok_impl_isConic _) fun r3 hr3 => ?_
    refine Run.z [false, false] ?_
    refine Run.gy (Rg := R_impl_newConic) (fun h4 => ?_) (fun h4 => ?_)
    · exact Run.mbn (by kernel_rfl) (by kernel_rfl)
    · refine Run.gq (Rg := R_impl_newConic) (e := vIv) (ok_impl_RadiansOf _) fun r5 hr5 => ?_
      refine Run.gq (Rg := R_impl_newConic) (e := vIv) (ok_impl_RadiansOf _) fun r6 hr6 => ?_
      refine Run.gq (Rg := R_impl_newConic) (e := vIv) (ok_impl_RadiansOf _) fun r7 hr7 => ?_
      refine Run.gw (Rg := R_impl_newConic) (e := vIv) [1] (ok_impl_conic_cone__pCn _) fun r8 hr8 => ?_
      refine Run.gw (Rg := R_impl_newConic) (e := vIv) [1] (ok_impl_conic_constant__pCn _) fun r9 hr9 => ?_
      exact Run.mbp 1 (by kernel_rfl) (by kernel_rfl) (by kernel_rfl)

theorem ok_impl_conic_radius__pCn (b0 : Cn) (a0 : Iv) : Fun Tryz.prog 139 [(#[.int .i64 b0.p.kind.val, .int .i64 b0.p.lat0.val, .int .i64 b0.p.lon0.val, .int .i64 b0.p.lat1.val, .int .i64 b0.p.lat2.val, .int .i64 b0.a.lo.val, .int .i64 b0.a.hi.val, .int .i64 b0.b.lo.val, .int .i64 b0.b.hi.val, .int .i64 b0.o.lo.val, .int .i64 b0.o.hi.val, .int .i64 b0.n.lo.val, .int .i64 b0.n.hi.val, .int .i64 b0.g.lo.val, .int .i64 b0.g.hi.val], 95)] #[.pointer (some ⟨0, 0, none⟩), vIv a0] (vIv (F_impl_conic_radius__pCn b0 a0)) [(#[.int .i64 b0.p.kind.val, .int .i64 b0.p.lat0.val, .int .i64 b0.p.lon0.val, .int .i64 b0.p.lat1.val, .int .i64 b0.p.lat2.val, .int .i64 b0.a.lo.val, .int .i64 b0.a.hi.val, .int .i64 b0.b.lo.val, .int .i64 b0.b.hi.val, .int .i64 b0.o.lo.val, .int .i64 b0.o.hi.val, .int .i64 b0.n.lo.val, .int .i64 b0.n.hi.val, .int .i64 b0.g.lo.val, .int .i64 b0.g.hi.val], 95)] := by
  refine Fun.ofH 400 E_ok mixed Tryz.func139 (by kernel_rfl) (by kernel_rfl) ?_
  unfold F_impl_conic_radius__pCn
  refine Run.y (gv := vIv) (fun _ => ?_) (fun _ => ?_)
  · refine Run.q (e := vIv) (gv := vIv) (ok_impl_times _ _) fun r1 _ => ?_
    refine Run.q (e := vIv) (gv := vIv) (ok_impl_SinI _) fun r2 _ => ?_
    refine Run.q (e := vIv) (gv := vIv) (ok_impl_MulI _ _) fun r3 _ => ?_
    refine Run.q (e := vIv) (gv := vIv) (ok_impl_SubI _ _) fun r4 _ => ?_
    refine Run.q (e := vIv) (gv := vIv) (ok_impl_SqrtI _) fun r5 _ => ?_
    refine Run.q (e := vIv) (gv := vIv) (ok_impl_DivI _ _) fun r6 _ => ?_
    exact Run.x 1
  · refine Run.y (gv := vIv) (fun _ => ?_) (fun _ => ?_)
    · refine Run.q (e := vIv) (gv := vIv) (ok_impl_isometricSphere _) fun r7 _ => ?_
      refine Run.q (e := vIv) (gv := vIv) (ok_impl_MulI _ _) fun r8 _ => ?_
      refine Run.q (e := vIv) (gv := vIv) (ok_impl_NegI _) fun r9 _ => ?_
      refine Run.q (e := vIv) (gv := vIv) (ok_impl_ExpI _) fun r10 _ => ?_
      refine Run.q (e := vIv) (gv := vIv) (ok_impl_MulI _ _) fun r11 _ => ?_
      exact Run.x 1
    · refine Run.q (e := vIv) (gv := vIv) (ok_impl_SubI _ _) fun r12 _ => ?_
      exact Run.x 1

theorem ok_impl_conic_scale__pCn (b0 : Cn) (a0 : Iv) : Fun Tryz.prog 194 [(#[.int .i64 b0.p.kind.val, .int .i64 b0.p.lat0.val, .int .i64 b0.p.lon0.val, .int .i64 b0.p.lat1.val, .int .i64 b0.p.lat2.val, .int .i64 b0.a.lo.val, .int .i64 b0.a.hi.val, .int .i64 b0.b.lo.val, .int .i64 b0.b.hi.val, .int .i64 b0.o.lo.val, .int .i64 b0.o.hi.val, .int .i64 b0.n.lo.val, .int .i64 b0.n.hi.val, .int .i64 b0.g.lo.val, .int .i64 b0.g.hi.val], 95)] #[.pointer (some ⟨0, 0, none⟩), vIv a0] (vIv (F_impl_conic_scale__pCn b0 a0)) [(#[.int .i64 b0.p.kind.val, .int .i64 b0.p.lat0.val, .int .i64 b0.p.lon0.val, .int .i64 b0.p.lat1.val, .int .i64 b0.p.lat2.val, .int .i64 b0.a.lo.val, .int .i64 b0.a.hi.val, .int .i64 b0.b.lo.val, .int .i64 b0.b.hi.val, .int .i64 b0.o.lo.val, .int .i64 b0.o.hi.val, .int .i64 b0.n.lo.val, .int .i64 b0.n.hi.val, .int .i64 b0.g.lo.val, .int .i64 b0.g.hi.val], 95)] := by
  refine Fun.ofH 400 E_ok mixed Tryz.func194 (by kernel_rfl) (by kernel_rfl) ?_
  unfold F_impl_conic_scale__pCn
  refine Run.w (e := vIv) (gv := vIv) [0] (ok_impl_conic_radius__pCn _ _) fun r1 _ => ?_
  refine Run.q (e := vIv) (gv := vIv) (ok_impl_MulI _ _) fun r2 _ => ?_
  refine Run.q (e := vIv) (gv := vIv) (ok_impl_CosI _) fun r3 _ => ?_
  refine Run.q (e := vIv) (gv := vIv) (ok_impl_DivI _ _) fun r4 _ => ?_
  exact Run.x 1

theorem ok_impl_ConicScales (a0 : Pj) (a1 : Pt) : Fun Tryz.prog 85 [] #[vPj a0, vPt a1] (vT_Iv_Iv_I (F_impl_ConicScales a0 a1)) [] := by
  refine Fun.ofH 400 E_ok mixed Tryz.func85 (by kernel_rfl) (by kernel_rfl) ?_
  unfold F_impl_ConicScales
  refine Run.bmb (nn := fun r : Cn × I64 => (r.2.val != 0)) (cl := fun r : Cn × I64 => (vCn r.1).cells) (gv := vT_Iv_Iv_I) (by kernel_rfl) (by kernel_rfl) (ok_impl_newConic _) (by kernel_rfl) (fun _ => rfl) (fun r1 hr1 => ?_) (fun r1 hr1 => ?_)
  · refine Run.z [true, true, true, true, true] ?_
    exact Run.x 0
  · refine Run.z [false, false] ?_
    refine Run.q (e := vB) (gv := vT_Iv_Iv_I) (ok_impl_ValidPoint _) fun r2 hr2 => ?_
    refine Run.z [false, false] ?_
    refine Run.y (gv := vT_Iv_Iv_I) (fun h3 => ?_) (fun h3 => ?_)
    · exact Run.x 0
    · refine Run.q (e := vB) (gv := vT_Iv_Iv_I) (ok_impl_isPole _) fun r4 hr4 => ?_
      refine Run.y (gv := vT_Iv_Iv_I) (fun h5 => ?_) (fun h5 => ?_)
      · exact Run.x 0
      · refine Run.q (e := vIv) (gv := vT_Iv_Iv_I) (ok_impl_LatOf _) fun r6 hr6 => ?_
        refine Run.w (e := vIv) (gv := vT_Iv_Iv_I) [4] (ok_impl_conic_scale__pCn _ _) fun r7 hr7 => ?_
        refine Run.y (gv := vT_Iv_Iv_I) (fun h8 => ?_) (fun h8 => ?_)
        · refine Run.q (e := vIv) (gv := vT_Iv_Iv_I) (ok_impl_Integer _) fun r9 hr9 => ?_
          refine Run.q (e := vIv) (gv := vT_Iv_Iv_I) (ok_impl_DivI _ _) fun r10 hr10 => ?_
          refine Run.q (e := vT_Iv_Iv_I) (gv := vT_Iv_Iv_I) (ok_impl_pair _ _) fun r11 hr11 => ?_
          exact Run.x 0
        · refine Run.y (gv := vT_Iv_Iv_I) (fun h12 => ?_) (fun h12 => ?_)
          · refine Run.q (e := vT_Iv_Iv_I) (gv := vT_Iv_Iv_I) (ok_impl_pair _ _) fun r13 hr13 => ?_
            exact Run.x 0
          · refine Run.q (e := vIv) (gv := vT_Iv_Iv_I) (ok_impl_Integer _) fun r14 hr14 => ?_
            refine Run.q (e := vT_Iv_Iv_I) (gv := vT_Iv_Iv_I) (ok_impl_pair _ _) fun r15 hr15 => ?_
            exact Run.x 0

theorem ok_impl_isTransverse (a0 : Pj) : Fun Tryz.prog 165 [] #[vPj a0] (vB (F_impl_isTransverse a0)) [] := by
  refine Fun.ofH 400 E_ok mixed Tryz.func165 (by kernel_rfl) (by kernel_rfl) ?_
  unfold F_impl_isTransverse
  refine Run.q (e := vB) (gv := vB) (ok_impl_ValidProjection _) fun r1 _ => ?_
  refine Run.y (gv := vB) (fun _ => ?_) (fun _ => ?_)
  · refine Run.z [true, true, true] ?_
    exact Run.x 0
  · refine Run.z [false, false, false] ?_
    exact Run.x 0

theorem ok_impl_LonFrom (a0 : Pj) (a1 : Pt) : Fun Tryz.prog 122 [] #[vPj a0, vPt a1] (vIv (F_impl_LonFrom a0 a1)) [] := by
  refine Fun.ofH 400 E_ok mixed Tryz.func122 (by kernel_rfl) (by kernel_rfl) ?_
  unfold F_impl_LonFrom
  refine Run.q (e := vB) (gv := vIv) (ok_impl_ValidProjection _) fun r1 _ => ?_
  refine Run.y (gv := vIv) (fun _ => ?_) (fun _ => ?_)
  · refine Run.z [true, true, true, true] ?_
    refine Run.q (e := vIv) (gv := vIv) (ok_impl_Whole) fun r2 _ => ?_
    exact Run.x 0
  · refine Run.z [false] ?_
    refine Run.q (e := vB) (gv := vIv) (ok_impl_ValidPoint _) fun r3 _ => ?_
    refine Run.z [false, false] ?_
    refine Run.y (gv := vIv) (fun _ => ?_) (fun _ => ?_)
    · refine Run.q (e := vIv) (gv := vIv) (ok_impl_Whole) fun r4 _ => ?_
      exact Run.x 0
    · refine Run.q (e := vI) (gv := vIv) (ok_impl_WrapLon _) fun r5 _ => ?_
      refine Run.q (e := vIv) (gv := vIv) (ok_impl_RadiansOf _) fun r6 _ => ?_
      exact Run.x 0

theorem ok_impl_transverse (a0 : Pj) (a1 : Pt) : Fun Tryz.prog 142 [] #[vPj a0, vPt a1] (vT_Iv_Iv_Iv_I (F_impl_transverse a0 a1)) [] := by
  refine Fun.ofH 400 E_ok mixed Tryz.func142 (by kernel_rfl) (by kernel_rfl) ?_
  unfold F_impl_transverse
  refine Run.q (e := vB) (gv := vT_Iv_Iv_Iv_I) (ok_impl_isTransverse _) fun r1 _ => ?_
  refine Run.y (gv := vT_Iv_Iv_Iv_I) (fun _ => ?_) (fun _ => ?_)
  · refine Run.z [true, true, true, true] ?_
    exact Run.x 0
  · refine Run.z [false] ?_
    refine Run.q (e := vB) (gv := vT_Iv_Iv_Iv_I) (ok_impl_ValidPoint _) fun r2 _ => ?_
    refine Run.z [false, false] ?_
    refine Run.y (gv := vT_Iv_Iv_Iv_I) (fun _ => ?_) (fun _ => ?_)
    · exact Run.x 0
    · refine Run.y (gv := vT_Iv_Iv_Iv_I) (fun _ => ?_) (fun _ => ?_)
      · refine Run.z [true, true, true, true, true] ?_
        refine Run.q (e := vI) (gv := vT_Iv_Iv_Iv_I) (ok_impl_WrapLon _) fun r3 _ => ?_
        refine Run.z [true] ?_
        refine Run.q (e := vI) (gv := vT_Iv_Iv_Iv_I) (ok_impl_abs _) fun r4 _ => ?_
        refine Run.z [true, true] ?_
        refine Run.y (gv := vT_Iv_Iv_Iv_I) (fun _ => ?_) (fun _ => ?_)
        · exact Run.x 0
        · refine Run.q (e := vIv) (gv := vT_Iv_Iv_Iv_I) (ok_impl_LatOf _) fun r5 _ => ?_
          refine Run.q (e := vIv) (gv := vT_Iv_Iv_Iv_I) (ok_impl_LonFrom _ _) fun r6 _ => ?_
          refine Run.q (e := vIv) (gv := vT_Iv_Iv_Iv_I) (ok_impl_CosI _) fun r7 _ => ?_
          refine Run.q (e := vIv) (gv := vT_Iv_Iv_Iv_I) (ok_impl_SinI _) fun r8 _ => ?_
          refine Run.q (e := vIv) (gv := vT_Iv_Iv_Iv_I) (ok_impl_MulI _ _) fun r9 _ => ?_
          exact Run.x 0
      · refine Run.z [false, false, false, false, false, false, false, false, false] ?_
        refine Run.q (e := vIv) (gv := vT_Iv_Iv_Iv_I) (ok_impl_LatOf _) fun r10 _ => ?_
        refine Run.q (e := vIv) (gv := vT_Iv_Iv_Iv_I) (ok_impl_LonFrom _ _) fun r11 _ => ?_
        refine Run.q (e := vIv) (gv := vT_Iv_Iv_Iv_I) (ok_impl_CosI _) fun r12 _ => ?_
        refine Run.q (e := vIv) (gv := vT_Iv_Iv_Iv_I) (ok_impl_SinI _) fun r13 _ => ?_
        refine Run.q (e := vIv) (gv := vT_Iv_Iv_Iv_I) (ok_impl_MulI _ _) fun r14 _ => ?_
        exact Run.x 0

theorem ok_impl_oneLess (a0 : Iv) : Fun Tryz.prog 195 [] #[vIv a0] (vIv (F_impl_oneLess a0)) [] := by
  refine Fun.ofH 400 E_ok mixed Tryz.func195 (by kernel_rfl) (by kernel_rfl) ?_
  unfold F_impl_oneLess
  refine Run.q (e := vIv) (gv := vIv) (ok_impl_Integer _) fun r1 _ => ?_
  refine Run.q (e := vIv) (gv := vIv) (ok_impl_SubI _ _) fun r2 _ => ?_
  exact Run.x 0

theorem ok_impl_TransverseScale (a0 : Pj) (a1 : Pt) : Fun Tryz.prog 86 [] #[vPj a0, vPt a1] (vT_Iv_I (F_impl_TransverseScale a0 a1)) [] := by
  refine Fun.ofH 400 E_ok mixed Tryz.func86 (by kernel_rfl) (by kernel_rfl) ?_
  unfold F_impl_TransverseScale
  refine Run.q (e := vT_Iv_Iv_Iv_I) (gv := vT_Iv_I) (ok_impl_transverse _ _) fun r1 _ => ?_
  refine Run.y (gv := vT_Iv_I) (fun _ => ?_) (fun _ => ?_)
  · exact Run.x 0
  · refine Run.q (e := vIv) (gv := vT_Iv_I) (ok_impl_Integer _) fun r2 _ => ?_
    refine Run.q (e := vIv) (gv := vT_Iv_I) (ok_impl_SqrI _) fun r3 _ => ?_
    refine Run.q (e := vIv) (gv := vT_Iv_I) (ok_impl_oneLess _) fun r4 _ => ?_
    refine Run.q (e := vIv) (gv := vT_Iv_I) (ok_impl_SqrtI _) fun r5 _ => ?_
    refine Run.q (e := vIv) (gv := vT_Iv_I) (ok_impl_DivI _ _) fun r6 _ => ?_
    refine Run.q (e := vT_Iv_I) (gv := vT_Iv_I) (ok_impl_knownI _) fun r7 _ => ?_
    exact Run.x 0

theorem ok_impl_ScalesOf (a0 : Pj) (a1 : Pt) : Fun Tryz.prog 33 [] #[vPj a0, vPt a1] (vT_Iv_Iv_I (F_impl_ScalesOf a0 a1)) [] := by
  refine Fun.ofH 400 E_ok mixed Tryz.func33 (by kernel_rfl) (by kernel_rfl) ?_
  unfold F_impl_ScalesOf
  refine Run.q (e := vB) (gv := vT_Iv_Iv_I) (ok_impl_ValidProjection _) fun r1 _ => ?_
  refine Run.y (gv := vT_Iv_Iv_I) (fun _ => ?_) (fun _ => ?_)
  · refine Run.z [true, true, true, true] ?_
    exact Run.x 0
  · refine Run.z [false] ?_
    refine Run.q (e := vB) (gv := vT_Iv_Iv_I) (ok_impl_ValidPoint _) fun r2 _ => ?_
    refine Run.z [false, false] ?_
    refine Run.y (gv := vT_Iv_Iv_I) (fun _ => ?_) (fun _ => ?_)
    · exact Run.x 0
    · refine Run.q (e := vI) (gv := vT_Iv_Iv_I) (ok_impl_FamilyOf _) fun r3 _ => ?_
      refine Run.y (gv := vT_Iv_Iv_I) (fun _ => ?_) (fun _ => ?_)
      · refine Run.q (e := vT_Iv_Iv_I) (gv := vT_Iv_Iv_I) (ok_impl_CylinderScales _ _) fun r4 _ => ?_
        exact Run.x 0
      · refine Run.y (gv := vT_Iv_Iv_I) (fun _ => ?_) (fun _ => ?_)
        · refine Run.q (e := vT_Iv_Iv_I) (gv := vT_Iv_Iv_I) (ok_impl_centreScales _ _) fun r5 _ => ?_
          exact Run.x 0
        · refine Run.y (gv := vT_Iv_Iv_I) (fun _ => ?_) (fun _ => ?_)
          · refine Run.q (e := vT_Iv_Iv_I) (gv := vT_Iv_Iv_I) (ok_impl_ConicScales _ _) fun r6 _ => ?_
            exact Run.x 0
          · refine Run.y (gv := vT_Iv_Iv_I) (fun _ => ?_) (fun _ => ?_)
            · refine Run.q (e := vT_Iv_I) (gv := vT_Iv_Iv_I) (ok_impl_TransverseScale _ _) fun r7 _ => ?_
              exact Run.x 0
            · exact Run.x 0

theorem ok_impl_AreaScale (a0 : Pj) (a1 : Pt) : Fun Tryz.prog 12 [] #[vPj a0, vPt a1] (vT_Iv_I (F_impl_AreaScale a0 a1)) [] := by
  refine Fun.ofH 400 E_ok mixed Tryz.func12 (by kernel_rfl) (by kernel_rfl) ?_
  unfold F_impl_AreaScale
  refine Run.q (e := vT_Iv_Iv_I) (gv := vT_Iv_I) (ok_impl_ScalesOf _ _) fun r1 _ => ?_
  refine Run.y (gv := vT_Iv_I) (fun _ => ?_) (fun _ => ?_)
  · refine Run.q (e := vIv) (gv := vT_Iv_I) (ok_impl_Integer _) fun r2 _ => ?_
    exact Run.x 0
  · refine Run.y (gv := vT_Iv_I) (fun _ => ?_) (fun _ => ?_)
    · exact Run.x 0
    · refine Run.q (e := vIv) (gv := vT_Iv_I) (ok_impl_MulI _ _) fun r3 _ => ?_
      refine Run.q (e := vT_Iv_I) (gv := vT_Iv_I) (ok_impl_knownI _) fun r4 _ => ?_
      exact Run.x 0

theorem ok_impl_CircleAt (a0 : I64) : Fun Tryz.prog 208 [] #[vI a0] (vIv (F_impl_CircleAt a0)) [] := by
  refine Fun.ofH 400 E_ok mixed Tryz.func208 (by kernel_rfl) (by kernel_rfl) ?_
  unfold F_impl_CircleAt
  refine Run.q (e := vB) (gv := vIv) (ok_impl_within _ _ _) fun r1 _ => ?_
  refine Run.y (gv := vIv) (fun _ => ?_) (fun _ => ?_)
  · refine Run.q (e := vIv) (gv := vIv) (ok_impl_Whole) fun r2 _ => ?_
    exact Run.x 0
  · refine Run.q (e := vT_I_B) (gv := vIv) (ok_impl_SqrtFloor _ _) fun r3 _ => ?_
    refine Run.q (e := vWd) (gv := vIv) (ok_impl_WideMul _ _) fun r4 _ => ?_
    refine Run.q (e := vWd) (gv := vIv) (ok_impl_WideMul _ _) fun r5 _ => ?_
    refine Run.y (gv := vIv) (fun _ => ?_) (fun _ => ?_)
    · refine Run.q (e := vIv) (gv := vIv) (ok_impl_at _) fun r6 _ => ?_
      exact Run.x 0
    · exact Run.x 0

theorem ok_impl_AsinAt (a0 : I64) : Fun Tryz.prog 107 [] #[vI a0] (vIv (F_impl_AsinAt a0)) [] := by
  refine Fun.ofH 400 E_ok mixed Tryz.func107 (by kernel_rfl) (by kernel_rfl) ?_
  unfold F_impl_AsinAt
  refine Run.q (e := vB) (gv := vIv) (ok_impl_within _ _ _) fun r1 _ => ?_
  refine Run.y (gv := vIv) (fun _ => ?_) (fun _ => ?_)
  · refine Run.q (e := vIv) (gv := vIv) (ok_impl_Whole) fun r2 _ => ?_
    exact Run.x 0
  · refine Run.q (e := vIv) (gv := vIv) (ok_impl_at _) fun r3 _ => ?_
    refine Run.q (e := vIv) (gv := vIv) (ok_impl_Integer _) fun r4 _ => ?_
    refine Run.q (e := vIv) (gv := vIv) (ok_impl_CircleAt _) fun r5 _ => ?_
    refine Run.q (e := vIv) (gv := vIv) (ok_impl_AddI _ _) fun r6 _ => ?_
    refine Run.q (e := vIv) (gv := vIv) (ok_impl_DivI _ _) fun r7 _ => ?_
    refine Run.q (e := vIv) (gv := vIv) (ok_impl_AtanI _) fun r8 _ => ?_
    refine Run.q (e := vIv) (gv := vIv) (ok_impl_DoubleI _) fun r9 _ => ?_
    refine Run.q (e := vIv) (gv := vIv) (ok_impl_halfCircle) fun r10 _ => ?_
    refine Run.q (e := vT_Iv_B) (gv := vIv) (ok_impl_MeetI _ _) fun r11 _ => ?_
    exact Run.x 0

theorem ok_impl_AsinI (a0 : Iv) : Fun Tryz.prog 43 [] #[vIv a0] (vIv (F_impl_AsinI a0)) [] := by
  refine Fun.ofH 400 E_ok mixed Tryz.func43 (by kernel_rfl) (by kernel_rfl) ?_
  unfold F_impl_AsinI
  refine Run.q (e := vIv) (gv := vIv) (ok_impl_ring) fun r1 _ => ?_
  refine Run.q (e := vT_Iv_B) (gv := vIv) (ok_impl_MeetI _ _) fun r2 _ => ?_
  refine Run.y (gv := vIv) (fun _ => ?_) (fun _ => ?_)
  · refine Run.q (e := vIv) (gv := vIv) (ok_impl_Whole) fun r3 _ => ?_
    exact Run.x 0
  · refine Run.q (e := vIv) (gv := vIv) (ok_impl_AsinAt _) fun r4 _ => ?_
    refine Run.q (e := vIv) (gv := vIv) (ok_impl_AsinAt _) fun r5 _ => ?_
    refine Run.q (e := vIv) (gv := vIv) (ok_impl_HullI _ _) fun r6 _ => ?_
    exact Run.x 0

theorem ok_impl_AngleDistortion (a0 : Pj) (a1 : Pt) : Fun Tryz.prog 15 [] #[vPj a0, vPt a1] (vT_Iv_I (F_impl_AngleDistortion a0 a1)) [] := by
  refine Fun.ofH 400 E_ok mixed Tryz.func15 (by kernel_rfl) (by kernel_rfl) ?_
  unfold F_impl_AngleDistortion
  refine Run.q (e := vT_Iv_Iv_I) (gv := vT_Iv_I) (ok_impl_ScalesOf _ _) fun r1 _ => ?_
  refine Run.y (gv := vT_Iv_I) (fun _ => ?_) (fun _ => ?_)
  · exact Run.x 0
  · refine Run.q (e := vIv) (gv := vT_Iv_I) (ok_impl_SubI _ _) fun r2 _ => ?_
    refine Run.q (e := vIv) (gv := vT_Iv_I) (ok_impl_AbsI _) fun r3 _ => ?_
    refine Run.q (e := vIv) (gv := vT_Iv_I) (ok_impl_AddI _ _) fun r4 _ => ?_
    refine Run.q (e := vIv) (gv := vT_Iv_I) (ok_impl_DivI _ _) fun r5 _ => ?_
    refine Run.q (e := vIv) (gv := vT_Iv_I) (ok_impl_AsinI _) fun r6 _ => ?_
    refine Run.q (e := vIv) (gv := vT_Iv_I) (ok_impl_times _ _) fun r7 _ => ?_
    refine Run.q (e := vT_Iv_I) (gv := vT_Iv_I) (ok_impl_knownI _) fun r8 _ => ?_
    exact Run.x 0

theorem ok_impl_CylinderForward (a0 : Pj) (a1 : Pt) : Fun Tryz.prog 50 [] #[vPj a0, vPt a1] (vT_Pn_I (F_impl_CylinderForward a0 a1)) [] := by
  refine Fun.ofH 400 E_ok mixed Tryz.func50 (by kernel_rfl) (by kernel_rfl) ?_
  unfold F_impl_CylinderForward
  refine Run.q (e := vB) (gv := vT_Pn_I) (ok_impl_ValidProjection _) fun r1 _ => ?_
  refine Run.y (gv := vT_Pn_I) (fun _ => ?_) (fun _ => ?_)
  · refine Run.z [true, true, true, true, true, true, true, true, true] ?_
    exact Run.x 0
  · refine Run.z [false] ?_
    refine Run.q (e := vB) (gv := vT_Pn_I) (ok_impl_ValidPoint _) fun r2 _ => ?_
    refine Run.z [false, false] ?_
    refine Run.y (gv := vT_Pn_I) (fun _ => ?_) (fun _ => ?_)
    · refine Run.z [true, true, true, true, true] ?_
      exact Run.x 0
    · refine Run.z [false, false] ?_
      refine Run.q (e := vB) (gv := vT_Pn_I) (ok_impl_isCylindrical _) fun r3 _ => ?_
      refine Run.z [false, false] ?_
      refine Run.y (gv := vT_Pn_I) (fun _ => ?_) (fun _ => ?_)
      · exact Run.x 0
      · refine Run.q (e := vIv) (gv := vT_Pn_I) (ok_impl_LonFrom _ _) fun r4 _ => ?_
        refine Run.q (e := vIv) (gv := vT_Pn_I) (ok_impl_LatOf _) fun r5 _ => ?_
        refine Run.q (e := vIv) (gv := vT_Pn_I) (ok_impl_RadiansOf _) fun r6 _ => ?_
        refine Run.q (e := vIv) (gv := vT_Pn_I) (ok_impl_CosI _) fun r7 _ => ?_
        refine Run.y (gv := vT_Pn_I) (fun _ => ?_) (fun _ => ?_)
        · refine Run.q (e := vIv) (gv := vT_Pn_I) (ok_impl_MulI _ _) fun r8 _ => ?_
          refine Run.q (e := vT_Pn_I) (gv := vT_Pn_I) (ok_impl_planar _ _) fun r9 _ => ?_
          exact Run.x 0
        · refine Run.y (gv := vT_Pn_I) (fun _ => ?_) (fun _ => ?_)
          · refine Run.q (e := vIv) (gv := vT_Pn_I) (ok_impl_MulI _ _) fun r10 _ => ?_
            refine Run.q (e := vIv) (gv := vT_Pn_I) (ok_impl_SinI _) fun r11 _ => ?_
            refine Run.q (e := vIv) (gv := vT_Pn_I) (ok_impl_DivI _ _) fun r12 _ => ?_
            refine Run.q (e := vT_Pn_I) (gv := vT_Pn_I) (ok_impl_planar _ _) fun r13 _ => ?_
            exact Run.x 0
          · refine Run.y (gv := vT_Pn_I) (fun _ => ?_) (fun _ => ?_)
            · refine Run.q (e := vIv) (gv := vT_Pn_I) (ok_impl_Quotient _ _) fun r14 _ => ?_
              refine Run.q (e := vIv) (gv := vT_Pn_I) (ok_impl_Quotient _ _) fun r15 _ => ?_
              refine Run.q (e := vIv) (gv := vT_Pn_I) (ok_impl_MulI _ _) fun r16 _ => ?_
              refine Run.q (e := vIv) (gv := vT_Pn_I) (ok_impl_TanI _) fun r17 _ => ?_
              refine Run.q (e := vIv) (gv := vT_Pn_I) (ok_impl_AsinhI _) fun r18 _ => ?_
              refine Run.q (e := vIv) (gv := vT_Pn_I) (ok_impl_MulI _ _) fun r19 _ => ?_
              refine Run.q (e := vT_Pn_I) (gv := vT_Pn_I) (ok_impl_planar _ _) fun r20 _ => ?_
              exact Run.x 0
            · refine Run.q (e := vB) (gv := vT_Pn_I) (ok_impl_isPole _) fun r21 _ => ?_
              refine Run.y (gv := vT_Pn_I) (fun _ => ?_) (fun _ => ?_)
              · exact Run.x 0
              · refine Run.q (e := vIv) (gv := vT_Pn_I) (ok_impl_TanI _) fun r22 _ => ?_
                refine Run.q (e := vIv) (gv := vT_Pn_I) (ok_impl_AsinhI _) fun r23 _ => ?_
                refine Run.q (e := vT_Pn_I) (gv := vT_Pn_I) (ok_impl_planar _ _) fun r24 _ => ?_
                exact Run.x 0

theorem ok_impl_ConicForward (a0 : Pj) (a1 : Pt) : Fun Tryz.prog 52 [] #[vPj a0, vPt a1] (vT_Pn_I (F_impl_ConicForward a0 a1)) [] := by
  refine Fun.ofH 400 E_ok mixed Tryz.func52 (by kernel_rfl) (by kernel_rfl) ?_
  unfold F_impl_ConicForward
  refine Run.bmb (nn := fun r : Cn × I64 => (r.2.val != 0)) (cl := fun r : Cn × I64 => (vCn r.1).cells) (gv := vT_Pn_I) (by kernel_rfl) (by kernel_rfl) (ok_impl_newConic _) (by kernel_rfl) (fun _ => rfl) (fun r1 hr1 => ?_) (fun r1 hr1 => ?_)
  · refine Run.z [true, true, true, true, true] ?_
    exact Run.x 0
  · refine Run.z [false, false] ?_
    refine Run.q (e := vB) (gv := vT_Pn_I) (ok_impl_ValidPoint _) fun r2 hr2 => ?_
    refine Run.z [false, false] ?_
    refine Run.y (gv := vT_Pn_I) (fun h3 => ?_) (fun h3 => ?_)
    · exact Run.x 0
    · refine Run.q (e := vB) (gv := vT_Pn_I) (ok_impl_isPole _) fun r4 hr4 => ?_
      refine Run.y (gv := vT_Pn_I) (fun h5 => ?_) (fun h5 => ?_)
      · refine Run.z [true, true, true] ?_
        refine Run.y (gv := vT_Pn_I) (fun h6 => ?_) (fun h6 => ?_)
        · exact Run.x 0
        · refine Run.q (e := vIv) (gv := vT_Pn_I) (ok_impl_LatOf _) fun r7 hr7 => ?_
          refine Run.w (e := vIv) (gv := vT_Pn_I) [3] (ok_impl_conic_radius__pCn _ _) fun r8 hr8 => ?_
          refine Run.q (e := vIv) (gv := vT_Pn_I) (ok_impl_LonFrom _ _) fun r9 hr9 => ?_
          refine Run.q (e := vIv) (gv := vT_Pn_I) (ok_impl_MulI _ _) fun r10 hr10 => ?_
          refine Run.q (e := vIv) (gv := vT_Pn_I) (ok_impl_SinI _) fun r11 hr11 => ?_
          refine Run.q (e := vIv) (gv := vT_Pn_I) (ok_impl_MulI _ _) fun r12 hr12 => ?_
          refine Run.w (e := vIv) (gv := vT_Pn_I) [3] (ok_impl_conic_radius__pCn _ _) fun r13 hr13 => ?_
          refine Run.q (e := vIv) (gv := vT_Pn_I) (ok_impl_CosI _) fun r14 hr14 => ?_
          refine Run.q (e := vIv) (gv := vT_Pn_I) (ok_impl_MulI _ _) fun r15 hr15 => ?_
          refine Run.q (e := vIv) (gv := vT_Pn_I) (ok_impl_SubI _ _) fun r16 hr16 => ?_
          refine Run.q (e := vT_Pn_I) (gv := vT_Pn_I) (ok_impl_planar _ _) fun r17 hr17 => ?_
          exact Run.x 0
      · refine Run.z [false, false, false, false] ?_
        refine Run.q (e := vIv) (gv := vT_Pn_I) (ok_impl_LatOf _) fun r18 hr18 => ?_
        refine Run.w (e := vIv) (gv := vT_Pn_I) [3] (ok_impl_conic_radius__pCn _ _) fun r19 hr19 => ?_
        refine Run.q (e := vIv) (gv := vT_Pn_I) (ok_impl_LonFrom _ _) fun r20 hr20 => ?_
        refine Run.q (e := vIv) (gv := vT_Pn_I) (ok_impl_MulI _ _) fun r21 hr21 => ?_
        refine Run.q (e := vIv) (gv := vT_Pn_I) (ok_impl_SinI _) fun r22 hr22 => ?_
        refine Run.q (e := vIv) (gv := vT_Pn_I) (ok_impl_MulI _ _) fun r23 hr23 => ?_
        refine Run.w (e := vIv) (gv := vT_Pn_I) [3] (ok_impl_conic_radius__pCn _ _) fun r24 hr24 => ?_
        refine Run.q (e := vIv) (gv := vT_Pn_I) (ok_impl_CosI _) fun r25 hr25 => ?_
        refine Run.q (e := vIv) (gv := vT_Pn_I) (ok_impl_MulI _ _) fun r26 hr26 => ?_
        refine Run.q (e := vIv) (gv := vT_Pn_I) (ok_impl_SubI _ _) fun r27 hr27 => ?_
        refine Run.q (e := vT_Pn_I) (gv := vT_Pn_I) (ok_impl_planar _ _) fun r28 hr28 => ?_
        exact Run.x 0

theorem ok_impl_isPseudoOne (a0 : Pj) : Fun Tryz.prog 140 [] #[vPj a0] (vB (F_impl_isPseudoOne a0)) [] := by
  refine Fun.ofH 400 E_ok mixed Tryz.func140 (by kernel_rfl) (by kernel_rfl) ?_
  unfold F_impl_isPseudoOne
  refine Run.q (e := vB) (gv := vB) (ok_impl_ValidProjection _) fun r1 _ => ?_
  refine Run.y (gv := vB) (fun _ => ?_) (fun _ => ?_)
  · refine Run.z [true, true] ?_
    refine Run.q (e := vB) (gv := vB) (ok_impl_isPseudo _) fun r2 _ => ?_
    refine Run.z [true] ?_
    exact Run.x 0
  · refine Run.z [false, false, false] ?_
    exact Run.x 0

theorem ok_impl_PiI : Fun Tryz.prog 163 [] #[] (vIv (F_impl_PiI)) [] := by
  refine Fun.ofH 400 E_ok mixed Tryz.func163 (by kernel_rfl) (by kernel_rfl) ?_
  unfold F_impl_PiI
  refine Run.q (e := vIv) (gv := vIv) (ok_impl_TurnI _) fun r1 _ => ?_
  exact Run.x 0

theorem ok_impl_leftFactor (a0 : I64) : Fun Tryz.prog 272 [] #[vI a0] (vIv (F_impl_leftFactor a0)) [] := by
  refine Fun.ofH 400 E_ok mixed Tryz.func272 (by kernel_rfl) (by kernel_rfl) ?_
  unfold F_impl_leftFactor
  refine Run.y (gv := vIv) (fun _ => ?_) (fun _ => ?_)
  · refine Run.q (e := vIv) (gv := vIv) (ok_impl_PiI) fun r1 _ => ?_
    exact Run.x 0
  · refine Run.q (e := vIv) (gv := vIv) (ok_impl_Integer _) fun r2 _ => ?_
    refine Run.q (e := vIv) (gv := vIv) (ok_impl_TurnI _) fun r3 _ => ?_
    refine Run.q (e := vIv) (gv := vIv) (ok_impl_AddI _ _) fun r4 _ => ?_
    exact Run.x 0

theorem ok_impl_quarter : Fun Tryz.prog 266 [] #[] (vI (F_impl_quarter)) [] := by
  refine Fun.ofH 400 E_ok mixed Tryz.func266 (by kernel_rfl) (by kernel_rfl) ?_
  unfold F_impl_quarter
  refine Run.q (e := vIv) (gv := vI) (ok_impl_TurnI _) fun r1 _ => ?_
  exact Run.x 0

theorem ok_impl_leftSide (a0 : I64) (a1 : I64) : Fun Tryz.prog 372 [] #[vI a0, vI a1] (vIv (F_impl_leftSide a0 a1)) [] := by
  refine Fun.ofH 400 E_ok mixed Tryz.func372 (by kernel_rfl) (by kernel_rfl) ?_
  unfold F_impl_leftSide
  refine Run.q (e := vIv) (gv := vIv) (ok_impl_at _) fun r1 _ => ?_
  refine Run.y (gv := vIv) (fun _ => ?_) (fun _ => ?_)
  · refine Run.q (e := vIv) (gv := vIv) (ok_impl_at _) fun r2 _ => ?_
    refine Run.q (e := vIv) (gv := vIv) (ok_impl_SinI _) fun r3 _ => ?_
    refine Run.q (e := vIv) (gv := vIv) (ok_impl_AddI _ _) fun r4 _ => ?_
    exact Run.x 0
  · refine Run.q (e := vIv) (gv := vIv) (ok_impl_SinI _) fun r5 _ => ?_
    refine Run.q (e := vIv) (gv := vIv) (ok_impl_AddI _ _) fun r6 _ => ?_
    exact Run.x 0

theorem ok_impl_parameterAt_L1 : ∀ (fu : Nat) (a0 : I64) (a1 : I64) (x_low : I64) (x_lowq : I64) (x_high : I64) (q0 : 0 ≤ x_lowq.val) (q1 : x_lowq.val ≤ x_high.val) (q2 : x_high.val ≤ 6746518853) (hm : (x_high.val - x_lowq.val).toNat < fu) (t : Array Value) (ht : maskA t [2, 3, 7, 9, 10, 11, 12, 13, 14, 15, 16, 17, 18, 19, 20, 21, 22, 23, 24, 25, 26, 27, 28, 29, 30, 31, 32, 33, 34, 35, 36, 37, 38, 39, 40, 41, 42, 43, 44, 45, 46, 47, 48, 49, 50, 51, 52, 53, 54, 55, 56, 57, 58, 59, 60, 61] = #[.int .i64 a0.val, .int .i64 a1.val, undef, undef, .pointer (some ⟨0, 0, none⟩), .int .i64 x_lowq.val, .int .i64 x_high.val, undef, .pointer (some ⟨1, 0, none⟩), undef, undef, undef, undef, undef, undef, undef, undef, undef, undef, undef, undef, undef, undef, undef, undef, undef, undef, undef, undef, undef, undef, undef, undef, undef, undef, undef, undef, undef, undef, undef, undef, undef, undef, undef, undef, undef, undef, undef, undef, undef, undef, undef, undef, undef, undef, undef, undef, undef, undef, undef, undef, undef]), Cfg Tryz.prog 322 (loopAt Tryz.f322 1) t [(#[.int .i64 0, .int .i64 0], 27), (#[.int .i64 x_low.val, .int .i64 0], 27)] (RvH [] (vIv (F_impl_parameterAt_L1 fu a0 a1 x_low x_lowq x_high))) := by
  intro fu
  induction fu with
  | zero => intro a0 a1 x_low x_lowq x_high q0 q1 q2 hm; exact absurd hm (Nat.not_lt_zero _)
  | succ fu ih =>
    intro a0 a1 x_low x_lowq x_high q0 q1 q2 hm t ht
    refine Cfg.round E_ok mixed Tryz.func322 ht fun g => ?_
    unfold F_impl_parameterAt_L1
    refine Run.y (gv := vIv) (fun h12 => ?_) (fun h12 => ?_)
    · refine Run.z [true] ?_
      refine Run.q (e := vIv) (gv := vIv) (ok_impl_leftSide _ _) fun r13 hr13 => ?_
      refine Run.y (gv := vIv) (fun h14 => ?_) (fun h14 => ?_)
      · exact Run.l (by kernel_rfl) (by kernel_rfl) (by kernel_rfl) (by kernel_rfl) (ih a0 a1 x_low x_lowq (ishr (w64 (x_lowq.val + x_high.val)) 1) (by first | exact Nat.lt_succ_self _ | (simp only [shr1_val, w64_val, c64_val, decide_eq_true_eq, decide_eq_false_iff_not, cond_true, cond_false] at *; omega)) (by first | exact Nat.lt_succ_self _ | (simp only [shr1_val, w64_val, c64_val, decide_eq_true_eq, decide_eq_false_iff_not, cond_true, cond_false] at *; omega)) (by first | exact Nat.lt_succ_self _ | (simp only [shr1_val, w64_val, c64_val, decide_eq_true_eq, decide_eq_false_iff_not, cond_true, cond_false] at *; omega)) (by first | exact Nat.lt_succ_self _ | (simp only [shr1_val, w64_val, c64_val, decide_eq_true_eq, decide_eq_false_iff_not, cond_true, cond_false] at *; omega)))
      · exact Run.l (by kernel_rfl) (by kernel_rfl) (by kernel_rfl) (by kernel_rfl) (ih a0 a1 x_low (ishr (w64 (x_lowq.val + x_high.val)) 1) x_high (by first | exact Nat.lt_succ_self _ | (simp only [shr1_val, w64_val, c64_val, decide_eq_true_eq, decide_eq_false_iff_not, cond_true, cond_false] at *; omega)) (by first | exact Nat.lt_succ_self _ | (simp only [shr1_val, w64_val, c64_val, decide_eq_true_eq, decide_eq_false_iff_not, cond_true, cond_false] at *; omega)) (by first | exact Nat.lt_succ_self _ | (simp only [shr1_val, w64_val, c64_val, decide_eq_true_eq, decide_eq_false_iff_not, cond_true, cond_false] at *; omega)) (by first | exact Nat.lt_succ_self _ | (simp only [shr1_val, w64_val, c64_val, decide_eq_true_eq, decide_eq_false_iff_not, cond_true, cond_false] at *; omega)))
    · exact Run.x 0

theorem ok_impl_parameterAt_L0 : ∀ (fu : Nat) (a0 : I64) (a1 : I64) (x_low : I64) (x_high : I64) (q0 : 0 ≤ x_low.val) (q1 : x_low.val ≤ x_high.val) (q2 : x_high.val ≤ 6746518853) (hm : (x_high.val - x_low.val).toNat < fu) (t : Array Value) (ht : maskA t [2, 3, 7, 8, 9, 10, 11, 12, 13, 14, 15, 16, 17, 18, 19, 20, 21, 22, 23, 24, 25, 26, 27, 28, 29, 30, 31, 32, 33, 34, 35, 36, 37, 38, 39, 40, 41, 42, 43, 44, 45, 46, 47, 48, 49, 50, 51, 52, 53, 54, 55, 56, 57, 58, 59, 60, 61] = #[.int .i64 a0.val, .int .i64 a1.val, undef, undef, .pointer (some ⟨0, 0, none⟩), .int .i64 x_low.val, .int .i64 x_high.val, undef, undef, undef, undef, undef, undef, undef, undef, undef, undef, undef, undef, undef, undef, undef, undef, undef, undef, undef, undef, undef, undef, undef, undef, undef, undef, undef, undef, undef, undef, undef, undef, undef, undef, undef, undef, undef, undef, undef, undef, undef, undef, undef, undef, undef, undef, undef, undef, undef, undef, undef, undef, undef, undef, undef]), Cfg Tryz.prog 322 (loopAt Tryz.f322 0) t [(#[.int .i64 0, .int .i64 0], 27)] (RvH [] (vIv (F_impl_parameterAt_L0 fu a0 a1 x_low x_high))) := by
  intro fu
  induction fu with
  | zero => intro a0 a1 x_low x_high q0 q1 q2 hm; exact absurd hm (Nat.not_lt_zero _)
  | succ fu ih =>
    intro a0 a1 x_low x_high q0 q1 q2 hm t ht
    refine Cfg.round E_ok mixed Tryz.func322 ht fun g => ?_
    unfold F_impl_parameterAt_L0
    refine Run.y (gv := vIv) (fun h8 => ?_) (fun h8 => ?_)
    · refine Run.z [true] ?_
      refine Run.q (e := vIv) (gv := vIv) (ok_impl_leftSide _ _) fun r9 hr9 => ?_
      refine Run.y (gv := vIv) (fun h10 => ?_) (fun h10 => ?_)
      · exact Run.l (by kernel_rfl) (by kernel_rfl) (by kernel_rfl) (by kernel_rfl) (ih a0 a1 (ishr (w64 (x_low.val + x_high.val)) 1) x_high (by first | exact Nat.lt_succ_self _ | (simp only [shr1_val, w64_val, c64_val, decide_eq_true_eq, decide_eq_false_iff_not, cond_true, cond_false] at *; omega)) (by first | exact Nat.lt_succ_self _ | (simp only [shr1_val, w64_val, c64_val, decide_eq_true_eq, decide_eq_false_iff_not, cond_true, cond_false] at *; omega)) (by first | exact Nat.lt_succ_self _ | (simp only [shr1_val, w64_val, c64_val, decide_eq_true_eq, decide_eq_false_iff_not, cond_true, cond_false] at *; omega)) (by first | exact Nat.lt_succ_self _ | (simp only [shr1_val, w64_val, c64_val, decide_eq_true_eq, decide_eq_false_iff_not, cond_true, cond_false] at *; omega)))
      · exact Run.l (by kernel_rfl) (by kernel_rfl) (by kernel_rfl) (by kernel_rfl) (ih a0 a1 x_low (ishr (w64 (x_low.val + x_high.val)) 1) (by first | exact Nat.lt_succ_self _ | (simp only [shr1_val, w64_val, c64_val, decide_eq_true_eq, decide_eq_false_iff_not, cond_true, cond_false] at *; omega)) (by first | exact Nat.lt_succ_self _ | (simp only [shr1_val, w64_val, c64_val, decide_eq_true_eq, decide_eq_false_iff_not, cond_true, cond_false] at *; omega)) (by first | exact Nat.lt_succ_self _ | (simp only [shr1_val, w64_val, c64_val, decide_eq_true_eq, decide_eq_false_iff_not, cond_true, cond_false] at *; omega)) (by first | exact Nat.lt_succ_self _ | (simp only [shr1_val, w64_val, c64_val, decide_eq_true_eq, decide_eq_false_iff_not, cond_true, cond_false] at *; omega)))
    · refine Run.q (e := vI) (gv := vIv) (ok_impl_quarter) fun r11 hr11 => ?_
      exact Run.l (by kernel_rfl) (by kernel_rfl) (by kernel_rfl) (by kernel_rfl) (ok_impl_parameterAt_L1 ((r11.val - x_low.val).toNat + 1) a0 a1 x_low x_low r11 (by first | exact Nat.lt_succ_self _ | (have z := impl_quarter1; (first | rw [← hr7] at z | rw [← hr11] at z); (try simp only [c64_val]); omega)) (by first | exact Nat.lt_succ_self _ | (have z := impl_quarter1; (first | rw [← hr7] at z | rw [← hr11] at z); (try simp only [c64_val]); omega)) (by first | exact Nat.lt_succ_self _ | (have z := impl_quarter1; (first | rw [← hr7] at z | rw [← hr11] at z); (try simp only [c64_val]); omega)) (by first | exact Nat.lt_succ_self _ | (have z := impl_quarter1; (first | rw [← hr7] at z | rw [← hr11] at z); (try simp only [c64_val]); omega)))

theorem ok_impl_parameterAt_r : ∀ (fu : Nat) (a0 : I64) (a1 : I64) (hm : min (0 - a1.val).toNat 1 < fu), Fun Tryz.prog 322 [] #[vI a0, vI a1] (vIv (F_impl_parameterAt_r fu a0 a1)) [] := by
  intro fu
  induction fu with
  | zero => intro a0 a1 hm; exact absurd hm (Nat.not_lt_zero _)
  | succ fu ih =>
    intro a0 a1 hm
    refine Fun.ofH 400 E_ok mixed Tryz.func322 (by kernel_rfl) (by kernel_rfl) ?_
    unfold F_impl_parameterAt_r
    refine Run.q (e := vB) (gv := vIv) (ok_impl_ValidFix _) fun r1 hr1 => ?_
    refine Run.y (gv := vIv) (fun h2 => ?_) (fun h2 => ?_)
    · refine Run.q (e := vIv) (gv := vIv) (ok_impl_halfCircle) fun r3 hr3 => ?_
      exact Run.x 0
    · refine Run.y (gv := vIv) (fun h4 => ?_) (fun h4 => ?_)
      · refine Run.q (e := vIv) (gv := vIv) (ih a0 (w64 (0 - a1.val)) (by have q := a1.lo; rw [hr1] at h2; simp [F_impl_ValidFix, F_impl_within, bindP, c64_val] at h2; simp only [w64_val, decide_eq_true_eq, decide_eq_false_iff_not] at *; omega)) fun r5 hr5 => ?_
        refine Run.q (e := vIv) (gv := vIv) (ok_impl_NegI _) fun r6 hr6 => ?_
        exact Run.x 0
      · refine Run.q (e := vI) (gv := vIv) (ok_impl_quarter) fun r7 hr7 => ?_
        exact Run.l (by kernel_rfl) (by kernel_rfl) (by kernel_rfl) (by kernel_rfl) (ok_impl_parameterAt_L0 ((r7.val - (c64 0).val).toNat + 1) a0 a1 (c64 0) r7 (by first | exact Nat.lt_succ_self _ | (have z := impl_quarter1; (first | rw [← hr7] at z | rw [← hr11] at z); (try simp only [c64_val]); omega)) (by first | exact Nat.lt_succ_self _ | (have z := impl_quarter1; (first | rw [← hr7] at z | rw [← hr11] at z); (try simp only [c64_val]); omega)) (by first | exact Nat.lt_succ_self _ | (have z := impl_quarter1; (first | rw [← hr7] at z | rw [← hr11] at z); (try simp only [c64_val]); omega)) (by first | exact Nat.lt_succ_self _ | (have z := impl_quarter1; (first | rw [← hr7] at z | rw [← hr11] at z); (try simp only [c64_val]); omega)))
theorem ok_impl_parameterAt (a0 : I64) (a1 : I64) : Fun Tryz.prog 322 [] #[vI a0, vI a1] (vIv (F_impl_parameterAt a0 a1)) [] := ok_impl_parameterAt_r 2 a0 a1 (by omega)

theorem ok_impl_ThetaOf (a0 : I64) (a1 : Iv) : Fun Tryz.prog 248 [] #[vI a0, vIv a1] (vIv (F_impl_ThetaOf a0 a1)) [] := by
  refine Fun.ofH 400 E_ok mixed Tryz.func248 (by kernel_rfl) (by kernel_rfl) ?_
  unfold F_impl_ThetaOf
  refine Run.q (e := vB) (gv := vIv) (ok_impl_isPseudo _) fun r1 _ => ?_
  refine Run.y (gv := vIv) (fun _ => ?_) (fun _ => ?_)
  · refine Run.q (e := vIv) (gv := vIv) (ok_impl_Whole) fun r2 _ => ?_
    exact Run.x 0
  · refine Run.y (gv := vIv) (fun _ => ?_) (fun _ => ?_)
    · exact Run.x 0
    · refine Run.q (e := vIv) (gv := vIv) (ok_impl_leftFactor _) fun r3 _ => ?_
      refine Run.q (e := vIv) (gv := vIv) (ok_impl_SinI _) fun r4 _ => ?_
      refine Run.q (e := vIv) (gv := vIv) (ok_impl_MulI _ _) fun r5 _ => ?_
      refine Run.q (e := vIv) (gv := vIv) (ok_impl_parameterAt _ _) fun r6 _ => ?_
      refine Run.q (e := vIv) (gv := vIv) (ok_impl_parameterAt _ _) fun r7 _ => ?_
      refine Run.q (e := vIv) (gv := vIv) (ok_impl_HullI _ _) fun r8 _ => ?_
      exact Run.x 0

theorem ok_impl_pseudoRadius (a0 : I64) : Fun Tryz.prog 271 [] #[vI a0] (vIv (F_impl_pseudoRadius a0)) [] := by
  refine Fun.ofH 400 E_ok mixed Tryz.func271 (by kernel_rfl) (by kernel_rfl) ?_
  unfold F_impl_pseudoRadius
  refine Run.y (gv := vIv) (fun _ => ?_) (fun _ => ?_)
  · refine Run.q (e := vIv) (gv := vIv) (ok_impl_Integer _) fun r1 _ => ?_
    refine Run.q (e := vIv) (gv := vIv) (ok_impl_SqrtI _) fun r2 _ => ?_
    exact Run.x 0
  · refine Run.q (e := vIv) (gv := vIv) (ok_impl_Integer _) fun r3 _ => ?_
    refine Run.q (e := vIv) (gv := vIv) (ok_impl_PiI) fun r4 _ => ?_
    refine Run.q (e := vIv) (gv := vIv) (ok_impl_AddI _ _) fun r5 _ => ?_
    refine Run.q (e := vIv) (gv := vIv) (ok_impl_SqrtI _) fun r6 _ => ?_
    exact Run.x 0

end Go.Proofs.YtjckiicaegpghaaGreat.Abs
