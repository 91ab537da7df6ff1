/- The program's functions are these; part 1 (written by w.py). -/
import Derived.Test.YtgofhiehdpggkaaGreatK0
import Derived.Test.YtgofhiehdpggkaaGreatF5
set_option linter.unusedVariables false
set_option linter.unusedSimpArgs false
namespace Go.Proofs.YtgofhiehdpggkaaGreat.Abs
open Go Go.RowKit

theorem ok_spec_l06Over_L0 : ∀ (fu : Nat) (a1 : I64) (a0 : Iv) (x_k : I64) (y_2 : Iv) (hm : (2000 - x_k.val).toNat < fu) (t : Array Value) (ht : maskA t [0, 3, 7, 8, 9, 10, 11, 12, 13, 14, 15, 16, 17, 18, 19, 20, 21, 22, 23, 24, 25, 26, 27, 28, 29, 30, 31, 32, 33, 34, 35, 36, 37, 38, 39, 40, 41, 42, 43, 44, 45, 46, 47, 48, 49, 50, 51] = #[undef, .int .i64 a1.val, .pointer (some ⟨0, 0, none⟩), undef, .pointer (some ⟨1, 0, none⟩), .pointer (some ⟨2, 0, none⟩), .int .i64 x_k.val, undef, undef, undef, undef, undef, undef, undef, undef, undef, undef, undef, undef, undef, undef, undef, undef, undef, undef, undef, undef, undef, undef, undef, undef, undef, undef, undef, undef, undef, undef, undef, undef, undef, undef, undef, undef, undef, undef, undef, undef, undef, undef, undef, undef, undef]), Cfg Tryz.prog 118 (loopAt Tryz.f118 0) t [(#[.int .i64 a0.lo.val, .int .i64 a0.hi.val], 25), (#[.int .i64 0, .int .i64 0], 25), (#[.int .i64 y_2.lo.val, .int .i64 y_2.hi.val], 25)] (RvH [] (vIv (F_spec_l06Over_L0 fu a1 a0 x_k y_2))) := by
  intro fu
  induction fu with
  | zero => intro a1 a0 x_k y_2 hm; exact absurd hm (Nat.not_lt_zero _)
  | succ fu ih =>
    intro a1 a0 x_k y_2 hm t ht
    refine Cfg.round E_ok mixed Tryz.func118 ht fun g => ?_
    unfold F_spec_l06Over_L0
    refine Run.q (e := vI) (gv := vIv) (ok_spec_QuarterOf _) fun r8 hr8 => ?_
    refine Run.y (gv := vIv) (fun h9 => ?_) (fun h9 => ?_)
    · refine Run.q (e := vIv) (gv := vIv) (ok_spec_TurnI _) fun r10 hr10 => ?_
      refine Run.q (e := vB) (gv := vIv) (ok_spec_OverlapI _ _) fun r11 hr11 => ?_
      refine Run.y (gv := vIv) (fun h12 => ?_) (fun h12 => ?_)
      · exact Run.l (by kernel_rfl) (by kernel_rfl) (by kernel_rfl) (by kernel_rfl) (ih a1 a0 (w64 (x_k.val + 1)) y_2 (by have q1 := x_k.lo; first | exact Nat.lt_succ_self _ | (have q2 := spec_quarter_le a0.hi; have q3 := spec_quarter_ge a0.hi; simp only [w64_val, decide_eq_true_eq, decide_eq_false_iff_not, *] at *; omega)))
      · refine Run.y (gv := vIv) (fun h13 => ?_) (fun h13 => ?_)
        · refine Run.q (e := vIv) (gv := vIv) (ok_spec_Integer _) fun r14 hr14 => ?_
          refine Run.q (e := vIv) (gv := vIv) (ok_spec_HullI _ _) fun r15 hr15 => ?_
          exact Run.l (by kernel_rfl) (by kernel_rfl) (by kernel_rfl) (by kernel_rfl) (ih a1 a0 (w64 (x_k.val + 1)) r15 (by have q1 := x_k.lo; first | exact Nat.lt_succ_self _ | (have q2 := spec_quarter_le a0.hi; have q3 := spec_quarter_ge a0.hi; simp only [w64_val, decide_eq_true_eq, decide_eq_false_iff_not, *] at *; omega)))
        · refine Run.y (gv := vIv) (fun h16 => ?_) (fun h16 => ?_)
          · refine Run.q (e := vIv) (gv := vIv) (ok_spec_Integer _) fun r17 hr17 => ?_
            refine Run.q (e := vIv) (gv := vIv) (ok_spec_HullI _ _) fun r18 hr18 => ?_
            exact Run.l (by kernel_rfl) (by kernel_rfl) (by kernel_rfl) (by kernel_rfl) (ih a1 a0 (w64 (x_k.val + 1)) r18 (by have q1 := x_k.lo; first | exact Nat.lt_succ_self _ | (have q2 := spec_quarter_le a0.hi; have q3 := spec_quarter_ge a0.hi; simp only [w64_val, decide_eq_true_eq, decide_eq_false_iff_not, *] at *; omega)))
          · exact Run.l (by kernel_rfl) (by kernel_rfl) (by kernel_rfl) (by kernel_rfl) (ih a1 a0 (w64 (x_k.val + 1)) y_2 (by have q1 := x_k.lo; first | exact Nat.lt_succ_self _ | (have q2 := spec_quarter_le a0.hi; have q3 := spec_quarter_ge a0.hi; simp only [w64_val, decide_eq_true_eq, decide_eq_false_iff_not, *] at *; omega)))
    · exact Run.x 0

theorem ok_spec_l06Over (a0 : Iv) (a1 : I64) : Fun Tryz.prog 118 [] #[vIv a0, vI a1] (vIv (F_spec_l06Over a0 a1)) [] := by
  refine Fun.ofH 400 E_ok mixed Tryz.func118 (by kernel_rfl) (by kernel_rfl) ?_
  unfold F_spec_l06Over
  refine Run.q (e := vB) (gv := vIv) (ok_spec_l06Fits _) fun r1 hr1 => ?_
  refine Run.y (gv := vIv) (fun h2 => ?_) (fun h2 => ?_)
  · refine Run.q (e := vIv) (gv := vIv) (ok_spec_l06Ring) fun r3 hr3 => ?_
    exact Run.x 0
  · refine Run.q (e := vIv) (gv := vIv) (ok_spec_l06At _ _) fun r4 hr4 => ?_
    refine Run.q (e := vIv) (gv := vIv) (ok_spec_l06At _ _) fun r5 hr5 => ?_
    refine Run.q (e := vIv) (gv := vIv) (ok_spec_HullI _ _) fun r6 hr6 => ?_
    refine Run.q (e := vI) (gv := vIv) (ok_spec_QuarterOf _) fun r7 hr7 => ?_
    exact Run.l (by kernel_rfl) (by kernel_rfl) (by kernel_rfl) (by kernel_rfl) (ok_spec_l06Over_L0 ((2000 - (w64 (r7.val - 1)).val).toNat + 1) a1 a0 (w64 (r7.val - 1)) r6 (by exact Nat.lt_succ_self _))

theorem ok_spec_SinI (a0 : Iv) : Fun Tryz.prog 43 [] #[vIv a0] (vIv (F_spec_SinI a0)) [] := by
  refine Fun.ofH 400 E_ok mixed Tryz.func43 (by kernel_rfl) (by kernel_rfl) ?_
  unfold F_spec_SinI
  refine Run.q (e := vIv) (gv := vIv) (ok_spec_l06Over _ _) fun r1 _ => ?_
  exact Run.x 0

theorem ok_spec_HalfI (a0 : Iv) : Fun Tryz.prog 98 [] #[vIv a0] (vIv (F_spec_HalfI a0)) [] := by
  refine Fun.ofH 400 E_ok mixed Tryz.func98 (by kernel_rfl) (by kernel_rfl) ?_
  unfold F_spec_HalfI
  refine Run.q (e := vB) (gv := vIv) (ok_spec_l04Ok _) fun r1 _ => ?_
  refine Run.y (gv := vIv) (fun _ => ?_) (fun _ => ?_)
  · refine Run.q (e := vIv) (gv := vIv) (ok_spec_l04Whole) fun r2 _ => ?_
    exact Run.x 0
  · refine Run.z [true, true] ?_
    refine Run.q (e := vIv) (gv := vIv) (ok_spec_l04Make _ _) fun r3 _ => ?_
    exact Run.x 0

theorem ok_spec_CosI (a0 : Iv) : Fun Tryz.prog 49 [] #[vIv a0] (vIv (F_spec_CosI a0)) [] := by
  refine Fun.ofH 400 E_ok mixed Tryz.func49 (by kernel_rfl) (by kernel_rfl) ?_
  unfold F_spec_CosI
  refine Run.q (e := vIv) (gv := vIv) (ok_spec_l06Over _ _) fun r1 _ => ?_
  exact Run.x 0

theorem ok_spec_l08At (a0 : I64) : Fun Tryz.prog 242 [] #[vI a0] (vIv (F_spec_l08At a0)) [] := by
  refine Fun.ofH 400 E_ok mixed Tryz.func242 (by kernel_rfl) (by kernel_rfl) ?_
  unfold F_spec_l08At
  refine Run.q (e := vIv) (gv := vIv) (ok_spec_l04Make _ _) fun r1 _ => ?_
  exact Run.x 0

theorem ok_spec_l08One : Fun Tryz.prog 234 [] #[] (vIv (F_spec_l08One)) [] := by
  refine Fun.ofH 400 E_ok mixed Tryz.func234 (by kernel_rfl) (by kernel_rfl) ?_
  unfold F_spec_l08One
  refine Run.q (e := vIv) (gv := vIv) (ok_spec_l08At _) fun r1 _ => ?_
  exact Run.x 0

theorem ok_spec_l03Floor (a0 : I64) (a1 : I64) : Fun Tryz.prog 277 [] #[vI a0, vI a1] (vT_I_B (F_spec_l03Floor a0 a1)) [] := by
  refine Fun.ofH 400 E_ok mixed Tryz.func277 (by kernel_rfl) (by kernel_rfl) ?_
  unfold F_spec_l03Floor
  refine Run.y (gv := vT_I_B) (fun _ => ?_) (fun _ => ?_)
  · exact Run.x 0
  · refine Run.q (e := vT_I_B) (gv := vT_I_B) (ok_spec_MulDivFloor _ _ _) fun r1 _ => ?_
    refine Run.q (e := vT_I_B) (gv := vT_I_B) (ok_spec_l03End _ _) fun r2 _ => ?_
    exact Run.x 0

theorem ok_spec_l03Ceil (a0 : I64) (a1 : I64) : Fun Tryz.prog 278 [] #[vI a0, vI a1] (vT_I_B (F_spec_l03Ceil a0 a1)) [] := by
  refine Fun.ofH 400 E_ok mixed Tryz.func278 (by kernel_rfl) (by kernel_rfl) ?_
  unfold F_spec_l03Ceil
  refine Run.y (gv := vT_I_B) (fun _ => ?_) (fun _ => ?_)
  · exact Run.x 0
  · refine Run.q (e := vT_I_B) (gv := vT_I_B) (ok_spec_MulDivFloor _ _ _) fun r1 _ => ?_
    refine Run.y (gv := vT_I_B) (fun _ => ?_) (fun _ => ?_)
    · exact Run.x 0
    · refine Run.y (gv := vT_I_B) (fun _ => ?_) (fun _ => ?_)
      · refine Run.q (e := vT_I_B) (gv := vT_I_B) (ok_spec_l03End _ _) fun r2 _ => ?_
        exact Run.x 0
      · refine Run.q (e := vT_I_B) (gv := vT_I_B) (ok_spec_l03End _ _) fun r3 _ => ?_
        exact Run.x 0

theorem ok_spec_Quotient (a0 : I64) (a1 : I64) : Fun Tryz.prog 235 [] #[vI a0, vI a1] (vIv (F_spec_Quotient a0 a1)) [] := by
  refine Fun.ofH 400 E_ok mixed Tryz.func235 (by kernel_rfl) (by kernel_rfl) ?_
  unfold F_spec_Quotient
  refine Run.y (gv := vIv) (fun _ => ?_) (fun _ => ?_)
  · refine Run.y (gv := vIv) (fun _ => ?_) (fun _ => ?_)
    · refine Run.z [true, true, true] ?_
      refine Run.q (e := vIv) (gv := vIv) (ok_spec_l04Whole) fun r1 _ => ?_
      exact Run.x 0
    · refine Run.z [false, false] ?_
      refine Run.y (gv := vIv) (fun _ => ?_) (fun _ => ?_)
      · refine Run.q (e := vIv) (gv := vIv) (ok_spec_l04Whole) fun r2 _ => ?_
        exact Run.x 0
      · refine Run.q (e := vT_I_B) (gv := vIv) (ok_spec_l03Floor _ _) fun r3 _ => ?_
        refine Run.q (e := vT_I_B) (gv := vIv) (ok_spec_l03Ceil _ _) fun r4 _ => ?_
        refine Run.y (gv := vIv) (fun _ => ?_) (fun _ => ?_)
        · refine Run.z [true, true, true] ?_
          refine Run.q (e := vIv) (gv := vIv) (ok_spec_l04Whole) fun r5 _ => ?_
          exact Run.x 0
        · refine Run.z [false, false] ?_
          refine Run.y (gv := vIv) (fun _ => ?_) (fun _ => ?_)
          · refine Run.q (e := vIv) (gv := vIv) (ok_spec_l04Whole) fun r6 _ => ?_
            exact Run.x 0
          · refine Run.q (e := vIv) (gv := vIv) (ok_spec_l04Make _ _) fun r7 _ => ?_
            exact Run.x 0
  · refine Run.q (e := vT_I_B) (gv := vIv) (ok_spec_l03Floor _ _) fun r8 _ => ?_
    refine Run.q (e := vT_I_B) (gv := vIv) (ok_spec_l03Ceil _ _) fun r9 _ => ?_
    refine Run.y (gv := vIv) (fun _ => ?_) (fun _ => ?_)
    · refine Run.z [true, true, true] ?_
      refine Run.q (e := vIv) (gv := vIv) (ok_spec_l04Whole) fun r10 _ => ?_
      exact Run.x 0
    · refine Run.z [false, false] ?_
      refine Run.y (gv := vIv) (fun _ => ?_) (fun _ => ?_)
      · refine Run.q (e := vIv) (gv := vIv) (ok_spec_l04Whole) fun r11 _ => ?_
        exact Run.x 0
      · refine Run.q (e := vIv) (gv := vIv) (ok_spec_l04Make _ _) fun r12 _ => ?_
        exact Run.x 0

theorem ok_spec_l08Widen (a0 : Iv) (a1 : I64) : Fun Tryz.prog 236 [] #[vIv a0, vI a1] (vIv (F_spec_l08Widen a0 a1)) [] := by
  refine Fun.ofH 400 E_ok mixed Tryz.func236 (by kernel_rfl) (by kernel_rfl) ?_
  unfold F_spec_l08Widen
  refine Run.q (e := vB) (gv := vIv) (ok_spec_l04Ok _) fun r1 _ => ?_
  refine Run.y (gv := vIv) (fun _ => ?_) (fun _ => ?_)
  · refine Run.q (e := vIv) (gv := vIv) (ok_spec_l04Whole) fun r2 _ => ?_
    exact Run.x 0
  · refine Run.q (e := vIv) (gv := vIv) (ok_spec_l04Make _ _) fun r3 _ => ?_
    exact Run.x 0

theorem ok_spec_LogTwoI_r : ∀ (fu : Nat) (a0 : I64) (hm : min (0 - a0.val).toNat 1 < fu), Fun Tryz.prog 237 [] #[vI a0] (vIv (F_spec_LogTwoI_r fu a0)) [] := by
  intro fu
  induction fu with
  | zero => intro a0 hm; exact absurd hm (Nat.not_lt_zero _)
  | succ fu ih =>
    intro a0 hm
    refine Fun.ofH 400 E_ok mixed Tryz.func237 (by kernel_rfl) (by kernel_rfl) ?_
    unfold F_spec_LogTwoI_r
    unfold F_spec_LogTwoI_b
    refine Run.q (e := vB) (gv := vIv) (ok_spec_l00In _ _ _) fun r1 hr1 => ?_
    refine Run.y (gv := vIv) (fun h2 => ?_) (fun h2 => ?_)
    · refine Run.q (e := vIv) (gv := vIv) (ok_spec_l04Whole) fun r3 hr3 => ?_
      exact Run.x 0
    · refine Run.y (gv := vIv) (fun h4 => ?_) (fun h4 => ?_)
      · refine Run.q (e := vIv) (gv := vIv) (ih (w64 (0 - a0.val)) (by rw [hr1] at h2; simp [F_spec_l00In, c64_val] at h2; simp only [w64_val, decide_eq_true_eq, decide_eq_false_iff_not] at *; omega)) fun r5 hr5 => ?_
        refine Run.q (e := vIv) (gv := vIv) (ok_spec_NegI _) fun r6 hr6 => ?_
        exact Run.x 0
      · refine Run.q (e := vT_I_B) (gv := vIv) (ok_spec_MulFloor _ _ _) fun r7 hr7 => ?_
        refine Run.q (e := vT_I_B) (gv := vIv) (ok_spec_MulFloor _ _ _) fun r8 hr8 => ?_
        refine Run.q (e := vIv) (gv := vIv) (ok_spec_l04Make _ _) fun r9 hr9 => ?_
        exact Run.x 0
theorem ok_spec_LogTwoI (a0 : I64) : Fun Tryz.prog 237 [] #[vI a0] (vIv (F_spec_LogTwoI a0)) [] := ok_spec_LogTwoI_r 2 a0 (by omega)

theorem ok_spec_LogAt_L1 : ∀ (fu : Nat) (a0 : I64) (x_e : I64) (y_1 : Iv) (q0 : 1 ≤ a0.val) (q1 : a0.val ≤ 1152921504606846976) (q2 : -1000 ≤ x_e.val) (q3 : (x_e.val ≤ 0 ∧ y_1.lo.val = a0.val * 2 ^ (0 - x_e.val).toNat ∧ y_1.lo.val < 6442450944) ∨ 3221225472 ≤ y_1.lo.val) (hm : (64 + x_e.val).toNat < fu) (t : Array Value) (ht : maskA t [1, 5, 6, 7, 8, 9, 10, 11, 12, 13, 14, 15, 16, 17, 18, 19, 20, 21, 22, 23, 24, 25, 26, 27, 28, 29, 30, 31, 32, 33, 34, 35, 36, 37, 38, 39, 40, 41, 42, 43, 44, 45, 46, 47, 48, 49, 50, 51, 52, 53, 54, 55, 56, 57, 58, 59, 60, 61, 62, 63, 64, 65, 66, 67, 68, 69, 70, 71, 72, 73, 74, 75, 76, 77, 78] = #[.int .i64 a0.val, undef, .pointer (some ⟨0, 0, none⟩), .int .i64 x_e.val, .pointer (some ⟨1, 0, none⟩), undef, undef, undef, undef, undef, undef, undef, undef, undef, undef, undef, undef, undef, undef, undef, undef, undef, undef, undef, undef, undef, undef, undef, undef, undef, undef, undef, undef, undef, undef, undef, undef, undef, undef, undef, undef, undef, undef, undef, undef, undef, undef, undef, undef, undef, undef, undef, undef, undef, undef, undef, undef, undef, undef, undef, undef, undef, undef, undef, undef, undef, undef, undef, undef, undef, undef, undef, undef, undef, undef, undef, undef, undef, undef]), Cfg Tryz.prog 180 (loopAt Tryz.f180 1) t [(#[.int .i64 0, .int .i64 0], 25), (#[.int .i64 y_1.lo.val, .int .i64 y_1.hi.val], 25)] (RvH [] (vIv (F_spec_LogAt_L1 fu a0 x_e y_1))) := by
  intro fu
  induction fu with
  | zero => intro a0 x_e y_1 q0 q1 q2 q3 hm; exact absurd hm (Nat.not_lt_zero _)
  | succ fu ih =>
    intro a0 x_e y_1 q0 q1 q2 q3 hm t ht
    refine Cfg.round E_ok mixed Tryz.func180 ht fun g => ?_
    unfold F_spec_LogAt_L1
    refine Run.y (gv := vIv) (fun h5 => ?_) (fun h5 => ?_)
    · refine Run.k (c := (decide (0 ≤ (wu64 (w64 (0 - (w64 (x_e.val - 1)).val)).val).val))) (by kernel_rfl) (by exact decide_eq_true (U64.lo _)) ?_
      refine Run.k (c := (decide (0 ≤ (wu64 (w64 (0 - (w64 (x_e.val - 1)).val)).val).val))) (by kernel_rfl) (by exact decide_eq_true (U64.lo _)) ?_
      exact Run.l (by kernel_rfl) (by kernel_rfl) (by kernel_rfl) (by kernel_rfl) (ih a0 (w64 (x_e.val - 1)) (⟨(ishl .i64 a0.val (wu64 (w64 (0 - (w64 (x_e.val - 1)).val)).val).val), (ishl .i64 a0.val (wu64 (w64 (0 - (w64 (x_e.val - 1)).val)).val).val)⟩ : Iv) (by first | exact q0 | exact q1 | exact Nat.lt_succ_self _ | (have z := spec_two_less a0 x_e y_1 q0 q2 q3 h5; first | exact .inl z.2.2 | (simp only [w64_val]; omega))) (by first | exact q0 | exact q1 | exact Nat.lt_succ_self _ | (have z := spec_two_less a0 x_e y_1 q0 q2 q3 h5; first | exact .inl z.2.2 | (simp only [w64_val]; omega))) (by first | exact q0 | exact q1 | exact Nat.lt_succ_self _ | (have z := spec_two_less a0 x_e y_1 q0 q2 q3 h5; first | exact .inl z.2.2 | (simp only [w64_val]; omega))) (by first | exact q0 | exact q1 | exact Nat.lt_succ_self _ | (have z := spec_two_less a0 x_e y_1 q0 q2 q3 h5; first | exact .inl z.2.2 | (simp only [w64_val]; omega))) (by first | exact q0 | exact q1 | exact Nat.lt_succ_self _ | (have z := spec_two_less a0 x_e y_1 q0 q2 q3 h5; first | exact .inl z.2.2 | (simp only [w64_val]; omega))))
    · refine Run.q (e := vIv) (gv := vIv) (ok_spec_l08One) fun r6 hr6 => ?_
      refine Run.q (e := vIv) (gv := vIv) (ok_spec_SubI _ _) fun r7 hr7 => ?_
      refine Run.q (e := vIv) (gv := vIv) (ok_spec_l08One) fun r8 hr8 => ?_
      refine Run.q (e := vIv) (gv := vIv) (ok_spec_AddI _ _) fun r9 hr9 => ?_
      refine Run.q (e := vIv) (gv := vIv) (ok_spec_DivI _ _) fun r10 hr10 => ?_
      refine Run.q (e := vIv) (gv := vIv) (ok_spec_SqrI _) fun r11 hr11 => ?_
      refine Run.q (e := vIv) (gv := vIv) (ok_spec_Quotient _ _) fun r12 hr12 => ?_
      refine Run.u 400 E_ok mixed Tryz.func180 ?_
      refine Run.z [true] ?_
      refine Run.q (e := vIv) (gv := vIv) (ok_spec_Quotient _ _) fun r13 hr13 => ?_
      refine Run.q (e := vIv) (gv := vIv) (ok_spec_MulI _ _) fun r14 hr14 => ?_
      refine Run.q (e := vIv) (gv := vIv) (ok_spec_AddI _ _) fun r15 hr15 => ?_
      refine Run.u 400 E_ok mixed Tryz.func180 ?_
      refine Run.z [true] ?_
      refine Run.q (e := vIv) (gv := vIv) (ok_spec_Quotient _ _) fun r16 hr16 => ?_
      refine Run.q (e := vIv) (gv := vIv) (ok_spec_MulI _ _) fun r17 hr17 => ?_
      refine Run.q (e := vIv) (gv := vIv) (ok_spec_AddI _ _) fun r18 hr18 => ?_
      refine Run.u 400 E_ok mixed Tryz.func180 ?_
      refine Run.z [true] ?_
      refine Run.q (e := vIv) (gv := vIv) (ok_spec_Quotient _ _) fun r19 hr19 => ?_
      refine Run.q (e := vIv) (gv := vIv) (ok_spec_MulI _ _) fun r20 hr20 => ?_
      refine Run.q (e := vIv) (gv := vIv) (ok_spec_AddI _ _) fun r21 hr21 => ?_
      refine Run.u 400 E_ok mixed Tryz.func180 ?_
      refine Run.z [true] ?_
      refine Run.q (e := vIv) (gv := vIv) (ok_spec_Quotient _ _) fun r22 hr22 => ?_
      refine Run.q (e := vIv) (gv := vIv) (ok_spec_MulI _ _) fun r23 hr23 => ?_
      refine Run.q (e := vIv) (gv := vIv) (ok_spec_AddI _ _) fun r24 hr24 => ?_
      refine Run.u 400 E_ok mixed Tryz.func180 ?_
      refine Run.z [true] ?_
      refine Run.q (e := vIv) (gv := vIv) (ok_spec_Quotient _ _) fun r25 hr25 => ?_
      refine Run.q (e := vIv) (gv := vIv) (ok_spec_MulI _ _) fun r26 hr26 => ?_
      refine Run.q (e := vIv) (gv := vIv) (ok_spec_AddI _ _) fun r27 hr27 => ?_
      refine Run.u 400 E_ok mixed Tryz.func180 ?_
      refine Run.z [false] ?_
      refine Run.q (e := vIv) (gv := vIv) (ok_spec_Integer _) fun r28 hr28 => ?_
      refine Run.q (e := vIv) (gv := vIv) (ok_spec_MulI _ _) fun r29 hr29 => ?_
      refine Run.q (e := vIv) (gv := vIv) (ok_spec_MulI _ _) fun r30 hr30 => ?_
      refine Run.q (e := vIv) (gv := vIv) (ok_spec_l08Widen _ _) fun r31 hr31 => ?_
      refine Run.q (e := vIv) (gv := vIv) (ok_spec_LogTwoI _) fun r32 hr32 => ?_
      refine Run.q (e := vIv) (gv := vIv) (ok_spec_AddI _ _) fun r33 hr33 => ?_
      exact Run.x 0

theorem ok_spec_LogAt_L0 : ∀ (fu : Nat) (a0 : I64) (x_e : I64) (y_1 : Iv) (q0 : 1 ≤ a0.val) (q1 : a0.val ≤ 1152921504606846976) (q2 : 0 ≤ x_e.val ∧ x_e.val ≤ 40) (q3 : y_1.lo.val = (ishr a0 (wu64 x_e.val).val).val) (q4 : x_e.val = 0 ∨ 3221225472 ≤ y_1.lo.val) (hm : (64 - x_e.val).toNat < fu) (t : Array Value) (ht : maskA t [1, 5, 6, 7, 8, 9, 10, 11, 12, 13, 14, 15, 16, 17, 18, 19, 20, 21, 22, 23, 24, 25, 26, 27, 28, 29, 30, 31, 32, 33, 34, 35, 36, 37, 38, 39, 40, 41, 42, 43, 44, 45, 46, 47, 48, 49, 50, 51, 52, 53, 54, 55, 56, 57, 58, 59, 60, 61, 62, 63, 64, 65, 66, 67, 68, 69, 70, 71, 72, 73, 74, 75, 76, 77, 78] = #[.int .i64 a0.val, undef, .pointer (some ⟨0, 0, none⟩), .int .i64 x_e.val, .pointer (some ⟨1, 0, none⟩), undef, undef, undef, undef, undef, undef, undef, undef, undef, undef, undef, undef, undef, undef, undef, undef, undef, undef, undef, undef, undef, undef, undef, undef, undef, undef, undef, undef, undef, undef, undef, undef, undef, undef, undef, undef, undef, undef, undef, undef, undef, undef, undef, undef, undef, undef, undef, undef, undef, undef, undef, undef, undef, undef, undef, undef, undef, undef, undef, undef, undef, undef, undef, undef, undef, undef, undef, undef, undef, undef, undef, undef, undef, undef]), Cfg Tryz.prog 180 (loopAt Tryz.f180 0) t [(#[.int .i64 0, .int .i64 0], 25), (#[.int .i64 y_1.lo.val, .int .i64 y_1.hi.val], 25)] (RvH [] (vIv (F_spec_LogAt_L0 fu a0 x_e y_1))) := by
  intro fu
  induction fu with
  | zero => intro a0 x_e y_1 q0 q1 q2 q3 q4 hm; exact absurd hm (Nat.not_lt_zero _)
  | succ fu ih =>
    intro a0 x_e y_1 q0 q1 q2 q3 q4 hm t ht
    refine Cfg.round E_ok mixed Tryz.func180 ht fun g => ?_
    unfold F_spec_LogAt_L0
    refine Run.y (gv := vIv) (fun h4 => ?_) (fun h4 => ?_)
    · refine Run.k (c := (decide (0 ≤ (wu64 (w64 (x_e.val + 1)).val).val))) (by kernel_rfl) (by exact decide_eq_true (U64.lo _)) ?_
      refine Run.k (c := (decide (0 ≤ (wu64 (w64 (x_e.val + 1)).val).val))) (by kernel_rfl) (by exact decide_eq_true (U64.lo _)) ?_
      exact Run.l (by kernel_rfl) (by kernel_rfl) (by kernel_rfl) (by kernel_rfl) (ih a0 (w64 (x_e.val + 1)) (⟨(ishr a0 (wu64 (w64 (x_e.val + 1)).val).val), (w64 (0 - (ishr (w64 (0 - a0.val)) (wu64 (w64 (x_e.val + 1)).val).val).val))⟩ : Iv) (by first | exact q0 | exact q1 | exact Nat.lt_succ_self _ | rfl | exact spec_two_exit a0 x_e y_1 q2.1 q2.2 q3 q4 h4 | (have z := spec_shr_big a0 x_e y_1 q1 q2.1 q2.2 q3 h4; first | exact .inr z.2 | (simp only [w64_val]; omega))) (by first | exact q0 | exact q1 | exact Nat.lt_succ_self _ | rfl | exact spec_two_exit a0 x_e y_1 q2.1 q2.2 q3 q4 h4 | (have z := spec_shr_big a0 x_e y_1 q1 q2.1 q2.2 q3 h4; first | exact .inr z.2 | (simp only [w64_val]; omega))) (by first | exact q0 | exact q1 | exact Nat.lt_succ_self _ | rfl | exact spec_two_exit a0 x_e y_1 q2.1 q2.2 q3 q4 h4 | (have z := spec_shr_big a0 x_e y_1 q1 q2.1 q2.2 q3 h4; first | exact .inr z.2 | (simp only [w64_val]; omega))) (by first | exact q0 | exact q1 | exact Nat.lt_succ_self _ | rfl | exact spec_two_exit a0 x_e y_1 q2.1 q2.2 q3 q4 h4 | (have z := spec_shr_big a0 x_e y_1 q1 q2.1 q2.2 q3 h4; first | exact .inr z.2 | (simp only [w64_val]; omega))) (by first | exact q0 | exact q1 | exact Nat.lt_succ_self _ | rfl | exact spec_two_exit a0 x_e y_1 q2.1 q2.2 q3 q4 h4 | (have z := spec_shr_big a0 x_e y_1 q1 q2.1 q2.2 q3 h4; first | exact .inr z.2 | (simp only [w64_val]; omega))) (by first | exact q0 | exact q1 | exact Nat.lt_succ_self _ | rfl | exact spec_two_exit a0 x_e y_1 q2.1 q2.2 q3 q4 h4 | (have z := spec_shr_big a0 x_e y_1 q1 q2.1 q2.2 q3 h4; first | exact .inr z.2 | (simp only [w64_val]; omega))))
    · exact Run.l (by kernel_rfl) (by kernel_rfl) (by kernel_rfl) (by kernel_rfl) (ok_spec_LogAt_L1 ((64 + x_e.val).toNat + 1) a0 x_e y_1 (by first | exact q0 | exact q1 | exact Nat.lt_succ_self _ | exact spec_two_exit a0 x_e y_1 q2.1 q2.2 q3 q4 h4 | omega) (by first | exact q0 | exact q1 | exact Nat.lt_succ_self _ | exact spec_two_exit a0 x_e y_1 q2.1 q2.2 q3 q4 h4 | omega) (by first | exact q0 | exact q1 | exact Nat.lt_succ_self _ | exact spec_two_exit a0 x_e y_1 q2.1 q2.2 q3 q4 h4 | omega) (by first | exact q0 | exact q1 | exact Nat.lt_succ_self _ | exact spec_two_exit a0 x_e y_1 q2.1 q2.2 q3 q4 h4 | omega) (by first | exact q0 | exact q1 | exact Nat.lt_succ_self _ | exact spec_two_exit a0 x_e y_1 q2.1 q2.2 q3 q4 h4 | omega))

theorem ok_spec_LogAt (a0 : I64) : Fun Tryz.prog 180 [] #[vI a0] (vIv (F_spec_LogAt a0)) [] := by
  refine Fun.ofH 400 E_ok mixed Tryz.func180 (by kernel_rfl) (by kernel_rfl) ?_
  unfold F_spec_LogAt
  refine Run.q (e := vB) (gv := vIv) (ok_spec_l00In _ _ _) fun r1 hr1 => ?_
  refine Run.y (gv := vIv) (fun h2 => ?_) (fun h2 => ?_)
  · refine Run.q (e := vIv) (gv := vIv) (ok_spec_l04Whole) fun r3 hr3 => ?_
    exact Run.x 0
  · exact Run.l (by kernel_rfl) (by kernel_rfl) (by kernel_rfl) (by kernel_rfl) (ok_spec_LogAt_L0 ((64 - (c64 0).val).toNat + 1) a0 (c64 0) (⟨a0, a0⟩ : Iv) (by first | exact (in1_p hr1 h2).1 | exact (in1_p hr1 h2).2 | exact ⟨by decide, by decide⟩ | exact (shr0' a0).symm | exact .inl rfl | exact Nat.lt_succ_self _) (by first | exact (in1_p hr1 h2).1 | exact (in1_p hr1 h2).2 | exact ⟨by decide, by decide⟩ | exact (shr0' a0).symm | exact .inl rfl | exact Nat.lt_succ_self _) (by first | exact (in1_p hr1 h2).1 | exact (in1_p hr1 h2).2 | exact ⟨by decide, by decide⟩ | exact (shr0' a0).symm | exact .inl rfl | exact Nat.lt_succ_self _) (by first | exact (in1_p hr1 h2).1 | exact (in1_p hr1 h2).2 | exact ⟨by decide, by decide⟩ | exact (shr0' a0).symm | exact .inl rfl | exact Nat.lt_succ_self _) (by first | exact (in1_p hr1 h2).1 | exact (in1_p hr1 h2).2 | exact ⟨by decide, by decide⟩ | exact (shr0' a0).symm | exact .inl rfl | exact Nat.lt_succ_self _) (by first | exact (in1_p hr1 h2).1 | exact (in1_p hr1 h2).2 | exact ⟨by decide, by decide⟩ | exact (shr0' a0).symm | exact .inl rfl | exact Nat.lt_succ_self _))

theorem ok_spec_l08Ends (a0 : Iv) (a1 : Iv) : Fun Tryz.prog 120 [] #[vIv a0, vIv a1] (vIv (F_spec_l08Ends a0 a1)) [] := by
  refine Fun.ofH 400 E_ok mixed Tryz.func120 (by kernel_rfl) (by kernel_rfl) ?_
  unfold F_spec_l08Ends
  refine Run.q (e := vB) (gv := vIv) (ok_spec_l04Ok _) fun r1 _ => ?_
  refine Run.y (gv := vIv) (fun _ => ?_) (fun _ => ?_)
  · refine Run.z [true, true, true, true] ?_
    refine Run.q (e := vIv) (gv := vIv) (ok_spec_l04Whole) fun r2 _ => ?_
    exact Run.x 0
  · refine Run.z [false] ?_
    refine Run.q (e := vB) (gv := vIv) (ok_spec_l04Ok _) fun r3 _ => ?_
    refine Run.z [false, false] ?_
    refine Run.y (gv := vIv) (fun _ => ?_) (fun _ => ?_)
    · refine Run.q (e := vIv) (gv := vIv) (ok_spec_l04Whole) fun r4 _ => ?_
      exact Run.x 0
    · refine Run.q (e := vIv) (gv := vIv) (ok_spec_l04Make _ _) fun r5 _ => ?_
      exact Run.x 0

theorem ok_spec_LogI (a0 : Iv) : Fun Tryz.prog 100 [] #[vIv a0] (vIv (F_spec_LogI a0)) [] := by
  refine Fun.ofH 400 E_ok mixed Tryz.func100 (by kernel_rfl) (by kernel_rfl) ?_
  unfold F_spec_LogI
  refine Run.q (e := vB) (gv := vIv) (ok_spec_l04Ok _) fun r1 _ => ?_
  refine Run.y (gv := vIv) (fun _ => ?_) (fun _ => ?_)
  · refine Run.q (e := vIv) (gv := vIv) (ok_spec_l04Whole) fun r2 _ => ?_
    exact Run.x 0
  · refine Run.q (e := vIv) (gv := vIv) (ok_spec_LogAt _) fun r3 _ => ?_
    refine Run.q (e := vIv) (gv := vIv) (ok_spec_LogAt _) fun r4 _ => ?_
    refine Run.q (e := vIv) (gv := vIv) (ok_spec_l08Ends _ _) fun r5 _ => ?_
    exact Run.x 0

theorem ok_spec_SinAt (a0 : I64) : Fun Tryz.prog 239 [] #[vI a0] (vIv (F_spec_SinAt a0)) [] := by
  refine Fun.ofH 400 E_ok mixed Tryz.func239 (by kernel_rfl) (by kernel_rfl) ?_
  unfold F_spec_SinAt
  refine Run.q (e := vIv) (gv := vIv) (ok_spec_l06At _ _) fun r1 _ => ?_
  exact Run.x 0

theorem ok_spec_CosAt (a0 : I64) : Fun Tryz.prog 240 [] #[vI a0] (vIv (F_spec_CosAt a0)) [] := by
  refine Fun.ofH 400 E_ok mixed Tryz.func240 (by kernel_rfl) (by kernel_rfl) ?_
  unfold F_spec_CosAt
  refine Run.q (e := vIv) (gv := vIv) (ok_spec_l06At _ _) fun r1 _ => ?_
  exact Run.x 0

theorem ok_spec_TanI_L0 : ∀ (fu : Nat) (a0 : Iv) (x_k : I64) (y_1 : Iv) (hm : (2000 - x_k.val).toNat < fu) (t : Array Value) (ht : maskA t [0, 4, 5, 6, 7, 8, 9, 10, 11, 12, 13, 14, 15, 16, 17, 18, 19, 20, 21, 22, 23, 24, 25, 26, 27, 28, 29, 30, 31, 32, 33, 34, 35, 36, 37, 38, 39, 40, 41, 42, 43, 44] = #[undef, .pointer (some ⟨0, 0, none⟩), .pointer (some ⟨1, 0, none⟩), .int .i64 x_k.val, undef, undef, undef, undef, undef, undef, undef, undef, undef, undef, undef, undef, undef, undef, undef, undef, undef, undef, undef, undef, undef, undef, undef, undef, undef, undef, undef, undef, undef, undef, undef, undef, undef, undef, undef, undef, undef, undef, undef, undef, undef]), Cfg Tryz.prog 182 (loopAt Tryz.f182 0) t [(#[.int .i64 a0.lo.val, .int .i64 a0.hi.val], 25), (#[.int .i64 y_1.lo.val, .int .i64 y_1.hi.val], 25)] (RvH [] (vIv (F_spec_TanI_L0 fu a0 x_k y_1))) := by
  intro fu
  induction fu with
  | zero => intro a0 x_k y_1 hm; exact absurd hm (Nat.not_lt_zero _)
  | succ fu ih =>
    intro a0 x_k y_1 hm t ht
    refine Cfg.round E_ok mixed Tryz.func182 ht fun g => ?_
    unfold F_spec_TanI_L0
    refine Run.q (e := vI) (gv := vIv) (ok_spec_QuarterOf _) fun r5 hr5 => ?_
    refine Run.y (gv := vIv) (fun h6 => ?_) (fun h6 => ?_)
    · refine Run.y (gv := vIv) (fun h7 => ?_) (fun h7 => ?_)
      · refine Run.z [true] ?_
        refine Run.q (e := vIv) (gv := vIv) (ok_spec_TurnI _) fun r8 hr8 => ?_
        refine Run.z [true, true] ?_
        refine Run.q (e := vB) (gv := vIv) (ok_spec_OverlapI _ _) fun r9 hr9 => ?_
        refine Run.z [true] ?_
        refine Run.y (gv := vIv) (fun h10 => ?_) (fun h10 => ?_)
        · refine Run.q (e := vIv) (gv := vIv) (ok_spec_Whole) fun r11 hr11 => ?_
          exact Run.x 0
        · exact Run.l (by kernel_rfl) (by kernel_rfl) (by kernel_rfl) (by kernel_rfl) (ih a0 (w64 (x_k.val + 1)) y_1 (by have q1 := x_k.lo; first | exact Nat.lt_succ_self _ | (have q2 := spec_quarter_le a0.hi; have q3 := spec_quarter_ge a0.hi; simp only [w64_val, decide_eq_true_eq, decide_eq_false_iff_not, *] at *; omega)))
      · refine Run.z [false, false, false, false, false] ?_
        exact Run.l (by kernel_rfl) (by kernel_rfl) (by kernel_rfl) (by kernel_rfl) (ih a0 (w64 (x_k.val + 1)) y_1 (by have q1 := x_k.lo; first | exact Nat.lt_succ_self _ | (have q2 := spec_quarter_le a0.hi; have q3 := spec_quarter_ge a0.hi; simp only [w64_val, decide_eq_true_eq, decide_eq_false_iff_not, *] at *; omega)))
    · refine Run.q (e := vIv) (gv := vIv) (ok_spec_SinAt _) fun r12 hr12 => ?_
      refine Run.q (e := vIv) (gv := vIv) (ok_spec_CosAt _) fun r13 hr13 => ?_
      refine Run.q (e := vIv) (gv := vIv) (ok_spec_DivI _ _) fun r14 hr14 => ?_
      refine Run.q (e := vIv) (gv := vIv) (ok_spec_SinAt _) fun r15 hr15 => ?_
      refine Run.q (e := vIv) (gv := vIv) (ok_spec_CosAt _) fun r16 hr16 => ?_
      refine Run.q (e := vIv) (gv := vIv) (ok_spec_DivI _ _) fun r17 hr17 => ?_
      refine Run.q (e := vIv) (gv := vIv) (ok_spec_HullI _ _) fun r18 hr18 => ?_
      exact Run.x 0

theorem ok_spec_TanI (a0 : Iv) : Fun Tryz.prog 182 [] #[vIv a0] (vIv (F_spec_TanI a0)) [] := by
  refine Fun.ofH 400 E_ok mixed Tryz.func182 (by kernel_rfl) (by kernel_rfl) ?_
  unfold F_spec_TanI
  refine Run.q (e := vB) (gv := vIv) (ok_spec_l06Fits _) fun r1 hr1 => ?_
  refine Run.y (gv := vIv) (fun h2 => ?_) (fun h2 => ?_)
  · refine Run.q (e := vIv) (gv := vIv) (ok_spec_Whole) fun r3 hr3 => ?_
    exact Run.x 0
  · refine Run.q (e := vI) (gv := vIv) (ok_spec_QuarterOf _) fun r4 hr4 => ?_
    exact Run.l (by kernel_rfl) (by kernel_rfl) (by kernel_rfl) (by kernel_rfl) (ok_spec_TanI_L0 ((2000 - (w64 (r4.val - 1)).val).toNat + 1) a0 (w64 (r4.val - 1)) (⟨(c64 0), (c64 0)⟩ : Iv) (by exact Nat.lt_succ_self _))

theorem ok_spec_l02Root_L0 : ∀ (fu : Nat) (a0 : Wd) (x_out : U64) (x_i : I64) (q0 : x_i.val ≤ 63) (hm : (x_i.val + 1).toNat < fu) (t : Array Value) (ht : maskA t [0, 5, 6, 7, 8, 9, 10, 11, 12, 13, 14, 15, 16, 17, 18, 19, 20, 21, 22, 23, 24, 25, 26, 27, 28, 29, 30, 31, 32, 33, 34, 35, 36, 37, 38, 39, 40, 41, 42] = #[undef, .pointer (some ⟨0, 0, none⟩), .int .u64 0, .int .u64 x_out.val, .int .i64 x_i.val, undef, undef, undef, undef, undef, undef, undef, undef, undef, undef, undef, undef, undef, undef, undef, undef, undef, undef, undef, undef, undef, undef, undef, undef, undef, undef, undef, undef, undef, undef, undef, undef, undef, undef, undef, undef, undef, undef]), Cfg Tryz.prog 273 (loopAt Tryz.f273 0) t [(#[.int .i64 a0.hi.val, .int .u64 a0.lo.val], 117)] (RvH [] (vU (F_spec_l02Root_L0 fu a0 x_out x_i))) := by
  intro fu
  induction fu with
  | zero => intro a0 x_out x_i q0 hm; exact absurd hm (Nat.not_lt_zero _)
  | succ fu ih =>
    intro a0 x_out x_i q0 hm t ht
    refine Cfg.round E_ok mixed Tryz.func273 ht fun g => ?_
    unfold F_spec_l02Root_L0
    refine Run.y (gv := vU) (fun h1 => ?_) (fun h1 => ?_)
    · refine Run.k (c := (decide (0 ≤ (wu64 x_i.val).val))) (by kernel_rfl) (by simp only [w64_val, wu64_val, c64_val, cu64_val, decide_eq_true_eq] at *; omega) ?_
      refine Run.q (e := vT_U_U) (gv := vU) (ok_spec_l02Times _ _) fun r2 hr2 => ?_
      refine Run.y (gv := vU) (fun h3 => ?_) (fun h3 => ?_)
      · refine Run.z [true, true, true, true, true, true, true, true] ?_
        exact Run.l (by kernel_rfl) (by kernel_rfl) (by kernel_rfl) (by kernel_rfl) (ih a0 (ior .u64 x_out.val (ishl .u64 1 (wu64 x_i.val).val).val) (w64 (x_i.val - 1)) (by have q1 := x_i.lo; simp only [w64_val, wu64_val, c64_val, cu64_val, decide_eq_true_eq] at *; omega) (by have q1 := x_i.lo; simp only [w64_val, wu64_val, c64_val, cu64_val, decide_eq_true_eq] at *; omega))
      · refine Run.z [false, false, false, false, false] ?_
        refine Run.y (gv := vU) (fun h4 => ?_) (fun h4 => ?_)
        · refine Run.z [true, true, true, false, true, false] ?_
          refine Run.y (gv := vU) (fun h5 => ?_) (fun h5 => ?_)
          · exact Run.l (by kernel_rfl) (by kernel_rfl) (by kernel_rfl) (by kernel_rfl) (ih a0 (ior .u64 x_out.val (ishl .u64 1 (wu64 x_i.val).val).val) (w64 (x_i.val - 1)) (by have q1 := x_i.lo; simp only [w64_val, wu64_val, c64_val, cu64_val, decide_eq_true_eq] at *; omega) (by have q1 := x_i.lo; simp only [w64_val, wu64_val, c64_val, cu64_val, decide_eq_true_eq] at *; omega))
          · exact Run.l (by kernel_rfl) (by kernel_rfl) (by kernel_rfl) (by kernel_rfl) (ih a0 x_out (w64 (x_i.val - 1)) (by have q1 := x_i.lo; simp only [w64_val, wu64_val, c64_val, cu64_val, decide_eq_true_eq] at *; omega) (by have q1 := x_i.lo; simp only [w64_val, wu64_val, c64_val, cu64_val, decide_eq_true_eq] at *; omega))
        · refine Run.z [false, false, false, false, false, false, false] ?_
          exact Run.l (by kernel_rfl) (by kernel_rfl) (by kernel_rfl) (by kernel_rfl) (ih a0 x_out (w64 (x_i.val - 1)) (by have q1 := x_i.lo; simp only [w64_val, wu64_val, c64_val, cu64_val, decide_eq_true_eq] at *; omega) (by have q1 := x_i.lo; simp only [w64_val, wu64_val, c64_val, cu64_val, decide_eq_true_eq] at *; omega))
    · exact Run.x 0

theorem ok_spec_l02Root (a0 : Wd) : Fun Tryz.prog 273 [] #[vWd a0] (vU (F_spec_l02Root a0)) [] := by
  refine Fun.ofH 400 E_ok mixed Tryz.func273 (by kernel_rfl) (by kernel_rfl) ?_
  unfold F_spec_l02Root
  exact Run.l (by kernel_rfl) (by kernel_rfl) (by kernel_rfl) (by kernel_rfl) (ok_spec_l02Root_L0 65 a0 (cu64 0) (c64 63) (by decide) (by decide))

theorem ok_spec_SqrtFloor (a0 : I64) (a1 : I64) : Fun Tryz.prog 241 [] #[vI a0, vI a1] (vT_I_B (F_spec_SqrtFloor a0 a1)) [] := by
  refine Fun.ofH 400 E_ok mixed Tryz.func241 (by kernel_rfl) (by kernel_rfl) ?_
  unfold F_spec_SqrtFloor
  refine Run.y (gv := vT_I_B) (fun _ => ?_) (fun _ => ?_)
  · refine Run.z [true, true, true] ?_
    exact Run.x 0
  · refine Run.z [false, false] ?_
    refine Run.y (gv := vT_I_B) (fun _ => ?_) (fun _ => ?_)
    · exact Run.x 0
    · refine Run.q (e := vWd) (gv := vT_I_B) (ok_spec_l02Mul _ _) fun r1 _ => ?_
      refine Run.q (e := vU) (gv := vT_I_B) (ok_spec_l02Root _) fun r2 _ => ?_
      exact Run.x 0

theorem ok_spec_l03SqrtDown (a0 : I64) : Fun Tryz.prog 183 [] #[vI a0] (vT_I_B (F_spec_l03SqrtDown a0)) [] := by
  refine Fun.ofH 400 E_ok mixed Tryz.func183 (by kernel_rfl) (by kernel_rfl) ?_
  unfold F_spec_l03SqrtDown
  refine Run.q (e := vB) (gv := vT_I_B) (ok_spec_l00In _ _ _) fun r1 _ => ?_
  refine Run.y (gv := vT_I_B) (fun _ => ?_) (fun _ => ?_)
  · exact Run.x 0
  · refine Run.q (e := vT_I_B) (gv := vT_I_B) (ok_spec_SqrtFloor _ _) fun r2 _ => ?_
    exact Run.x 0

theorem ok_spec_l03SqrtUp (a0 : I64) : Fun Tryz.prog 184 [] #[vI a0] (vT_I_B (F_spec_l03SqrtUp a0)) [] := by
  refine Fun.ofH 400 E_ok mixed Tryz.func184 (by kernel_rfl) (by kernel_rfl) ?_
  unfold F_spec_l03SqrtUp
  refine Run.q (e := vT_I_B) (gv := vT_I_B) (ok_spec_l03SqrtDown _) fun r1 _ => ?_
  refine Run.y (gv := vT_I_B) (fun _ => ?_) (fun _ => ?_)
  · exact Run.x 0
  · refine Run.q (e := vT_I_B) (gv := vT_I_B) (ok_spec_MulFloor _ _ _) fun r2 _ => ?_
    refine Run.y (gv := vT_I_B) (fun _ => ?_) (fun _ => ?_)
    · refine Run.z [true, true, true, true, true, true] ?_
      exact Run.x 0
    · refine Run.z [false, false, false, false, false] ?_
      refine Run.y (gv := vT_I_B) (fun _ => ?_) (fun _ => ?_)
      · exact Run.x 0
      · exact Run.x 0

theorem ok_spec_SqrtI (a0 : Iv) : Fun Tryz.prog 102 [] #[vIv a0] (vIv (F_spec_SqrtI a0)) [] := by
  refine Fun.ofH 400 E_ok mixed Tryz.func102 (by kernel_rfl) (by kernel_rfl) ?_
  unfold F_spec_SqrtI
  refine Run.q (e := vB) (gv := vIv) (ok_spec_l04Ok _) fun r1 _ => ?_
  refine Run.y (gv := vIv) (fun _ => ?_) (fun _ => ?_)
  · refine Run.z [true, true, true, true] ?_
    refine Run.q (e := vIv) (gv := vIv) (ok_spec_l04Whole) fun r2 _ => ?_
    exact Run.x 0
  · refine Run.z [false, false, false] ?_
    refine Run.y (gv := vIv) (fun _ => ?_) (fun _ => ?_)
    · refine Run.q (e := vIv) (gv := vIv) (ok_spec_l04Whole) fun r3 _ => ?_
      exact Run.x 0
    · refine Run.q (e := vT_I_B) (gv := vIv) (ok_spec_l03SqrtDown _) fun r4 _ => ?_
      refine Run.q (e := vT_I_B) (gv := vIv) (ok_spec_l03SqrtUp _) fun r5 _ => ?_
      refine Run.q (e := vIv) (gv := vIv) (ok_spec_l04Make _ _) fun r6 _ => ?_
      exact Run.x 0

theorem ok_spec_l08Asinh_r : ∀ (fu : Nat) (a0 : I64) (p0 : -9223372036854775808 < a0.val) (hm : min (0 - a0.val).toNat 1 < fu), Fun Tryz.prog 238 [] #[vI a0] (vIv (F_spec_l08Asinh_r fu a0)) [] := by
  intro fu
  induction fu with
  | zero => intro a0 p0 hm; exact absurd hm (Nat.not_lt_zero _)
  | succ fu ih =>
    intro a0 p0 hm
    refine Fun.ofH 400 E_ok mixed Tryz.func238 (by kernel_rfl) (by kernel_rfl) ?_
    unfold F_spec_l08Asinh_r
    unfold F_spec_l08Asinh_b
    refine Run.y (gv := vIv) (fun h1 => ?_) (fun h1 => ?_)
    · refine Run.q (e := vIv) (gv := vIv) (ih (w64 (0 - a0.val)) (by simp only [w64_val, decide_eq_true_eq, decide_eq_false_iff_not] at *; omega) (by simp only [w64_val, decide_eq_true_eq, decide_eq_false_iff_not] at *; omega)) fun r2 hr2 => ?_
      refine Run.q (e := vIv) (gv := vIv) (ok_spec_NegI _) fun r3 hr3 => ?_
      exact Run.x 0
    · refine Run.y (gv := vIv) (fun h4 => ?_) (fun h4 => ?_)
      · refine Run.q (e := vIv) (gv := vIv) (ok_spec_l08At _) fun r5 hr5 => ?_
        refine Run.q (e := vIv) (gv := vIv) (ok_spec_l08At _) fun r6 hr6 => ?_
        refine Run.q (e := vIv) (gv := vIv) (ok_spec_SqrI _) fun r7 hr7 => ?_
        refine Run.q (e := vIv) (gv := vIv) (ok_spec_l08One) fun r8 hr8 => ?_
        refine Run.q (e := vIv) (gv := vIv) (ok_spec_AddI _ _) fun r9 hr9 => ?_
        refine Run.q (e := vIv) (gv := vIv) (ok_spec_SqrtI _) fun r10 hr10 => ?_
        refine Run.q (e := vIv) (gv := vIv) (ok_spec_AddI _ _) fun r11 hr11 => ?_
        refine Run.q (e := vIv) (gv := vIv) (ok_spec_LogI _) fun r12 hr12 => ?_
        exact Run.x 0
      · refine Run.q (e := vIv) (gv := vIv) (ok_spec_LogTwoI _) fun r13 hr13 => ?_
        refine Run.q (e := vIv) (gv := vIv) (ok_spec_LogAt _) fun r14 hr14 => ?_
        refine Run.q (e := vIv) (gv := vIv) (ok_spec_AddI _ _) fun r15 hr15 => ?_
        refine Run.q (e := vIv) (gv := vIv) (ok_spec_AddI _ _) fun r16 hr16 => ?_
        exact Run.x 0
theorem ok_spec_l08Asinh (a0 : I64) (p0 : -9223372036854775808 < a0.val) : Fun Tryz.prog 238 [] #[vI a0] (vIv (F_spec_l08Asinh a0)) [] := ok_spec_l08Asinh_r 2 a0 p0 (by omega)

theorem ok_spec_AsinhI (a0 : Iv) : Fun Tryz.prog 181 [] #[vIv a0] (vIv (F_spec_AsinhI a0)) [] := by
  refine Fun.ofH 400 E_ok mixed Tryz.func181 (by kernel_rfl) (by kernel_rfl) ?_
  unfold F_spec_AsinhI
  refine Run.q (e := vB) (gv := vIv) (ok_spec_l04Ok _) fun r1 hr1 => ?_
  refine Run.y (gv := vIv) (fun h2 => ?_) (fun h2 => ?_)
  · refine Run.q (e := vIv) (gv := vIv) (ok_spec_l04Whole) fun r3 hr3 => ?_
    exact Run.x 0
  · refine Run.q (e := vIv) (gv := vIv) (ok_spec_l08Asinh _ (by rw [hr1] at h2; have z := Ok4p (by simpa using h2); omega)) fun r4 hr4 => ?_
    refine Run.q (e := vIv) (gv := vIv) (ok_spec_l08Asinh _ (by rw [hr1] at h2; have z := Ok4p (by simpa using h2); omega)) fun r5 hr5 => ?_
    refine Run.q (e := vIv) (gv := vIv) (ok_spec_l08Ends _ _) fun r6 hr6 => ?_
    exact Run.x 0

theorem ok_spec_l19Iso (a0 : Iv) : Fun Tryz.prog 101 [] #[vIv a0] (vIv (F_spec_l19Iso a0)) [] := by
  refine Fun.ofH 400 E_ok mixed Tryz.func101 (by kernel_rfl) (by kernel_rfl) ?_
  unfold F_spec_l19Iso
  refine Run.q (e := vIv) (gv := vIv) (ok_spec_TanI _) fun r1 _ => ?_
  refine Run.q (e := vIv) (gv := vIv) (ok_spec_AsinhI _) fun r2 _ => ?_
  exact Run.x 0

theorem ok_spec_l19Cone (a0 : Pj) : Fun Tryz.prog 34 [] #[vPj a0] (vIv (F_spec_l19Cone a0)) [] := by
  refine Fun.ofH 400 E_ok mixed Tryz.func34 (by kernel_rfl) (by kernel_rfl) ?_
  unfold F_spec_l19Cone
  refine Run.q (e := vIv) (gv := vIv) (ok_spec_RadiansOf _) fun r1 _ => ?_
  refine Run.q (e := vIv) (gv := vIv) (ok_spec_RadiansOf _) fun r2 _ => ?_
  refine Run.y (gv := vIv) (fun _ => ?_) (fun _ => ?_)
  · refine Run.q (e := vIv) (gv := vIv) (ok_spec_SinI _) fun r3 _ => ?_
    refine Run.q (e := vIv) (gv := vIv) (ok_spec_SinI _) fun r4 _ => ?_
    refine Run.q (e := vIv) (gv := vIv) (ok_spec_AddI _ _) fun r5 _ => ?_
    refine Run.q (e := vIv) (gv := vIv) (ok_spec_HalfI _) fun r6 _ => ?_
    exact Run.x 0
  · refine Run.y (gv := vIv) (fun _ => ?_) (fun _ => ?_)
    · refine Run.q (e := vIv) (gv := vIv) (ok_spec_SinI _) fun r7 _ => ?_
      exact Run.x 0
    · refine Run.y (gv := vIv) (fun _ => ?_) (fun _ => ?_)
      · refine Run.q (e := vIv) (gv := vIv) (ok_spec_CosI _) fun r8 _ => ?_
        refine Run.q (e := vIv) (gv := vIv) (ok_spec_LogI _) fun r9 _ => ?_
        refine Run.q (e := vIv) (gv := vIv) (ok_spec_CosI _) fun r10 _ => ?_
        refine Run.q (e := vIv) (gv := vIv) (ok_spec_LogI _) fun r11 _ => ?_
        refine Run.q (e := vIv) (gv := vIv) (ok_spec_SubI _ _) fun r12 _ => ?_
        refine Run.q (e := vIv) (gv := vIv) (ok_spec_l19Iso _) fun r13 _ => ?_
        refine Run.q (e := vIv) (gv := vIv) (ok_spec_l19Iso _) fun r14 _ => ?_
        refine Run.q (e := vIv) (gv := vIv) (ok_spec_SubI _ _) fun r15 _ => ?_
        refine Run.q (e := vIv) (gv := vIv) (ok_spec_DivI _ _) fun r16 _ => ?_
        exact Run.x 0
      · refine Run.q (e := vIv) (gv := vIv) (ok_spec_CosI _) fun r17 _ => ?_
        refine Run.q (e := vIv) (gv := vIv) (ok_spec_CosI _) fun r18 _ => ?_
        refine Run.q (e := vIv) (gv := vIv) (ok_spec_SubI _ _) fun r19 _ => ?_
        refine Run.q (e := vIv) (gv := vIv) (ok_spec_SubI _ _) fun r20 _ => ?_
        refine Run.q (e := vIv) (gv := vIv) (ok_spec_DivI _ _) fun r21 _ => ?_
        exact Run.x 0

theorem ok_spec_l08Scale (a0 : Iv) (a1 : I64) : Fun Tryz.prog 243 [] #[vIv a0, vI a1] (vIv (F_spec_l08Scale a0 a1)) [] := by
  refine Fun.ofH 400 E_ok mixed Tryz.func243 (by kernel_rfl) (by kernel_rfl) ?_
  unfold F_spec_l08Scale
  refine Run.y (gv := vIv) (fun h1 => ?_) (fun h1 => ?_)
  · refine Run.k (c := (decide (0 ≤ (wu64 a1.val).val))) (by kernel_rfl) (by exact decide_eq_true (U64.lo _)) ?_
    refine Run.k (c := (decide (0 ≤ (wu64 a1.val).val))) (by kernel_rfl) (by exact decide_eq_true (U64.lo _)) ?_
    refine Run.q (e := vIv) (gv := vIv) (ok_spec_l04Make _ _) fun r2 hr2 => ?_
    exact Run.x 0
  · refine Run.k (c := (decide (0 ≤ (wu64 (w64 (0 - a1.val)).val).val))) (by kernel_rfl) (by exact decide_eq_true (U64.lo _)) ?_
    refine Run.k (c := (decide (0 ≤ (wu64 (w64 (0 - a1.val)).val).val))) (by kernel_rfl) (by exact decide_eq_true (U64.lo _)) ?_
    refine Run.q (e := vIv) (gv := vIv) (ok_spec_l04Make _ _) fun r3 hr3 => ?_
    exact Run.x 0

theorem ok_spec_ExpAt (a0 : I64) : Fun Tryz.prog 185 [] #[vI a0] (vIv (F_spec_ExpAt a0)) [] := by
  refine Fun.ofH 400 E_ok mixed Tryz.func185 (by kernel_rfl) (by kernel_rfl) ?_
  unfold F_spec_ExpAt
  refine Run.q (e := vB) (gv := vIv) (ok_spec_l03Ok _) fun r1 hr1 => ?_
  refine Run.y (gv := vIv) (fun h2 => ?_) (fun h2 => ?_)
  · refine Run.z [true, true, true] ?_
    refine Run.q (e := vIv) (gv := vIv) (ok_spec_l04Whole) fun r3 hr3 => ?_
    exact Run.x 0
  · refine Run.z [false, false] ?_
    refine Run.y (gv := vIv) (fun h4 => ?_) (fun h4 => ?_)
    · refine Run.q (e := vIv) (gv := vIv) (ok_spec_l04Whole) fun r5 hr5 => ?_
      exact Run.x 0
    · refine Run.y (gv := vIv) (fun h6 => ?_) (fun h6 => ?_)
      · exact Run.x 0
      · refine Run.z [true, true] ?_
        refine Run.y (gv := vIv) (fun h7 => ?_) (fun h7 => ?_)
        · refine Run.q (e := vIv) (gv := vIv) (ok_spec_l08At _) fun r8 hr8 => ?_
          refine Run.q (e := vIv) (gv := vIv) (ok_spec_LogTwoI _) fun r9 hr9 => ?_
          refine Run.q (e := vIv) (gv := vIv) (ok_spec_SubI _ _) fun r10 hr10 => ?_
          refine Run.q (e := vIv) (gv := vIv) (ok_spec_l08One) fun r11 hr11 => ?_
          refine Run.u 400 E_ok mixed Tryz.func185 ?_
          refine Run.z [true] ?_
          refine Run.q (e := vIv) (gv := vIv) (ok_spec_l08One) fun r12 hr12 => ?_
          refine Run.q (e := vIv) (gv := vIv) (ok_spec_MulI _ _) fun r13 hr13 => ?_
          refine Run.q (e := vIv) (gv := vIv) (ok_spec_Integer _) fun r14 hr14 => ?_
          refine Run.q (e := vIv) (gv := vIv) (ok_spec_DivI _ _) fun r15 hr15 => ?_
          refine Run.q (e := vIv) (gv := vIv) (ok_spec_AddI _ _) fun r16 hr16 => ?_
          refine Run.u 400 E_ok mixed Tryz.func185 ?_
          refine Run.z [true] ?_
          refine Run.q (e := vIv) (gv := vIv) (ok_spec_l08One) fun r17 hr17 => ?_
          refine Run.q (e := vIv) (gv := vIv) (ok_spec_MulI _ _) fun r18 hr18 => ?_
          refine Run.q (e := vIv) (gv := vIv) (ok_spec_Integer _) fun r19 hr19 => ?_
          refine Run.q (e := vIv) (gv := vIv) (ok_spec_DivI _ _) fun r20 hr20 => ?_
          refine Run.q (e := vIv) (gv := vIv) (ok_spec_AddI _ _) fun r21 hr21 => ?_
          refine Run.u 400 E_ok mixed Tryz.func185 ?_
          refine Run.z [true] ?_
          refine Run.q (e := vIv) (gv := vIv) (ok_spec_l08One) fun r22 hr22 => ?_
          refine Run.q (e := vIv) (gv := vIv) (ok_spec_MulI _ _) fun r23 hr23 => ?_
          refine Run.q (e := vIv) (gv := vIv) (ok_spec_Integer _) fun r24 hr24 => ?_
          refine Run.q (e := vIv) (gv := vIv) (ok_spec_DivI _ _) fun r25 hr25 => ?_
          refine Run.q (e := vIv) (gv := vIv) (ok_spec_AddI _ _) fun r26 hr26 => ?_
          refine Run.u 400 E_ok mixed Tryz.func185 ?_
          refine Run.z [true] ?_
          refine Run.q (e := vIv) (gv := vIv) (ok_spec_l08One) fun r27 hr27 => ?_
          refine Run.q (e := vIv) (gv := vIv) (ok_spec_MulI _ _) fun r28 hr28 => ?_
          refine Run.q (e := vIv) (gv := vIv) (ok_spec_Integer _) fun r29 hr29 => ?_
          refine Run.q (e := vIv) (gv := vIv) (ok_spec_DivI _ _) fun r30 hr30 => ?_
          refine Run.q (e := vIv) (gv := vIv) (ok_spec_AddI _ _) fun r31 hr31 => ?_
          refine Run.u 400 E_ok mixed Tryz.func185 ?_
          refine Run.z [true] ?_
          refine Run.q (e := vIv) (gv := vIv) (ok_spec_l08One) fun r32 hr32 => ?_
          refine Run.q (e := vIv) (gv := vIv) (ok_spec_MulI _ _) fun r33 hr33 => ?_
          refine Run.q (e := vIv) (gv := vIv) (ok_spec_Integer _) fun r34 hr34 => ?_
          refine Run.q (e := vIv) (gv := vIv) (ok_spec_DivI _ _) fun r35 hr35 => ?_
          refine Run.q (e := vIv) (gv := vIv) (ok_spec_AddI _ _) fun r36 hr36 => ?_
          refine Run.u 400 E_ok mixed Tryz.func185 ?_
          refine Run.z [true] ?_
          refine Run.q (e := vIv) (gv := vIv) (ok_spec_l08One) fun r37 hr37 => ?_
          refine Run.q (e := vIv) (gv := vIv) (ok_spec_MulI _ _) fun r38 hr38 => ?_
          refine Run.q (e := vIv) (gv := vIv) (ok_spec_Integer _) fun r39 hr39 => ?_
          refine Run.q (e := vIv) (gv := vIv) (ok_spec_DivI _ _) fun r40 hr40 => ?_
          refine Run.q (e := vIv) (gv := vIv) (ok_spec_AddI _ _) fun r41 hr41 => ?_
          refine Run.u 400 E_ok mixed Tryz.func185 ?_
          refine Run.z [true] ?_
          refine Run.q (e := vIv) (gv := vIv) (ok_spec_l08One) fun r42 hr42 => ?_
          refine Run.q (e := vIv) (gv := vIv) (ok_spec_MulI _ _) fun r43 hr43 => ?_
          refine Run.q (e := vIv) (gv := vIv) (ok_spec_Integer _) fun r44 hr44 => ?_
          refine Run.q (e := vIv) (gv := vIv) (ok_spec_DivI _ _) fun r45 hr45 => ?_
          refine Run.q (e := vIv) (gv := vIv) (ok_spec_AddI _ _) fun r46 hr46 => ?_
          refine Run.u 400 E_ok mixed Tryz.func185 ?_
          refine Run.z [true] ?_
          refine Run.q (e := vIv) (gv := vIv) (ok_spec_l08One) fun r47 hr47 => ?_
          refine Run.q (e := vIv) (gv := vIv) (ok_spec_MulI _ _) fun r48 hr48 => ?_
          refine Run.q (e := vIv) (gv := vIv) (ok_spec_Integer _) fun r49 hr49 => ?_
          refine Run.q (e := vIv) (gv := vIv) (ok_spec_DivI _ _) fun r50 hr50 => ?_
          refine Run.q (e := vIv) (gv := vIv) (ok_spec_AddI _ _) fun r51 hr51 => ?_
          refine Run.u 400 E_ok mixed Tryz.func185 ?_
          refine Run.z [true] ?_
          refine Run.q (e := vIv) (gv := vIv) (ok_spec_l08One) fun r52 hr52 => ?_
          refine Run.q (e := vIv) (gv := vIv) (ok_spec_MulI _ _) fun r53 hr53 => ?_
          refine Run.q (e := vIv) (gv := vIv) (ok_spec_Integer _) fun r54 hr54 => ?_
          refine Run.q (e := vIv) (gv := vIv) (ok_spec_DivI _ _) fun r55 hr55 => ?_
          refine Run.q (e := vIv) (gv := vIv) (ok_spec_AddI _ _) fun r56 hr56 => ?_
          refine Run.u 400 E_ok mixed Tryz.func185 ?_
          refine Run.z [false] ?_
          refine Run.q (e := vIv) (gv := vIv) (ok_spec_l08Widen _ _) fun r57 hr57 => ?_
          refine Run.q (e := vIv) (gv := vIv) (ok_spec_l08Scale _ _) fun r58 hr58 => ?_
          exact Run.x 0
        · refine Run.q (e := vIv) (gv := vIv) (ok_spec_l08At _) fun r59 hr59 => ?_
          refine Run.q (e := vIv) (gv := vIv) (ok_spec_LogTwoI _) fun r60 hr60 => ?_
          refine Run.q (e := vIv) (gv := vIv) (ok_spec_SubI _ _) fun r61 hr61 => ?_
          refine Run.q (e := vIv) (gv := vIv) (ok_spec_l08One) fun r62 hr62 => ?_
          refine Run.u 400 E_ok mixed Tryz.func185 ?_
          refine Run.z [true] ?_
          refine Run.q (e := vIv) (gv := vIv) (ok_spec_l08One) fun r63 hr63 => ?_
          refine Run.q (e := vIv) (gv := vIv) (ok_spec_MulI _ _) fun r64 hr64 => ?_
          refine Run.q (e := vIv) (gv := vIv) (ok_spec_Integer _) fun r65 hr65 => ?_
          refine Run.q (e := vIv) (gv := vIv) (ok_spec_DivI _ _) fun r66 hr66 => ?_
          refine Run.q (e := vIv) (gv := vIv) (ok_spec_AddI _ _) fun r67 hr67 => ?_
          refine Run.u 400 E_ok mixed Tryz.func185 ?_
          refine Run.z [true] ?_
          refine Run.q (e := vIv) (gv := vIv) (ok_spec_l08One) fun r68 hr68 => ?_
          refine Run.q (e := vIv) (gv := vIv) (ok_spec_MulI _ _) fun r69 hr69 => ?_
          refine Run.q (e := vIv) (gv := vIv) (ok_spec_Integer _) fun r70 hr70 => ?_
          refine Run.q (e := vIv) (gv := vIv) (ok_spec_DivI _ _) fun r71 hr71 => ?_
          refine Run.q (e := vIv) (gv := vIv) (ok_spec_AddI _ _) fun r72 hr72 => ?_
          refine Run.u 400 E_ok mixed Tryz.func185 ?_
          refine Run.z [true] ?_
          refine Run.q (e := vIv) (gv := vIv) (ok_spec_l08One) fun r73 hr73 => ?_
          refine Run.q (e := vIv) (gv := vIv) (ok_spec_MulI _ _) fun r74 hr74 => ?_
          refine Run.q (e := vIv) (gv := vIv) (ok_spec_Integer _) fun r75 hr75 => ?_
          refine Run.q (e := vIv) (gv := vIv) (ok_spec_DivI _ _) fun r76 hr76 => ?_
          refine Run.q (e := vIv) (gv := vIv) (ok_spec_AddI _ _) fun r77 hr77 => ?_
          refine Run.u 400 E_ok mixed Tryz.func185 ?_
          refine Run.z [true] ?_
          refine Run.q (e := vIv) (gv := vIv) (ok_spec_l08One) fun r78 hr78 => ?_
          refine Run.q (e := vIv) (gv := vIv) (ok_spec_MulI _ _) fun r79 hr79 => ?_
          refine Run.q (e := vIv) (gv := vIv) (ok_spec_Integer _) fun r80 hr80 => ?_
          refine Run.q (e := vIv) (gv := vIv) (ok_spec_DivI _ _) fun r81 hr81 => ?_
          refine Run.q (e := vIv) (gv := vIv) (ok_spec_AddI _ _) fun r82 hr82 => ?_
          refine Run.u 400 E_ok mixed Tryz.func185 ?_
          refine Run.z [true] ?_
          refine Run.q (e := vIv) (gv := vIv) (ok_spec_l08One) fun r83 hr83 => ?_
          refine Run.q (e := vIv) (gv := vIv) (ok_spec_MulI _ _) fun r84 hr84 => ?_
          refine Run.q (e := vIv) (gv := vIv) (ok_spec_Integer _) fun r85 hr85 => ?_
          refine Run.q (e := vIv) (gv := vIv) (ok_spec_DivI _ _) fun r86 hr86 => ?_
          refine Run.q (e := vIv) (gv := vIv) (ok_spec_AddI _ _) fun r87 hr87 => ?_
          refine Run.u 400 E_ok mixed Tryz.func185 ?_
          refine Run.z [true] ?_
          refine Run.q (e := vIv) (gv := vIv) (ok_spec_l08One) fun r88 hr88 => ?_
          refine Run.q (e := vIv) (gv := vIv) (ok_spec_MulI _ _) fun r89 hr89 => ?_
          refine Run.q (e := vIv) (gv := vIv) (ok_spec_Integer _) fun r90 hr90 => ?_
          refine Run.q (e := vIv) (gv := vIv) (ok_spec_DivI _ _) fun r91 hr91 => ?_
          refine Run.q (e := vIv) (gv := vIv) (ok_spec_AddI _ _) fun r92 hr92 => ?_
          refine Run.u 400 E_ok mixed Tryz.func185 ?_
          refine Run.z [true] ?_
          refine Run.q (e := vIv) (gv := vIv) (ok_spec_l08One) fun r93 hr93 => ?_
          refine Run.q (e := vIv) (gv := vIv) (ok_spec_MulI _ _) fun r94 hr94 => ?_
          refine Run.q (e := vIv) (gv := vIv) (ok_spec_Integer _) fun r95 hr95 => ?_
          refine Run.q (e := vIv) (gv := vIv) (ok_spec_DivI _ _) fun r96 hr96 => ?_
          refine Run.q (e := vIv) (gv := vIv) (ok_spec_AddI _ _) fun r97 hr97 => ?_
          refine Run.u 400 E_ok mixed Tryz.func185 ?_
          refine Run.z [true] ?_
          refine Run.q (e := vIv) (gv := vIv) (ok_spec_l08One) fun r98 hr98 => ?_
          refine Run.q (e := vIv) (gv := vIv) (ok_spec_MulI _ _) fun r99 hr99 => ?_
          refine Run.q (e := vIv) (gv := vIv) (ok_spec_Integer _) fun r100 hr100 => ?_
          refine Run.q (e := vIv) (gv := vIv) (ok_spec_DivI _ _) fun r101 hr101 => ?_
          refine Run.q (e := vIv) (gv := vIv) (ok_spec_AddI _ _) fun r102 hr102 => ?_
          refine Run.u 400 E_ok mixed Tryz.func185 ?_
          refine Run.z [true] ?_
          refine Run.q (e := vIv) (gv := vIv) (ok_spec_l08One) fun r103 hr103 => ?_
          refine Run.q (e := vIv) (gv := vIv) (ok_spec_MulI _ _) fun r104 hr104 => ?_
          refine Run.q (e := vIv) (gv := vIv) (ok_spec_Integer _) fun r105 hr105 => ?_
          refine Run.q (e := vIv) (gv := vIv) (ok_spec_DivI _ _) fun r106 hr106 => ?_
          refine Run.q (e := vIv) (gv := vIv) (ok_spec_AddI _ _) fun r107 hr107 => ?_
          refine Run.u 400 E_ok mixed Tryz.func185 ?_
          refine Run.z [false] ?_
          refine Run.q (e := vIv) (gv := vIv) (ok_spec_l08Widen _ _) fun r108 hr108 => ?_
          refine Run.q (e := vIv) (gv := vIv) (ok_spec_l08Scale _ _) fun r109 hr109 => ?_
          exact Run.x 0

theorem ok_spec_ExpI (a0 : Iv) : Fun Tryz.prog 103 [] #[vIv a0] (vIv (F_spec_ExpI a0)) [] := by
  refine Fun.ofH 400 E_ok mixed Tryz.func103 (by kernel_rfl) (by kernel_rfl) ?_
  unfold F_spec_ExpI
  refine Run.q (e := vB) (gv := vIv) (ok_spec_l04Ok _) fun r1 _ => ?_
  refine Run.y (gv := vIv) (fun _ => ?_) (fun _ => ?_)
  · refine Run.q (e := vIv) (gv := vIv) (ok_spec_l04Whole) fun r2 _ => ?_
    exact Run.x 0
  · refine Run.q (e := vIv) (gv := vIv) (ok_spec_ExpAt _) fun r3 _ => ?_
    refine Run.q (e := vIv) (gv := vIv) (ok_spec_ExpAt _) fun r4 _ => ?_
    refine Run.q (e := vIv) (gv := vIv) (ok_spec_l08Ends _ _) fun r5 _ => ?_
    exact Run.x 0

theorem ok_spec_l19Constant (a0 : Pj) (a1 : Iv) : Fun Tryz.prog 37 [] #[vPj a0, vIv a1] (vIv (F_spec_l19Constant a0 a1)) [] := by
  refine Fun.ofH 400 E_ok mixed Tryz.func37 (by kernel_rfl) (by kernel_rfl) ?_
  unfold F_spec_l19Constant
  refine Run.q (e := vIv) (gv := vIv) (ok_spec_RadiansOf _) fun r1 _ => ?_
  refine Run.y (gv := vIv) (fun _ => ?_) (fun _ => ?_)
  · refine Run.q (e := vIv) (gv := vIv) (ok_spec_CosI _) fun r2 _ => ?_
    refine Run.q (e := vIv) (gv := vIv) (ok_spec_SqrI _) fun r3 _ => ?_
    refine Run.q (e := vIv) (gv := vIv) (ok_spec_Integer _) fun r4 _ => ?_
    refine Run.q (e := vIv) (gv := vIv) (ok_spec_MulI _ _) fun r5 _ => ?_
    refine Run.q (e := vIv) (gv := vIv) (ok_spec_SinI _) fun r6 _ => ?_
    refine Run.q (e := vIv) (gv := vIv) (ok_spec_MulI _ _) fun r7 _ => ?_
    refine Run.q (e := vIv) (gv := vIv) (ok_spec_AddI _ _) fun r8 _ => ?_
    exact Run.x 0
  · refine Run.y (gv := vIv) (fun _ => ?_) (fun _ => ?_)
    · refine Run.q (e := vIv) (gv := vIv) (ok_spec_CosI _) fun r9 _ => ?_
      refine Run.q (e := vIv) (gv := vIv) (ok_spec_l19Iso _) fun r10 _ => ?_
      refine Run.q (e := vIv) (gv := vIv) (ok_spec_MulI _ _) fun r11 _ => ?_
      refine Run.q (e := vIv) (gv := vIv) (ok_spec_ExpI _) fun r12 _ => ?_
      refine Run.q (e := vIv) (gv := vIv) (ok_spec_MulI _ _) fun r13 _ => ?_
      refine Run.q (e := vIv) (gv := vIv) (ok_spec_DivI _ _) fun r14 _ => ?_
      exact Run.x 0
    · refine Run.q (e := vIv) (gv := vIv) (ok_spec_CosI _) fun r15 _ => ?_
      refine Run.q (e := vIv) (gv := vIv) (ok_spec_DivI _ _) fun r16 _ => ?_
      refine Run.q (e := vIv) (gv := vIv) (ok_spec_AddI _ _) fun r17 _ => ?_
      exact Run.x 0

theorem ok_spec_l19Radius (a0 : I64) (a1 : Iv) (a2 : Iv) (a3 : Iv) : Fun Tryz.prog 36 [] #[vI a0, vIv a1, vIv a2, vIv a3] (vIv (F_spec_l19Radius a0 a1 a2 a3)) [] := by
  refine Fun.ofH 400 E_ok mixed Tryz.func36 (by kernel_rfl) (by kernel_rfl) ?_
  unfold F_spec_l19Radius
  refine Run.y (gv := vIv) (fun _ => ?_) (fun _ => ?_)
  · refine Run.q (e := vIv) (gv := vIv) (ok_spec_Integer _) fun r1 _ => ?_
    refine Run.q (e := vIv) (gv := vIv) (ok_spec_MulI _ _) fun r2 _ => ?_
    refine Run.q (e := vIv) (gv := vIv) (ok_spec_SinI _) fun r3 _ => ?_
    refine Run.q (e := vIv) (gv := vIv) (ok_spec_MulI _ _) fun r4 _ => ?_
    refine Run.q (e := vIv) (gv := vIv) (ok_spec_SubI _ _) fun r5 _ => ?_
    refine Run.q (e := vIv) (gv := vIv) (ok_spec_SqrtI _) fun r6 _ => ?_
    refine Run.q (e := vIv) (gv := vIv) (ok_spec_DivI _ _) fun r7 _ => ?_
    exact Run.x 0
  · refine Run.y (gv := vIv) (fun _ => ?_) (fun _ => ?_)
    · refine Run.q (e := vIv) (gv := vIv) (ok_spec_l19Iso _) fun r8 _ => ?_
      refine Run.q (e := vIv) (gv := vIv) (ok_spec_MulI _ _) fun r9 _ => ?_
      refine Run.q (e := vIv) (gv := vIv) (ok_spec_NegI _) fun r10 _ => ?_
      refine Run.q (e := vIv) (gv := vIv) (ok_spec_ExpI _) fun r11 _ => ?_
      refine Run.q (e := vIv) (gv := vIv) (ok_spec_MulI _ _) fun r12 _ => ?_
      exact Run.x 0
    · refine Run.q (e := vIv) (gv := vIv) (ok_spec_SubI _ _) fun r13 _ => ?_
      exact Run.x 0

theorem ok_spec_l19Scale (a0 : Pj) (a1 : Iv) : Fun Tryz.prog 29 [] #[vPj a0, vIv a1] (vIv (F_spec_l19Scale a0 a1)) [] := by
  refine Fun.ofH 400 E_ok mixed Tryz.func29 (by kernel_rfl) (by kernel_rfl) ?_
  unfold F_spec_l19Scale
  refine Run.q (e := vIv) (gv := vIv) (ok_spec_l19Cone _) fun r1 _ => ?_
  refine Run.q (e := vIv) (gv := vIv) (ok_spec_l19Constant _ _) fun r2 _ => ?_
  refine Run.q (e := vIv) (gv := vIv) (ok_spec_l19Radius _ _ _ _) fun r3 _ => ?_
  refine Run.q (e := vIv) (gv := vIv) (ok_spec_MulI _ _) fun r4 _ => ?_
  refine Run.q (e := vIv) (gv := vIv) (ok_spec_CosI _) fun r5 _ => ?_
  refine Run.q (e := vIv) (gv := vIv) (ok_spec_DivI _ _) fun r6 _ => ?_
  exact Run.x 0

theorem ok_spec_l17Scales (a0 : Iv) (a1 : Iv) : Fun Tryz.prog 28 [] #[vIv a0, vIv a1] (vT_Iv_Iv_I (F_spec_l17Scales a0 a1)) [] := by
  refine Fun.ofH 400 E_ok mixed Tryz.func28 (by kernel_rfl) (by kernel_rfl) ?_
  unfold F_spec_l17Scales
  refine Run.q (e := vB) (gv := vT_Iv_Iv_I) (ok_spec_l04Ok _) fun r1 _ => ?_
  refine Run.y (gv := vT_Iv_Iv_I) (fun _ => ?_) (fun _ => ?_)
  · refine Run.z [true, true, true, true] ?_
    exact Run.x 0
  · refine Run.z [false] ?_
    refine Run.q (e := vB) (gv := vT_Iv_Iv_I) (ok_spec_l04Ok _) fun r2 _ => ?_
    refine Run.z [false, false] ?_
    refine Run.y (gv := vT_Iv_Iv_I) (fun _ => ?_) (fun _ => ?_)
    · exact Run.x 0
    · exact Run.x 0

theorem ok_spec_StandardScales (a0 : Pj) : Fun Tryz.prog 9 [] #[vPj a0] (vT_Iv_Iv_I (F_spec_StandardScales a0)) [] := by
  refine Fun.ofH 400 E_ok mixed Tryz.func9 (by kernel_rfl) (by kernel_rfl) ?_
  unfold F_spec_StandardScales
  refine Run.q (e := vB) (gv := vT_Iv_Iv_I) (ok_spec_l19Ok _) fun r1 _ => ?_
  refine Run.y (gv := vT_Iv_Iv_I) (fun _ => ?_) (fun _ => ?_)
  · exact Run.x 0
  · refine Run.q (e := vIv) (gv := vT_Iv_Iv_I) (ok_spec_RadiansOf _) fun r2 _ => ?_
    refine Run.q (e := vIv) (gv := vT_Iv_Iv_I) (ok_spec_l19Scale _ _) fun r3 _ => ?_
    refine Run.q (e := vIv) (gv := vT_Iv_Iv_I) (ok_spec_RadiansOf _) fun r4 _ => ?_
    refine Run.q (e := vIv) (gv := vT_Iv_Iv_I) (ok_spec_l19Scale _ _) fun r5 _ => ?_
    refine Run.q (e := vT_Iv_Iv_I) (gv := vT_Iv_Iv_I) (ok_spec_l17Scales _ _) fun r6 _ => ?_
    exact Run.x 0

theorem ok_impl_within (a0 : I64) (a1 : I64) (a2 : I64) : Fun Tryz.prog 131 [] #[vI a0, vI a1, vI a2] (vB (F_impl_within a0 a1 a2)) [] := by
  refine Fun.ofH 400 E_ok mixed Tryz.func131 (by kernel_rfl) (by kernel_rfl) ?_
  unfold F_impl_within
  refine Run.y (gv := vB) (fun _ => ?_) (fun _ => ?_)
  · refine Run.z [true, true, true] ?_
    exact Run.x 0
  · refine Run.z [false, false, false] ?_
    exact Run.x 0

theorem ok_impl_ValidPoint (a0 : Pt) : Fun Tryz.prog 66 [] #[vPt a0] (vB (F_impl_ValidPoint a0)) [] := by
  refine Fun.ofH 400 E_ok mixed Tryz.func66 (by kernel_rfl) (by kernel_rfl) ?_
  unfold F_impl_ValidPoint
  refine Run.q (e := vB) (gv := vB) (ok_impl_within _ _ _) fun r1 _ => ?_
  refine Run.y (gv := vB) (fun _ => ?_) (fun _ => ?_)
  · refine Run.z [true, true, true] ?_
    refine Run.y (gv := vB) (fun _ => ?_) (fun _ => ?_)
    · refine Run.z [true, true, true] ?_
      exact Run.x 0
    · refine Run.z [false, false, false] ?_
      exact Run.x 0
  · refine Run.z [false, false, false, false, false, false, false] ?_
    exact Run.x 0

theorem ok_impl_isStandard (a0 : I64) : Fun Tryz.prog 177 [] #[vI a0] (vB (F_impl_isStandard a0)) [] := by
  refine Fun.ofH 400 E_ok mixed Tryz.func177 (by kernel_rfl) (by kernel_rfl) ?_
  unfold F_impl_isStandard
  refine Run.q (e := vB) (gv := vB) (ok_impl_within _ _ _) fun r1 _ => ?_
  exact Run.x 0

theorem ok_impl_isAzimuthal (a0 : I64) : Fun Tryz.prog 178 [] #[vI a0] (vB (F_impl_isAzimuthal a0)) [] := by
  refine Fun.ofH 400 E_ok mixed Tryz.func178 (by kernel_rfl) (by kernel_rfl) ?_
  unfold F_impl_isAzimuthal
  refine Run.q (e := vB) (gv := vB) (ok_impl_within _ _ _) fun r1 _ => ?_
  exact Run.x 0

theorem ok_impl_isConic (a0 : I64) : Fun Tryz.prog 95 [] #[vI a0] (vB (F_impl_isConic a0)) [] := by
  refine Fun.ofH 400 E_ok mixed Tryz.func95 (by kernel_rfl) (by kernel_rfl) ?_
  unfold F_impl_isConic
  refine Run.q (e := vB) (gv := vB) (ok_impl_within _ _ _) fun r1 _ => ?_
  exact Run.x 0

theorem ok_impl_abs (a0 : I64) : Fun Tryz.prog 150 [] #[vI a0] (vI (F_impl_abs a0)) [] := by
  refine Fun.ofH 400 E_ok mixed Tryz.func150 (by kernel_rfl) (by kernel_rfl) ?_
  unfold F_impl_abs
  exact Run.x 0

theorem ok_impl_ValidProjection (a0 : Pj) : Fun Tryz.prog 94 [] #[vPj a0] (vB (F_impl_ValidProjection a0)) [] := by
  refine Fun.ofH 400 E_ok mixed Tryz.func94 (by kernel_rfl) (by kernel_rfl) ?_
  unfold F_impl_ValidProjection
  refine Run.q (e := vB) (gv := vB) (ok_impl_within _ _ _) fun r1 _ => ?_
  refine Run.y (gv := vB) (fun _ => ?_) (fun _ => ?_)
  · refine Run.z [true, true, true, true, true, true, true, true, true, true, true, true, true, true, true, true, true, true] ?_
    exact Run.x 0
  · refine Run.z [false, false, false, false, false] ?_
    refine Run.q (e := vB) (gv := vB) (ok_impl_ValidPoint _) fun r2 _ => ?_
    refine Run.z [false, false] ?_
    refine Run.y (gv := vB) (fun _ => ?_) (fun _ => ?_)
    · refine Run.z [true, true, true, true, true, true, true, true, true, true] ?_
      exact Run.x 0
    · refine Run.z [false, false] ?_
      refine Run.q (e := vB) (gv := vB) (ok_impl_isStandard _) fun r3 _ => ?_
      refine Run.z [false, false] ?_
      refine Run.y (gv := vB) (fun _ => ?_) (fun _ => ?_)
      · refine Run.z [true, true, true, true, true] ?_
        exact Run.x 0
      · refine Run.z [false, false] ?_
        refine Run.q (e := vB) (gv := vB) (ok_impl_isStandard _) fun r4 _ => ?_
        refine Run.z [false, false] ?_
        refine Run.y (gv := vB) (fun _ => ?_) (fun _ => ?_)
        · exact Run.x 0
        · refine Run.q (e := vB) (gv := vB) (ok_impl_isAzimuthal _) fun r5 _ => ?_
          refine Run.y (gv := vB) (fun _ => ?_) (fun _ => ?_)
          · refine Run.z [true, true, true, true, true, true, true] ?_
            refine Run.q (e := vB) (gv := vB) (ok_impl_isConic _) fun r6 _ => ?_
            refine Run.y (gv := vB) (fun _ => ?_) (fun _ => ?_)
            · refine Run.z [true, true, true, true, true, true, true, false, false, false, false, false, false, false, false, false, false, false, false, false, false, false, false] ?_
              refine Run.q (e := vB) (gv := vB) (ok_impl_isConic _) fun r7 _ => ?_
              refine Run.z [false, false] ?_
              refine Run.y (gv := vB) (fun _ => ?_) (fun _ => ?_)
              · refine Run.z [true, true, false, true, false] ?_
                refine Run.y (gv := vB) (fun _ => ?_) (fun _ => ?_)
                · exact Run.x 0
                · refine Run.q (e := vB) (gv := vB) (ok_impl_isConic _) fun r8 _ => ?_
                  refine Run.y (gv := vB) (fun _ => ?_) (fun _ => ?_)
                  · refine Run.z [true, true, true, true, true, true, true] ?_
                    exact Run.x 0
                  · refine Run.z [false, false, false, false, false] ?_
                    refine Run.q (e := vI) (gv := vB) (ok_impl_abs _) fun r9 _ => ?_
                    refine Run.z [false, false] ?_
                    exact Run.x 0
              · refine Run.z [false, false, false, false, false, false] ?_
                refine Run.q (e := vB) (gv := vB) (ok_impl_isConic _) fun r10 _ => ?_
                refine Run.y (gv := vB) (fun _ => ?_) (fun _ => ?_)
                · refine Run.z [true, true, true, true, true, true, true] ?_
                  exact Run.x 0
                · refine Run.z [false, false, false, false, false] ?_
                  refine Run.q (e := vI) (gv := vB) (ok_impl_abs _) fun r11 _ => ?_
                  refine Run.z [false, false] ?_
                  exact Run.x 0
            · refine Run.z [false, false, false] ?_
              refine Run.y (gv := vB) (fun _ => ?_) (fun _ => ?_)
              · refine Run.z [true, true, true, false, false, false, false, false, false, false, false, false, false, false, false, false, false, false, false] ?_
                refine Run.q (e := vB) (gv := vB) (ok_impl_isConic _) fun r12 _ => ?_
                refine Run.z [false, false] ?_
                refine Run.y (gv := vB) (fun _ => ?_) (fun _ => ?_)
                · refine Run.z [true, true, false, true, false] ?_
                  refine Run.y (gv := vB) (fun _ => ?_) (fun _ => ?_)
                  · exact Run.x 0
                  · refine Run.q (e := vB) (gv := vB) (ok_impl_isConic _) fun r13 _ => ?_
                    refine Run.y (gv := vB) (fun _ => ?_) (fun _ => ?_)
                    · refine Run.z [true, true, true, true, true, true, true] ?_
                      exact Run.x 0
                    · refine Run.z [false, false, false, false, false] ?_
                      refine Run.q (e := vI) (gv := vB) (ok_impl_abs _) fun r14 _ => ?_
                      refine Run.z [false, false] ?_
                      exact Run.x 0
                · refine Run.z [false, false, false, false, false, false] ?_
                  refine Run.q (e := vB) (gv := vB) (ok_impl_isConic _) fun r15 _ => ?_
                  refine Run.y (gv := vB) (fun _ => ?_) (fun _ => ?_)
                  · refine Run.z [true, true, true, true, true, true, true] ?_
                    exact Run.x 0
                  · refine Run.z [false, false, false, false, false] ?_
                    refine Run.q (e := vI) (gv := vB) (ok_impl_abs _) fun r16 _ => ?_
                    refine Run.z [false, false] ?_
                    exact Run.x 0
              · refine Run.z [false, false, false, false, false, false, false, false, false, false] ?_
                refine Run.y (gv := vB) (fun _ => ?_) (fun _ => ?_)
                · refine Run.z [true, true, false, true, false] ?_
                  refine Run.y (gv := vB) (fun _ => ?_) (fun _ => ?_)
                  · refine Run.z [true, true, true, true, true, true, true] ?_
                    exact Run.x 0
                  · refine Run.z [false, false] ?_
                    refine Run.q (e := vB) (gv := vB) (ok_impl_isConic _) fun r17 _ => ?_
                    refine Run.z [false, false] ?_
                    refine Run.y (gv := vB) (fun _ => ?_) (fun _ => ?_)
                    · refine Run.z [true, true, false, true, false] ?_
                      refine Run.y (gv := vB) (fun _ => ?_) (fun _ => ?_)
                      · exact Run.x 0
                      · refine Run.q (e := vB) (gv := vB) (ok_impl_isConic _) fun r18 _ => ?_
                        refine Run.y (gv := vB) (fun _ => ?_) (fun _ => ?_)
                        · refine Run.z [true, true, true, true, true, true, true] ?_
                          exact Run.x 0
                        · refine Run.z [false, false, false, false, false] ?_
                          refine Run.q (e := vI) (gv := vB) (ok_impl_abs _) fun r19 _ => ?_
                          refine Run.z [false, false] ?_
                          exact Run.x 0
                    · refine Run.z [false, false, false, false, false, false] ?_
                      refine Run.q (e := vB) (gv := vB) (ok_impl_isConic _) fun r20 _ => ?_
                      refine Run.y (gv := vB) (fun _ => ?_) (fun _ => ?_)
                      · refine Run.z [true, true, true, true, true, true, true] ?_
                        exact Run.x 0
                      · refine Run.z [false, false, false, false, false] ?_
                        refine Run.q (e := vI) (gv := vB) (ok_impl_abs _) fun r21 _ => ?_
                        refine Run.z [false, false] ?_
                        exact Run.x 0
                · refine Run.z [false, false, false, false, false, false, false, false] ?_
                  refine Run.q (e := vB) (gv := vB) (ok_impl_isConic _) fun r22 _ => ?_
                  refine Run.z [false, false] ?_
                  refine Run.y (gv := vB) (fun _ => ?_) (fun _ => ?_)
                  · refine Run.z [true, true, false, true, false] ?_
                    refine Run.y (gv := vB) (fun _ => ?_) (fun _ => ?_)
                    · exact Run.x 0
                    · refine Run.q (e := vB) (gv := vB) (ok_impl_isConic _) fun r23 _ => ?_
                      refine Run.y (gv := vB) (fun _ => ?_) (fun _ => ?_)
                      · refine Run.z [true, true, true, true, true, true, true] ?_
                        exact Run.x 0
                      · refine Run.z [false, false, false, false, false] ?_
                        refine Run.q (e := vI) (gv := vB) (ok_impl_abs _) fun r24 _ => ?_
                        refine Run.z [false, false] ?_
                        exact Run.x 0
                  · refine Run.z [false, false, false, false, false, false] ?_
                    refine Run.q (e := vB) (gv := vB) (ok_impl_isConic _) fun r25 _ => ?_
                    refine Run.y (gv := vB) (fun _ => ?_) (fun _ => ?_)
                    · refine Run.z [true, true, true, true, true, true, true] ?_
                      exact Run.x 0
                    · refine Run.z [false, false, false, false, false] ?_
                      refine Run.q (e := vI) (gv := vB) (ok_impl_abs _) fun r26 _ => ?_
                      refine Run.z [false, false] ?_
                      exact Run.x 0
          · refine Run.z [false, false] ?_
            refine Run.q (e := vB) (gv := vB) (ok_impl_isConic _) fun r27 _ => ?_
            refine Run.z [false] ?_
            refine Run.y (gv := vB) (fun _ => ?_) (fun _ => ?_)
            · refine Run.z [true, true, true] ?_
              refine Run.q (e := vB) (gv := vB) (ok_impl_isConic _) fun r28 _ => ?_
              refine Run.y (gv := vB) (fun _ => ?_) (fun _ => ?_)
              · refine Run.z [true, true, true, true, true, true, true, false, false, false, false, false, false, false, false, false, false, false, false, false, false, false, false] ?_
                refine Run.q (e := vB) (gv := vB) (ok_impl_isConic _) fun r29 _ => ?_
                refine Run.z [false, false] ?_
                refine Run.y (gv := vB) (fun _ => ?_) (fun _ => ?_)
                · refine Run.z [true, true, false, true, false] ?_
                  refine Run.y (gv := vB) (fun _ => ?_) (fun _ => ?_)
                  · exact Run.x 0
                  · refine Run.q (e := vB) (gv := vB) (ok_impl_isConic _) fun r30 _ => ?_
                    refine Run.y (gv := vB) (fun _ => ?_) (fun _ => ?_)
                    · refine Run.z [true, true, true, true, true, true, true] ?_
                      exact Run.x 0
                    · refine Run.z [false, false, false, false, false] ?_
                      refine Run.q (e := vI) (gv := vB) (ok_impl_abs _) fun r31 _ => ?_
                      refine Run.z [false, false] ?_
                      exact Run.x 0
                · refine Run.z [false, false, false, false, false, false] ?_
                  refine Run.q (e := vB) (gv := vB) (ok_impl_isConic _) fun r32 _ => ?_
                  refine Run.y (gv := vB) (fun _ => ?_) (fun _ => ?_)
                  · refine Run.z [true, true, true, true, true, true, true] ?_
                    exact Run.x 0
                  · refine Run.z [false, false, false, false, false] ?_
                    refine Run.q (e := vI) (gv := vB) (ok_impl_abs _) fun r33 _ => ?_
                    refine Run.z [false, false] ?_
                    exact Run.x 0
              · refine Run.z [false, false, false] ?_
                refine Run.y (gv := vB) (fun _ => ?_) (fun _ => ?_)
                · refine Run.z [true, true, true, false, false, false, false, false, false, false, false, false, false, false, false, false, false, false, false] ?_
                  refine Run.q (e := vB) (gv := vB) (ok_impl_isConic _) fun r34 _ => ?_
                  refine Run.z [false, false] ?_
                  refine Run.y (gv := vB) (fun _ => ?_) (fun _ => ?_)
                  · refine Run.z [true, true, false, true, false] ?_
                    refine Run.y (gv := vB) (fun _ => ?_) (fun _ => ?_)
                    · exact Run.x 0
                    · refine Run.q (e := vB) (gv := vB) (ok_impl_isConic _) fun r35 _ => ?_
                      refine Run.y (gv := vB) (fun _ => ?_) (fun _ => ?_)
                      · refine Run.z [true, true, true, true, true, true, true] ?_
                        exact Run.x 0
                      · refine Run.z [false, false, false, false, false] ?_
                        refine Run.q (e := vI) (gv := vB) (ok_impl_abs _) fun r36 _ => ?_
                        refine Run.z [false, false] ?_
                        exact Run.x 0
                  · refine Run.z [false, false, false, false, false, false] ?_
                    refine Run.q (e := vB) (gv := vB) (ok_impl_isConic _) fun r37 _ => ?_
                    refine Run.y (gv := vB) (fun _ => ?_) (fun _ => ?_)
                    · refine Run.z [true, true, true, true, true, true, true] ?_
                      exact Run.x 0
                    · refine Run.z [false, false, false, false, false] ?_
                      refine Run.q (e := vI) (gv := vB) (ok_impl_abs _) fun r38 _ => ?_
                      refine Run.z [false, false] ?_
                      exact Run.x 0
                · refine Run.z [false, false, false, false, false, false, false, false, false, false] ?_
                  refine Run.y (gv := vB) (fun _ => ?_) (fun _ => ?_)
                  · refine Run.z [true, true, false, true, false] ?_
                    refine Run.y (gv := vB) (fun _ => ?_) (fun _ => ?_)
                    · refine Run.z [true, true, true, true, true, true, true] ?_
                      exact Run.x 0
                    · refine Run.z [false, false] ?_
                      refine Run.q (e := vB) (gv := vB) (ok_impl_isConic _) fun r39 _ => ?_
                      refine Run.z [false, false] ?_
                      refine Run.y (gv := vB) (fun _ => ?_) (fun _ => ?_)
                      · refine Run.z [true, true, false, true, false] ?_
                        refine Run.y (gv := vB) (fun _ => ?_) (fun _ => ?_)
                        · exact Run.x 0
                        · refine Run.q (e := vB) (gv := vB) (ok_impl_isConic _) fun r40 _ => ?_
                          refine Run.y (gv := vB) (fun _ => ?_) (fun _ => ?_)
                          · refine Run.z [true, true, true, true, true, true, true] ?_
                            exact Run.x 0
                          · refine Run.z [false, false, false, false, false] ?_
                            refine Run.q (e := vI) (gv := vB) (ok_impl_abs _) fun r41 _ => ?_
                            refine Run.z [false, false] ?_
                            exact Run.x 0
                      · refine Run.z [false, false, false, false, false, false] ?_
                        refine Run.q (e := vB) (gv := vB) (ok_impl_isConic _) fun r42 _ => ?_
                        refine Run.y (gv := vB) (fun _ => ?_) (fun _ => ?_)
                        · refine Run.z [true, true, true, true, true, true, true] ?_
                          exact Run.x 0
                        · refine Run.z [false, false, false, false, false] ?_
                          refine Run.q (e := vI) (gv := vB) (ok_impl_abs _) fun r43 _ => ?_
                          refine Run.z [false, false] ?_
                          exact Run.x 0
                  · refine Run.z [false, false, false, false, false, false, false, false] ?_
                    refine Run.q (e := vB) (gv := vB) (ok_impl_isConic _) fun r44 _ => ?_
                    refine Run.z [false, false] ?_
                    refine Run.y (gv := vB) (fun _ => ?_) (fun _ => ?_)
                    · refine Run.z [true, true, false, true, false] ?_
                      refine Run.y (gv := vB) (fun _ => ?_) (fun _ => ?_)
                      · exact Run.x 0
                      · refine Run.q (e := vB) (gv := vB) (ok_impl_isConic _) fun r45 _ => ?_
                        refine Run.y (gv := vB) (fun _ => ?_) (fun _ => ?_)
                        · refine Run.z [true, true, true, true, true, true, true] ?_
                          exact Run.x 0
                        · refine Run.z [false, false, false, false, false] ?_
                          refine Run.q (e := vI) (gv := vB) (ok_impl_abs _) fun r46 _ => ?_
                          refine Run.z [false, false] ?_
                          exact Run.x 0
                    · refine Run.z [false, false, false, false, false, false] ?_
                      refine Run.q (e := vB) (gv := vB) (ok_impl_isConic _) fun r47 _ => ?_
                      refine Run.y (gv := vB) (fun _ => ?_) (fun _ => ?_)
                      · refine Run.z [true, true, true, true, true, true, true] ?_
                        exact Run.x 0
                      · refine Run.z [false, false, false, false, false] ?_
                        refine Run.q (e := vI) (gv := vB) (ok_impl_abs _) fun r48 _ => ?_
                        refine Run.z [false, false] ?_
                        exact Run.x 0
            · refine Run.z [false, false, false] ?_
              refine Run.q (e := vB) (gv := vB) (ok_impl_isConic _) fun r49 _ => ?_
              refine Run.y (gv := vB) (fun _ => ?_) (fun _ => ?_)
              · refine Run.z [true, true, true, true, true, true, true] ?_
                refine Run.y (gv := vB) (fun _ => ?_) (fun _ => ?_)
                · refine Run.z [true, true, true] ?_
                  refine Run.y (gv := vB) (fun _ => ?_) (fun _ => ?_)
                  · refine Run.z [true, true, true, true, true, true, true, true, true, true, true, true] ?_
                    exact Run.x 0
                  · refine Run.z [false, false, false, false, false, false, false, false, false, false, false] ?_
                    refine Run.q (e := vB) (gv := vB) (ok_impl_isConic _) fun r50 _ => ?_
                    refine Run.z [false, false] ?_
                    refine Run.y (gv := vB) (fun _ => ?_) (fun _ => ?_)
                    · refine Run.z [true, true, false, true, false] ?_
                      refine Run.y (gv := vB) (fun _ => ?_) (fun _ => ?_)
                      · exact Run.x 0
                      · refine Run.q (e := vB) (gv := vB) (ok_impl_isConic _) fun r51 _ => ?_
                        refine Run.y (gv := vB) (fun _ => ?_) (fun _ => ?_)
                        · refine Run.z [true, true, true, true, true, true, true] ?_
                          exact Run.x 0
                        · refine Run.z [false, false, false, false, false] ?_
                          refine Run.q (e := vI) (gv := vB) (ok_impl_abs _) fun r52 _ => ?_
                          refine Run.z [false, false] ?_
                          exact Run.x 0
                    · refine Run.z [false, false, false, false, false, false] ?_
                      refine Run.q (e := vB) (gv := vB) (ok_impl_isConic _) fun r53 _ => ?_
                      refine Run.y (gv := vB) (fun _ => ?_) (fun _ => ?_)
                      · refine Run.z [true, true, true, true, true, true, true] ?_
                        exact Run.x 0
                      · refine Run.z [false, false, false, false, false] ?_
                        refine Run.q (e := vI) (gv := vB) (ok_impl_abs _) fun r54 _ => ?_
                        refine Run.z [false, false] ?_
                        exact Run.x 0
                · refine Run.z [false, false, false, false, false, false, false, false, false, false, false, false, false, false, false] ?_
                  refine Run.q (e := vB) (gv := vB) (ok_impl_isConic _) fun r55 _ => ?_
                  refine Run.z [false, false] ?_
                  refine Run.y (gv := vB) (fun _ => ?_) (fun _ => ?_)
                  · refine Run.z [true, true, false, true, false] ?_
                    refine Run.y (gv := vB) (fun _ => ?_) (fun _ => ?_)
                    · exact Run.x 0
                    · refine Run.q (e := vB) (gv := vB) (ok_impl_isConic _) fun r56 _ => ?_
                      refine Run.y (gv := vB) (fun _ => ?_) (fun _ => ?_)
                      · refine Run.z [true, true, true, true, true, true, true] ?_
                        exact Run.x 0
                      · refine Run.z [false, false, false, false, false] ?_
                        refine Run.q (e := vI) (gv := vB) (ok_impl_abs _) fun r57 _ => ?_
                        refine Run.z [false, false] ?_
                        exact Run.x 0
                  · refine Run.z [false, false, false, false, false, false] ?_
                    refine Run.q (e := vB) (gv := vB) (ok_impl_isConic _) fun r58 _ => ?_
                    refine Run.y (gv := vB) (fun _ => ?_) (fun _ => ?_)
                    · refine Run.z [true, true, true, true, true, true, true] ?_
                      exact Run.x 0
                    · refine Run.z [false, false, false, false, false] ?_
                      refine Run.q (e := vI) (gv := vB) (ok_impl_abs _) fun r59 _ => ?_
                      refine Run.z [false, false] ?_
                      exact Run.x 0
              · refine Run.z [false, false, false] ?_
                refine Run.y (gv := vB) (fun _ => ?_) (fun _ => ?_)
                · refine Run.z [true, true, true] ?_
                  refine Run.y (gv := vB) (fun _ => ?_) (fun _ => ?_)
                  · refine Run.z [true, true, true] ?_
                    refine Run.y (gv := vB) (fun _ => ?_) (fun _ => ?_)
                    · refine Run.z [true, true, true, true, true, true, true, true, true, true, true, true] ?_
                      exact Run.x 0
                    · refine Run.z [false, false, false, false, false, false, false, false, false, false, false] ?_
                      refine Run.q (e := vB) (gv := vB) (ok_impl_isConic _) fun r60 _ => ?_
                      refine Run.z [false, false] ?_
                      refine Run.y (gv := vB) (fun _ => ?_) (fun _ => ?_)
                      · refine Run.z [true, true, false, true, false] ?_
                        refine Run.y (gv := vB) (fun _ => ?_) (fun _ => ?_)
                        · exact Run.x 0
                        · refine Run.q (e := vB) (gv := vB) (ok_impl_isConic _) fun r61 _ => ?_
                          refine Run.y (gv := vB) (fun _ => ?_) (fun _ => ?_)
                          · refine Run.z [true, true, true, true, true, true, true] ?_
                            exact Run.x 0
                          · refine Run.z [false, false, false, false, false] ?_
                            refine Run.q (e := vI) (gv := vB) (ok_impl_abs _) fun r62 _ => ?_
                            refine Run.z [false, false] ?_
                            exact Run.x 0
                      · refine Run.z [false, false, false, false, false, false] ?_
                        refine Run.q (e := vB) (gv := vB) (ok_impl_isConic _) fun r63 _ => ?_
                        refine Run.y (gv := vB) (fun _ => ?_) (fun _ => ?_)
                        · refine Run.z [true, true, true, true, true, true, true] ?_
                          exact Run.x 0
                        · refine Run.z [false, false, false, false, false] ?_
                          refine Run.q (e := vI) (gv := vB) (ok_impl_abs _) fun r64 _ => ?_
                          refine Run.z [false, false] ?_
                          exact Run.x 0
                  · refine Run.z [false, false, false, false, false, false, false, false, false, false, false, false, false, false, false] ?_
                    refine Run.q (e := vB) (gv := vB) (ok_impl_isConic _) fun r65 _ => ?_
                    refine Run.z [false, false] ?_
                    refine Run.y (gv := vB) (fun _ => ?_) (fun _ => ?_)
                    · refine Run.z [true, true, false, true, false] ?_
                      refine Run.y (gv := vB) (fun _ => ?_) (fun _ => ?_)
                      · exact Run.x 0
                      · refine Run.q (e := vB) (gv := vB) (ok_impl_isConic _) fun r66 _ => ?_
                        refine Run.y (gv := vB) (fun _ => ?_) (fun _ => ?_)
                        · refine Run.z [true, true, true, true, true, true, true] ?_
                          exact Run.x 0
                        · refine Run.z [false, false, false, false, false] ?_
                          refine Run.q (e := vI) (gv := vB) (ok_impl_abs _) fun r67 _ => ?_
                          refine Run.z [false, false] ?_
                          exact Run.x 0
                    · refine Run.z [false, false, false, false, false, false] ?_
                      refine Run.q (e := vB) (gv := vB) (ok_impl_isConic _) fun r68 _ => ?_
                      refine Run.y (gv := vB) (fun _ => ?_) (fun _ => ?_)
                      · refine Run.z [true, true, true, true, true, true, true] ?_
                        exact Run.x 0
                      · refine Run.z [false, false, false, false, false] ?_
                        refine Run.q (e := vI) (gv := vB) (ok_impl_abs _) fun r69 _ => ?_
                        refine Run.z [false, false] ?_
                        exact Run.x 0
                · refine Run.z [false, false, false] ?_
                  refine Run.y (gv := vB) (fun _ => ?_) (fun _ => ?_)
                  · refine Run.z [true, true, true] ?_
                    refine Run.y (gv := vB) (fun _ => ?_) (fun _ => ?_)
                    · refine Run.z [true, true, true, true, true, true, true, true, true, true, true, true] ?_
                      exact Run.x 0
                    · refine Run.z [false, false] ?_
                      refine Run.y (gv := vB) (fun _ => ?_) (fun _ => ?_)
                      · refine Run.z [true, true, false, true, false] ?_
                        refine Run.y (gv := vB) (fun _ => ?_) (fun _ => ?_)
                        · refine Run.z [true, true, true, true, true, true, true] ?_
                          exact Run.x 0
                        · refine Run.z [false, false] ?_
                          refine Run.q (e := vB) (gv := vB) (ok_impl_isConic _) fun r70 _ => ?_
                          refine Run.z [false, false] ?_
                          refine Run.y (gv := vB) (fun _ => ?_) (fun _ => ?_)
                          · refine Run.z [true, true, false, true, false] ?_
                            refine Run.y (gv := vB) (fun _ => ?_) (fun _ => ?_)
                            · exact Run.x 0
                            · refine Run.q (e := vB) (gv := vB) (ok_impl_isConic _) fun r71 _ => ?_
                              refine Run.y (gv := vB) (fun _ => ?_) (fun _ => ?_)
                              · refine Run.z [true, true, true, true, true, true, true] ?_
                                exact Run.x 0
                              · refine Run.z [false, false, false, false, false] ?_
                                refine Run.q (e := vI) (gv := vB) (ok_impl_abs _) fun r72 _ => ?_
                                refine Run.z [false, false] ?_
                                exact Run.x 0
                          · refine Run.z [false, false, false, false, false, false] ?_
                            refine Run.q (e := vB) (gv := vB) (ok_impl_isConic _) fun r73 _ => ?_
                            refine Run.y (gv := vB) (fun _ => ?_) (fun _ => ?_)
                            · refine Run.z [true, true, true, true, true, true, true] ?_
                              exact Run.x 0
                            · refine Run.z [false, false, false, false, false] ?_
                              refine Run.q (e := vI) (gv := vB) (ok_impl_abs _) fun r74 _ => ?_
                              refine Run.z [false, false] ?_
                              exact Run.x 0
                      · refine Run.z [false, false, false, false, false, false, false, false] ?_
                        refine Run.q (e := vB) (gv := vB) (ok_impl_isConic _) fun r75 _ => ?_
                        refine Run.z [false, false] ?_
                        refine Run.y (gv := vB) (fun _ => ?_) (fun _ => ?_)
                        · refine Run.z [true, true, false, true, false] ?_
                          refine Run.y (gv := vB) (fun _ => ?_) (fun _ => ?_)
                          · exact Run.x 0
                          · refine Run.q (e := vB) (gv := vB) (ok_impl_isConic _) fun r76 _ => ?_
                            refine Run.y (gv := vB) (fun _ => ?_) (fun _ => ?_)
                            · refine Run.z [true, true, true, true, true, true, true] ?_
                              exact Run.x 0
                            · refine Run.z [false, false, false, false, false] ?_
                              refine Run.q (e := vI) (gv := vB) (ok_impl_abs _) fun r77 _ => ?_
                              refine Run.z [false, false] ?_
                              exact Run.x 0
                        · refine Run.z [false, false, false, false, false, false] ?_
                          refine Run.q (e := vB) (gv := vB) (ok_impl_isConic _) fun r78 _ => ?_
                          refine Run.y (gv := vB) (fun _ => ?_) (fun _ => ?_)
                          · refine Run.z [true, true, true, true, true, true, true] ?_
                            exact Run.x 0
                          · refine Run.z [false, false, false, false, false] ?_
                            refine Run.q (e := vI) (gv := vB) (ok_impl_abs _) fun r79 _ => ?_
                            refine Run.z [false, false] ?_
                            exact Run.x 0
                  · refine Run.z [false, false, false, false, false, false] ?_
                    refine Run.y (gv := vB) (fun _ => ?_) (fun _ => ?_)
                    · refine Run.z [true, true, false, true, false] ?_
                      refine Run.y (gv := vB) (fun _ => ?_) (fun _ => ?_)
                      · refine Run.z [true, true, true, true, true, true, true] ?_
                        exact Run.x 0
                      · refine Run.z [false, false] ?_
                        refine Run.q (e := vB) (gv := vB) (ok_impl_isConic _) fun r80 _ => ?_
                        refine Run.z [false, false] ?_
                        refine Run.y (gv := vB) (fun _ => ?_) (fun _ => ?_)
                        · refine Run.z [true, true, false, true, false] ?_
                          refine Run.y (gv := vB) (fun _ => ?_) (fun _ => ?_)
                          · exact Run.x 0
                          · refine Run.q (e := vB) (gv := vB) (ok_impl_isConic _) fun r81 _ => ?_
                            refine Run.y (gv := vB) (fun _ => ?_) (fun _ => ?_)
                            · refine Run.z [true, true, true, true, true, true, true] ?_
                              exact Run.x 0
                            · refine Run.z [false, false, false, false, false] ?_
                              refine Run.q (e := vI) (gv := vB) (ok_impl_abs _) fun r82 _ => ?_
                              refine Run.z [false, false] ?_
                              exact Run.x 0
                        · refine Run.z [false, false, false, false, false, false] ?_
                          refine Run.q (e := vB) (gv := vB) (ok_impl_isConic _) fun r83 _ => ?_
                          refine Run.y (gv := vB) (fun _ => ?_) (fun _ => ?_)
                          · refine Run.z [true, true, true, true, true, true, true] ?_
                            exact Run.x 0
                          · refine Run.z [false, false, false, false, false] ?_
                            refine Run.q (e := vI) (gv := vB) (ok_impl_abs _) fun r84 _ => ?_
                            refine Run.z [false, false] ?_
                            exact Run.x 0
                    · refine Run.z [false, false, false, false, false, false, false, false] ?_
                      refine Run.q (e := vB) (gv := vB) (ok_impl_isConic _) fun r85 _ => ?_
                      refine Run.z [false, false] ?_
                      refine Run.y (gv := vB) (fun _ => ?_) (fun _ => ?_)
                      · refine Run.z [true, true, false, true, false] ?_
                        refine Run.y (gv := vB) (fun _ => ?_) (fun _ => ?_)
                        · exact Run.x 0
                        · refine Run.q (e := vB) (gv := vB) (ok_impl_isConic _) fun r86 _ => ?_
                          refine Run.y (gv := vB) (fun _ => ?_) (fun _ => ?_)
                          · refine Run.z [true, true, true, true, true, true, true] ?_
                            exact Run.x 0
                          · refine Run.z [false, false, false, false, false] ?_
                            refine Run.q (e := vI) (gv := vB) (ok_impl_abs _) fun r87 _ => ?_
                            refine Run.z [false, false] ?_
                            exact Run.x 0
                      · refine Run.z [false, false, false, false, false, false] ?_
                        refine Run.q (e := vB) (gv := vB) (ok_impl_isConic _) fun r88 _ => ?_
                        refine Run.y (gv := vB) (fun _ => ?_) (fun _ => ?_)
                        · refine Run.z [true, true, true, true, true, true, true] ?_
                          exact Run.x 0
                        · refine Run.z [false, false, false, false, false] ?_
                          refine Run.q (e := vI) (gv := vB) (ok_impl_abs _) fun r89 _ => ?_
                          refine Run.z [false, false] ?_
                          exact Run.x 0

theorem ok_impl_Whole : Fun Tryz.prog 129 [] #[] (vIv (F_impl_Whole)) [] := by
  refine Fun.ofH 400 E_ok mixed Tryz.func129 (by kernel_rfl) (by kernel_rfl) ?_
  unfold F_impl_Whole
  exact Run.x 0

theorem ok_impl_ValidInterval (a0 : Iv) : Fun Tryz.prog 147 [] #[vIv a0] (vB (F_impl_ValidInterval a0)) [] := by
  refine Fun.ofH 400 E_ok mixed Tryz.func147 (by kernel_rfl) (by kernel_rfl) ?_
  unfold F_impl_ValidInterval
  refine Run.y (gv := vB) (fun _ => ?_) (fun _ => ?_)
  · refine Run.z [true, true, true, true, true] ?_
    refine Run.y (gv := vB) (fun _ => ?_) (fun _ => ?_)
    · refine Run.z [true, true, true] ?_
      exact Run.x 0
    · refine Run.z [false, false, false] ?_
      exact Run.x 0
  · refine Run.z [false, false, false, false, false, false, false, false, false] ?_
    exact Run.x 0

theorem ok_impl_IsWhole (a0 : Iv) : Fun Tryz.prog 58 [] #[vIv a0] (vB (F_impl_IsWhole a0)) [] := by
  refine Fun.ofH 400 E_ok mixed Tryz.func58 (by kernel_rfl) (by kernel_rfl) ?_
  unfold F_impl_IsWhole
  refine Run.q (e := vB) (gv := vB) (ok_impl_ValidInterval _) fun r1 _ => ?_
  exact Run.x 0

theorem ok_impl_NegI (a0 : Iv) : Fun Tryz.prog 108 [] #[vIv a0] (vIv (F_impl_NegI a0)) [] := by
  refine Fun.ofH 400 E_ok mixed Tryz.func108 (by kernel_rfl) (by kernel_rfl) ?_
  unfold F_impl_NegI
  refine Run.q (e := vB) (gv := vIv) (ok_impl_IsWhole _) fun r1 _ => ?_
  refine Run.y (gv := vIv) (fun _ => ?_) (fun _ => ?_)
  · refine Run.q (e := vIv) (gv := vIv) (ok_impl_Whole) fun r2 _ => ?_
    exact Run.x 0
  · exact Run.x 0

theorem ok_bits_Mul64 (a0 : U64) (a1 : U64) : Fun Tryz.prog 260 [] #[vU a0, vU a1] (vT_U_U (F_bits_Mul64 a0 a1)) [] := by
  refine Fun.ofH 400 E_ok mixed Tryz.func260 (by kernel_rfl) (by kernel_rfl) ?_
  unfold F_bits_Mul64
  refine Run.z [true, true, true, true, true] ?_
  exact Run.x 0

theorem ok_impl_WideMul (a0 : I64) (a1 : I64) : Fun Tryz.prog 205 [] #[vI a0, vI a1] (vWd (F_impl_WideMul a0 a1)) [] := by
  refine Fun.ofH 400 E_ok mixed Tryz.func205 (by kernel_rfl) (by kernel_rfl) ?_
  unfold F_impl_WideMul
  refine Run.q (e := vT_U_U) (gv := vWd) (ok_bits_Mul64 _ _) fun r1 _ => ?_
  refine Run.y (gv := vWd) (fun _ => ?_) (fun _ => ?_)
  · refine Run.y (gv := vWd) (fun _ => ?_) (fun _ => ?_)
    · exact Run.x 0
    · exact Run.x 0
  · refine Run.y (gv := vWd) (fun _ => ?_) (fun _ => ?_)
    · exact Run.x 0
    · exact Run.x 0

def ren : Shelf.Ren := ⟨fun n => if n = 129 then 299 else if n = 134 then 295 else 0, fun n => if n = 3 then 3 else if n = 4 then 4 else if n = 5 then 5 else if n = 9 then 9 else if n = 46 then 122 else if n = 53 then 115 else 0, fun n => n⟩
theorem lays134 : Lays.n134 Tryz.prog ren := { mixed := mixed, f129 := by kernel_rfl, f134 := by kernel_rfl, t3 := by kernel_rfl, a3 := fun w => by kernel_rfl, z3 := fun w => by kernel_rfl, v3 := fun w => by kernel_rfl, t4 := by kernel_rfl, a4 := fun w => by kernel_rfl, z4 := fun w => by kernel_rfl, v4 := fun w => by kernel_rfl, t5 := by kernel_rfl, a5 := fun w => by kernel_rfl, z5 := fun w => by kernel_rfl, v5 := fun w => by kernel_rfl, t9 := by kernel_rfl, a9 := fun w => by kernel_rfl, z9 := fun w => by kernel_rfl, v9 := fun w => by kernel_rfl, t46 := by kernel_rfl, a46 := fun w => by kernel_rfl, z46 := fun w => by kernel_rfl, v46 := fun w => by kernel_rfl, t53 := by kernel_rfl, a53 := fun w => by kernel_rfl, z53 := fun w => by kernel_rfl, v53 := fun w => by kernel_rfl }
theorem ok_bits_LeadingZeros64 (a0 : U64) : Fun Tryz.prog 295 [] #[vU a0] (vI (F_bits_LeadingZeros64 a0)) [] := by
  refine Fun.ofCalls Tryz.func295 (by kernel_rfl) (by kernel_rfl) (by kernel_rfl) (by kernel_rfl) fun w => ?_
  refine (Any.bits_LeadingZeros64 lays134 a0.val w a0.lo a0.hi).mono ?_
  rintro e w' ⟨rfl, rfl⟩
  have h := Lib.bitLen_le a0.val.toNat 64 (by have q0 := U64.lo a0; have q1 := U64.hi a0; omega) (by have q0 := U64.lo a0; have q1 := U64.hi a0; omega)
  have e : vI (F_bits_LeadingZeros64 a0) = .int .i64 (64 - (Lib.bitLen a0.val.toNat : Int)) := by
    show Value.int .i64 (w64 (64 - (Lib.bitLen a0.val.toNat : Int))).val = _
    rw [w64_val]
    congr 1
    omega
  exact ⟨by rw [e], rfl⟩

theorem ok_bits_Div64_L1 : ∀ (fu : Nat) (x_y : U64) (x_s : U64) (x_yn1 : U64) (x_yn0 : U64) (x_un0 : U64) (x_q1 : U64) (x_un21 : U64) (x_rhat : U64) (x_q0 : U64) (q0 : x_rhat.val < 4294967296) (q1 : 1 ≤ x_yn1.val ∧ x_yn1.val ≤ 4294967295) (hm : (4294967296 - x_rhat.val).toNat < fu) (t : Array Value) (ht : maskA t [0, 1, 3, 4, 5, 11, 12, 13, 19, 20, 21, 22, 23, 24, 25, 26, 27, 28, 29, 30, 31, 32, 33, 34, 35, 36, 37, 38, 39, 40, 41, 42, 43, 44, 45, 46, 47, 48, 49, 50, 51, 52, 53, 54, 55, 56, 57, 58, 59, 60, 61, 62, 63, 64, 65, 66, 67, 68, 69, 70, 71, 72, 73, 74, 75, 76, 77, 78, 79, 80, 81, 82, 83, 84, 85, 86, 87, 88, 89, 90, 91, 92, 93, 94, 95, 96, 97, 98, 99, 100, 101, 102, 103, 104, 105, 106, 107, 108, 109, 110, 111, 112, 113, 114, 115, 116, 117, 118, 119, 120, 121, 122, 123, 124, 125, 126, 127, 128, 129, 130, 131, 132, 133, 134] = #[undef, undef, .int .u64 x_y.val, undef, undef, undef, .int .u64 0, .int .u64 0, .int .u64 x_s.val, .int .u64 x_yn1.val, .int .u64 x_yn0.val, undef, undef, undef, .int .u64 x_un0.val, .int .u64 x_q1.val, .int .u64 x_rhat.val, .int .u64 x_un21.val, .int .u64 x_q0.val, undef, undef, undef, undef, undef, undef, undef, undef, undef, undef, undef, undef, undef, undef, undef, undef, undef, undef, undef, undef, undef, undef, undef, undef, undef, undef, undef, undef, undef, undef, undef, undef, undef, undef, undef, undef, undef, undef, undef, undef, undef, undef, undef, undef, undef, undef, undef, undef, undef, undef, undef, undef, undef, undef, undef, undef, undef, undef, undef, undef, undef, undef, undef, undef, undef, undef, undef, undef, undef, undef, undef, undef, undef, undef, undef, undef, undef, undef, undef, undef, undef, undef, undef, undef, undef, undef, undef, undef, undef, undef, undef, undef, undef, undef, undef, undef, undef, undef, undef, undef, undef, undef, undef, undef, undef, undef, undef, undef, undef, undef, undef, undef, undef, undef, undef, undef]), Cfg Tryz.prog 284 (loopAt Tryz.f284 1) t [] (RvH [] (vT_U_U (F_bits_Div64_L1 fu x_y x_s x_yn1 x_yn0 x_un0 x_q1 x_un21 x_rhat x_q0))) := by
  intro fu
  induction fu with
  | zero => intro x_y x_s x_yn1 x_yn0 x_un0 x_q1 x_un21 x_rhat x_q0 q0 q1 hm; exact absurd hm (Nat.not_lt_zero _)
  | succ fu ih =>
    intro x_y x_s x_yn1 x_yn0 x_un0 x_q1 x_un21 x_rhat x_q0 q0 q1 hm t ht
    refine Cfg.round E_ok mixed Tryz.func284 ht fun g => ?_
    unfold F_bits_Div64_L1
    refine Run.y (gv := vT_U_U) (fun h5 => ?_) (fun h5 => ?_)
    · refine Run.z [true, true, true, true, true, true, true, true, true] ?_
      refine Run.y (gv := vT_U_U) (fun h6 => ?_) (fun h6 => ?_)
      · refine Run.k (c := (decide (0 ≤ x_s.val))) (by kernel_rfl) (by first | (have n2 := norm_yn a2 (by have := a0.lo; omega); rw [← hr2] at n2; exact decide_eq_true (by omega)) | (have p1 := q1.1; exact decide_eq_true (by omega)) | exact decide_eq_true (U64.lo _) | exact decide_eq_true (by have := U64.lo a0; omega)) ?_
        exact Run.x 0
      · exact Run.l (by kernel_rfl) (by kernel_rfl) (by kernel_rfl) (by kernel_rfl) (ih x_y x_s x_yn1 x_yn0 x_un0 x_q1 x_un21 (wu64 (x_rhat.val + x_yn1.val)) (wu64 (x_q0.val - 1)) (by first | exact q1 | (have p1 := q1.1; have p2 := q1.2; have p3 := x_rhat.lo; simp only [wu64_val, decide_eq_true_eq, decide_eq_false_iff_not] at *; omega)) (by first | exact q1 | (have p1 := q1.1; have p2 := q1.2; have p3 := x_rhat.lo; simp only [wu64_val, decide_eq_true_eq, decide_eq_false_iff_not] at *; omega)) (by first | exact q1 | (have p1 := q1.1; have p2 := q1.2; have p3 := x_rhat.lo; simp only [wu64_val, decide_eq_true_eq, decide_eq_false_iff_not] at *; omega)))
    · refine Run.z [false, false, false, false, false, false, false, false] ?_
      refine Run.y (gv := vT_U_U) (fun h7 => ?_) (fun h7 => ?_)
      · refine Run.y (gv := vT_U_U) (fun h8 => ?_) (fun h8 => ?_)
        · refine Run.k (c := (decide (0 ≤ x_s.val))) (by kernel_rfl) (by first | (have n2 := norm_yn a2 (by have := a0.lo; omega); rw [← hr2] at n2; exact decide_eq_true (by omega)) | (have p1 := q1.1; exact decide_eq_true (by omega)) | exact decide_eq_true (U64.lo _) | exact decide_eq_true (by have := U64.lo a0; omega)) ?_
          exact Run.x 0
        · exact Run.l (by kernel_rfl) (by kernel_rfl) (by kernel_rfl) (by kernel_rfl) (ih x_y x_s x_yn1 x_yn0 x_un0 x_q1 x_un21 (wu64 (x_rhat.val + x_yn1.val)) (wu64 (x_q0.val - 1)) (by first | exact q1 | (have p1 := q1.1; have p2 := q1.2; have p3 := x_rhat.lo; simp only [wu64_val, decide_eq_true_eq, decide_eq_false_iff_not] at *; omega)) (by first | exact q1 | (have p1 := q1.1; have p2 := q1.2; have p3 := x_rhat.lo; simp only [wu64_val, decide_eq_true_eq, decide_eq_false_iff_not] at *; omega)) (by first | exact q1 | (have p1 := q1.1; have p2 := q1.2; have p3 := x_rhat.lo; simp only [wu64_val, decide_eq_true_eq, decide_eq_false_iff_not] at *; omega)))
      · refine Run.k (c := (decide (0 ≤ x_s.val))) (by kernel_rfl) (by first | (have n2 := norm_yn a2 (by have := a0.lo; omega); rw [← hr2] at n2; exact decide_eq_true (by omega)) | (have p1 := q1.1; exact decide_eq_true (by omega)) | exact decide_eq_true (U64.lo _) | exact decide_eq_true (by have := U64.lo a0; omega)) ?_
        exact Run.x 0

theorem ok_bits_Div64_L0 : ∀ (fu : Nat) (x_y : U64) (x_s : U64) (x_yn1 : U64) (x_yn0 : U64) (x_un32 : U64) (x_un1 : U64) (x_un0 : U64) (x_q1 : U64) (x_rhat : U64) (q0 : x_rhat.val < 4294967296) (q1 : 1 ≤ x_yn1.val ∧ x_yn1.val ≤ 4294967295) (hm : (4294967296 - x_rhat.val).toNat < fu) (t : Array Value) (ht : maskA t [0, 1, 3, 4, 5, 12, 17, 18, 19, 20, 21, 22, 23, 24, 25, 26, 27, 28, 29, 30, 31, 32, 33, 34, 35, 36, 37, 38, 39, 40, 41, 42, 43, 44, 45, 46, 47, 48, 49, 50, 51, 52, 53, 54, 55, 56, 57, 58, 59, 60, 61, 62, 63, 64, 65, 66, 67, 68, 69, 70, 71, 72, 73, 74, 75, 76, 77, 78, 79, 80, 81, 82, 83, 84, 85, 86, 87, 88, 89, 90, 91, 92, 93, 94, 95, 96, 97, 98, 99, 100, 101, 102, 103, 104, 105, 106, 107, 108, 109, 110, 111, 112, 113, 114, 115, 116, 117, 118, 119, 120, 121, 122, 123, 124, 125, 126, 127, 128, 129, 130, 131, 132, 133, 134] = #[undef, undef, .int .u64 x_y.val, undef, undef, undef, .int .u64 0, .int .u64 0, .int .u64 x_s.val, .int .u64 x_yn1.val, .int .u64 x_yn0.val, .int .u64 x_un32.val, undef, .int .u64 x_un1.val, .int .u64 x_un0.val, .int .u64 x_q1.val, .int .u64 x_rhat.val, undef, undef, undef, undef, undef, undef, undef, undef, undef, undef, undef, undef, undef, undef, undef, undef, undef, undef, undef, undef, undef, undef, undef, undef, undef, undef, undef, undef, undef, undef, undef, undef, undef, undef, undef, undef, undef, undef, undef, undef, undef, undef, undef, undef, undef, undef, undef, undef, undef, undef, undef, undef, undef, undef, undef, undef, undef, undef, undef, undef, undef, undef, undef, undef, undef, undef, undef, undef, undef, undef, undef, undef, undef, undef, undef, undef, undef, undef, undef, undef, undef, undef, undef, undef, undef, undef, undef, undef, undef, undef, undef, undef, undef, undef, undef, undef, undef, undef, undef, undef, undef, undef, undef, undef, undef, undef, undef, undef, undef, undef, undef, undef, undef, undef, undef, undef, undef, undef]), Cfg Tryz.prog 284 (loopAt Tryz.f284 0) t [] (RvH [] (vT_U_U (F_bits_Div64_L0 fu x_y x_s x_yn1 x_yn0 x_un32 x_un1 x_un0 x_q1 x_rhat))) := by
  intro fu
  induction fu with
  | zero => intro x_y x_s x_yn1 x_yn0 x_un32 x_un1 x_un0 x_q1 x_rhat q0 q1 hm; exact absurd hm (Nat.not_lt_zero _)
  | succ fu ih =>
    intro x_y x_s x_yn1 x_yn0 x_un32 x_un1 x_un0 x_q1 x_rhat q0 q1 hm t ht
    refine Cfg.round E_ok mixed Tryz.func284 ht fun g => ?_
    unfold F_bits_Div64_L0
    refine Run.y (gv := vT_U_U) (fun h3 => ?_) (fun h3 => ?_)
    · refine Run.z [true, true, true, true, true, true, true, true, true] ?_
      refine Run.y (gv := vT_U_U) (fun h4 => ?_) (fun h4 => ?_)
      · refine Run.k (c := (decide (x_yn1.val ≠ 0))) (by kernel_rfl) (by first | (have n2 := norm_yn a2 (by have := a0.lo; omega); rw [← hr2] at n2; exact decide_eq_true (by omega)) | (have p1 := q1.1; exact decide_eq_true (by omega)) | exact decide_eq_true (U64.lo _) | exact decide_eq_true (by have := U64.lo a0; omega)) ?_
        exact Run.l (by kernel_rfl) (by kernel_rfl) (by kernel_rfl) (by kernel_rfl) (ok_bits_Div64_L1 ((4294967296 - (wu64 ((wu64 ((wu64 ((wu64 (x_un32.val * 4294967296)).val + x_un1.val)).val - (wu64 ((wu64 (x_q1.val - 1)).val * x_y.val)).val)).val - (wu64 ((wu64 (Int.tdiv (wu64 ((wu64 ((wu64 (x_un32.val * 4294967296)).val + x_un1.val)).val - (wu64 ((wu64 (x_q1.val - 1)).val * x_y.val)).val)).val x_yn1.val)).val * x_yn1.val)).val)).val).toNat + 1) x_y x_s x_yn1 x_yn0 x_un0 (wu64 (x_q1.val - 1)) (wu64 ((wu64 ((wu64 (x_un32.val * 4294967296)).val + x_un1.val)).val - (wu64 ((wu64 (x_q1.val - 1)).val * x_y.val)).val)) (wu64 ((wu64 ((wu64 ((wu64 (x_un32.val * 4294967296)).val + x_un1.val)).val - (wu64 ((wu64 (x_q1.val - 1)).val * x_y.val)).val)).val - (wu64 ((wu64 (Int.tdiv (wu64 ((wu64 ((wu64 (x_un32.val * 4294967296)).val + x_un1.val)).val - (wu64 ((wu64 (x_q1.val - 1)).val * x_y.val)).val)).val x_yn1.val)).val * x_yn1.val)).val)) (wu64 (Int.tdiv (wu64 ((wu64 ((wu64 (x_un32.val * 4294967296)).val + x_un1.val)).val - (wu64 ((wu64 (x_q1.val - 1)).val * x_y.val)).val)).val x_yn1.val)) (by first | exact rem_lt _ _ q1.1 q1.2 | exact q1 | exact Nat.lt_succ_self _) (by first | exact rem_lt _ _ q1.1 q1.2 | exact q1 | exact Nat.lt_succ_self _) (by first | exact rem_lt _ _ q1.1 q1.2 | exact q1 | exact Nat.lt_succ_self _))
      · exact Run.l (by kernel_rfl) (by kernel_rfl) (by kernel_rfl) (by kernel_rfl) (ih x_y x_s x_yn1 x_yn0 x_un32 x_un1 x_un0 (wu64 (x_q1.val - 1)) (wu64 (x_rhat.val + x_yn1.val)) (by first | exact q1 | (have p1 := q1.1; have p2 := q1.2; have p3 := x_rhat.lo; simp only [wu64_val, decide_eq_true_eq, decide_eq_false_iff_not] at *; omega)) (by first | exact q1 | (have p1 := q1.1; have p2 := q1.2; have p3 := x_rhat.lo; simp only [wu64_val, decide_eq_true_eq, decide_eq_false_iff_not] at *; omega)) (by first | exact q1 | (have p1 := q1.1; have p2 := q1.2; have p3 := x_rhat.lo; simp only [wu64_val, decide_eq_true_eq, decide_eq_false_iff_not] at *; omega)))
    · refine Run.z [false, false, false, false, false, false, false, false] ?_
      refine Run.y (gv := vT_U_U) (fun h9 => ?_) (fun h9 => ?_)
      · refine Run.y (gv := vT_U_U) (fun h10 => ?_) (fun h10 => ?_)
        · refine Run.k (c := (decide (x_yn1.val ≠ 0))) (by kernel_rfl) (by first | (have n2 := norm_yn a2 (by have := a0.lo; omega); rw [← hr2] at n2; exact decide_eq_true (by omega)) | (have p1 := q1.1; exact decide_eq_true (by omega)) | exact decide_eq_true (U64.lo _) | exact decide_eq_true (by have := U64.lo a0; omega)) ?_
          exact Run.l (by kernel_rfl) (by kernel_rfl) (by kernel_rfl) (by kernel_rfl) (ok_bits_Div64_L1 ((4294967296 - (wu64 ((wu64 ((wu64 ((wu64 (x_un32.val * 4294967296)).val + x_un1.val)).val - (wu64 ((wu64 (x_q1.val - 1)).val * x_y.val)).val)).val - (wu64 ((wu64 (Int.tdiv (wu64 ((wu64 ((wu64 (x_un32.val * 4294967296)).val + x_un1.val)).val - (wu64 ((wu64 (x_q1.val - 1)).val * x_y.val)).val)).val x_yn1.val)).val * x_yn1.val)).val)).val).toNat + 1) x_y x_s x_yn1 x_yn0 x_un0 (wu64 (x_q1.val - 1)) (wu64 ((wu64 ((wu64 (x_un32.val * 4294967296)).val + x_un1.val)).val - (wu64 ((wu64 (x_q1.val - 1)).val * x_y.val)).val)) (wu64 ((wu64 ((wu64 ((wu64 (x_un32.val * 4294967296)).val + x_un1.val)).val - (wu64 ((wu64 (x_q1.val - 1)).val * x_y.val)).val)).val - (wu64 ((wu64 (Int.tdiv (wu64 ((wu64 ((wu64 (x_un32.val * 4294967296)).val + x_un1.val)).val - (wu64 ((wu64 (x_q1.val - 1)).val * x_y.val)).val)).val x_yn1.val)).val * x_yn1.val)).val)) (wu64 (Int.tdiv (wu64 ((wu64 ((wu64 (x_un32.val * 4294967296)).val + x_un1.val)).val - (wu64 ((wu64 (x_q1.val - 1)).val * x_y.val)).val)).val x_yn1.val)) (by first | exact rem_lt _ _ q1.1 q1.2 | exact q1 | exact Nat.lt_succ_self _) (by first | exact rem_lt _ _ q1.1 q1.2 | exact q1 | exact Nat.lt_succ_self _) (by first | exact rem_lt _ _ q1.1 q1.2 | exact q1 | exact Nat.lt_succ_self _))
        · exact Run.l (by kernel_rfl) (by kernel_rfl) (by kernel_rfl) (by kernel_rfl) (ih x_y x_s x_yn1 x_yn0 x_un32 x_un1 x_un0 (wu64 (x_q1.val - 1)) (wu64 (x_rhat.val + x_yn1.val)) (by first | exact q1 | (have p1 := q1.1; have p2 := q1.2; have p3 := x_rhat.lo; simp only [wu64_val, decide_eq_true_eq, decide_eq_false_iff_not] at *; omega)) (by first | exact q1 | (have p1 := q1.1; have p2 := q1.2; have p3 := x_rhat.lo; simp only [wu64_val, decide_eq_true_eq, decide_eq_false_iff_not] at *; omega)) (by first | exact q1 | (have p1 := q1.1; have p2 := q1.2; have p3 := x_rhat.lo; simp only [wu64_val, decide_eq_true_eq, decide_eq_false_iff_not] at *; omega)))
      · refine Run.k (c := (decide (x_yn1.val ≠ 0))) (by kernel_rfl) (by first | (have n2 := norm_yn a2 (by have := a0.lo; omega); rw [← hr2] at n2; exact decide_eq_true (by omega)) | (have p1 := q1.1; exact decide_eq_true (by omega)) | exact decide_eq_true (U64.lo _) | exact decide_eq_true (by have := U64.lo a0; omega)) ?_
        exact Run.l (by kernel_rfl) (by kernel_rfl) (by kernel_rfl) (by kernel_rfl) (ok_bits_Div64_L1 ((4294967296 - (wu64 ((wu64 ((wu64 ((wu64 (x_un32.val * 4294967296)).val + x_un1.val)).val - (wu64 (x_q1.val * x_y.val)).val)).val - (wu64 ((wu64 (Int.tdiv (wu64 ((wu64 ((wu64 (x_un32.val * 4294967296)).val + x_un1.val)).val - (wu64 (x_q1.val * x_y.val)).val)).val x_yn1.val)).val * x_yn1.val)).val)).val).toNat + 1) x_y x_s x_yn1 x_yn0 x_un0 x_q1 (wu64 ((wu64 ((wu64 (x_un32.val * 4294967296)).val + x_un1.val)).val - (wu64 (x_q1.val * x_y.val)).val)) (wu64 ((wu64 ((wu64 ((wu64 (x_un32.val * 4294967296)).val + x_un1.val)).val - (wu64 (x_q1.val * x_y.val)).val)).val - (wu64 ((wu64 (Int.tdiv (wu64 ((wu64 ((wu64 (x_un32.val * 4294967296)).val + x_un1.val)).val - (wu64 (x_q1.val * x_y.val)).val)).val x_yn1.val)).val * x_yn1.val)).val)) (wu64 (Int.tdiv (wu64 ((wu64 ((wu64 (x_un32.val * 4294967296)).val + x_un1.val)).val - (wu64 (x_q1.val * x_y.val)).val)).val x_yn1.val)) (by first | exact rem_lt _ _ q1.1 q1.2 | exact q1 | exact Nat.lt_succ_self _) (by first | exact rem_lt _ _ q1.1 q1.2 | exact q1 | exact Nat.lt_succ_self _) (by first | exact rem_lt _ _ q1.1 q1.2 | exact q1 | exact Nat.lt_succ_self _))

theorem ok_bits_Div64 (a0 : U64) (a1 : U64) (a2 : U64) (p0 : a0.val < a2.val) : Fun Tryz.prog 284 [] #[vU a0, vU a1, vU a2] (vT_U_U (F_bits_Div64 a0 a1 a2)) [] := by
  refine Fun.ofH 400 E_ok mixed Tryz.func284 (by kernel_rfl) (by kernel_rfl) ?_
  unfold F_bits_Div64
  refine Run.kn (c := (a2.val == 0)) (by kernel_rfl) (by have q := a0.lo; simp; omega) ?_
  refine Run.kn (c := (decide (a2.val ≤ a0.val))) (by kernel_rfl) (by simp; omega) ?_
  refine Run.y (gv := vT_U_U) (fun h1 => ?_) (fun h1 => ?_)
  · refine Run.k (c := (decide (a2.val ≠ 0))) (by kernel_rfl) (by first | (have n2 := norm_yn a2 (by have := a0.lo; omega); rw [← hr2] at n2; exact decide_eq_true (by omega)) | (have p1 := q1.1; exact decide_eq_true (by omega)) | exact decide_eq_true (U64.lo _) | exact decide_eq_true (by have := U64.lo a0; omega)) ?_
    refine Run.k (c := (decide (a2.val ≠ 0))) (by kernel_rfl) (by first | (have n2 := norm_yn a2 (by have := a0.lo; omega); rw [← hr2] at n2; exact decide_eq_true (by omega)) | (have p1 := q1.1; exact decide_eq_true (by omega)) | exact decide_eq_true (U64.lo _) | exact decide_eq_true (by have := U64.lo a0; omega)) ?_
    exact Run.x 0
  · refine Run.q (e := vI) (gv := vT_U_U) (ok_bits_LeadingZeros64 _) fun r2 hr2 => ?_
    refine Run.k (c := (decide (0 ≤ (wu64 r2.val).val))) (by kernel_rfl) (by first | (have n2 := norm_yn a2 (by have := a0.lo; omega); rw [← hr2] at n2; exact decide_eq_true (by omega)) | (have p1 := q1.1; exact decide_eq_true (by omega)) | exact decide_eq_true (U64.lo _) | exact decide_eq_true (by have := U64.lo a0; omega)) ?_
    refine Run.z [true] ?_
    refine Run.k (c := (decide (0 ≤ (wu64 r2.val).val))) (by kernel_rfl) (by first | (have n2 := norm_yn a2 (by have := a0.lo; omega); rw [← hr2] at n2; exact decide_eq_true (by omega)) | (have p1 := q1.1; exact decide_eq_true (by omega)) | exact decide_eq_true (U64.lo _) | exact decide_eq_true (by have := U64.lo a0; omega)) ?_
    refine Run.k (c := (decide (0 ≤ (wu64 (64 - (wu64 r2.val).val)).val))) (by kernel_rfl) (by first | (have n2 := norm_yn a2 (by have := a0.lo; omega); rw [← hr2] at n2; exact decide_eq_true (by omega)) | (have p1 := q1.1; exact decide_eq_true (by omega)) | exact decide_eq_true (U64.lo _) | exact decide_eq_true (by have := U64.lo a0; omega)) ?_
    refine Run.k (c := (decide (0 ≤ (wu64 r2.val).val))) (by kernel_rfl) (by first | (have n2 := norm_yn a2 (by have := a0.lo; omega); rw [← hr2] at n2; exact decide_eq_true (by omega)) | (have p1 := q1.1; exact decide_eq_true (by omega)) | exact decide_eq_true (U64.lo _) | exact decide_eq_true (by have := U64.lo a0; omega)) ?_
    refine Run.z [true] ?_
    refine Run.k (c := (decide ((ishr (ishl .u64 a2.val (wu64 r2.val).val) 32).val ≠ 0))) (by kernel_rfl) (by first | (have n2 := norm_yn a2 (by have := a0.lo; omega); rw [← hr2] at n2; exact decide_eq_true (by omega)) | (have p1 := q1.1; exact decide_eq_true (by omega)) | exact decide_eq_true (U64.lo _) | exact decide_eq_true (by have := U64.lo a0; omega)) ?_
    exact Run.l (by kernel_rfl) (by kernel_rfl) (by kernel_rfl) (by kernel_rfl) (ok_bits_Div64_L0 ((4294967296 - (wu64 ((ior .u64 (ishl .u64 a0.val (wu64 r2.val).val).val (ishr a1 (wu64 (64 - (wu64 r2.val).val)).val).val).val - (wu64 ((wu64 (Int.tdiv (ior .u64 (ishl .u64 a0.val (wu64 r2.val).val).val (ishr a1 (wu64 (64 - (wu64 r2.val).val)).val).val).val (ishr (ishl .u64 a2.val (wu64 r2.val).val) 32).val)).val * (ishr (ishl .u64 a2.val (wu64 r2.val).val) 32).val)).val)).val).toNat + 1) (ishl .u64 a2.val (wu64 r2.val).val) (wu64 r2.val) (ishr (ishl .u64 a2.val (wu64 r2.val).val) 32) (iand .u64 (ishl .u64 a2.val (wu64 r2.val).val).val 4294967295) (ior .u64 (ishl .u64 a0.val (wu64 r2.val).val).val (ishr a1 (wu64 (64 - (wu64 r2.val).val)).val).val) (ishr (ishl .u64 a1.val (wu64 r2.val).val) 32) (iand .u64 (ishl .u64 a1.val (wu64 r2.val).val).val 4294967295) (wu64 (Int.tdiv (ior .u64 (ishl .u64 a0.val (wu64 r2.val).val).val (ishr a1 (wu64 (64 - (wu64 r2.val).val)).val).val).val (ishr (ishl .u64 a2.val (wu64 r2.val).val) 32).val)) (wu64 ((ior .u64 (ishl .u64 a0.val (wu64 r2.val).val).val (ishr a1 (wu64 (64 - (wu64 r2.val).val)).val).val).val - (wu64 ((wu64 (Int.tdiv (ior .u64 (ishl .u64 a0.val (wu64 r2.val).val).val (ishr a1 (wu64 (64 - (wu64 r2.val).val)).val).val).val (ishr (ishl .u64 a2.val (wu64 r2.val).val) 32).val)).val * (ishr (ishl .u64 a2.val (wu64 r2.val).val) 32).val)).val)) (by have n2 := norm_yn a2 (by have := a0.lo; omega); rw [← hr2] at n2; first | exact rem_lt _ _ n2.1 n2.2 | exact n2 | exact Nat.lt_succ_self _) (by have n2 := norm_yn a2 (by have := a0.lo; omega); rw [← hr2] at n2; first | exact rem_lt _ _ n2.1 n2.2 | exact n2 | exact Nat.lt_succ_self _) (by have n2 := norm_yn a2 (by have := a0.lo; omega); rw [← hr2] at n2; first | exact rem_lt _ _ n2.1 n2.2 | exact n2 | exact Nat.lt_succ_self _))

theorem ok_impl_divided (a0 : U64) (a1 : U64) (a2 : U64) (p0 : a2.val ≠ 0) : Fun Tryz.prog 257 [] #[vU a0, vU a1, vU a2] (vT_U_U_U (F_impl_divided a0 a1 a2)) [] := by
  refine Fun.ofH 400 E_ok mixed Tryz.func257 (by kernel_rfl) (by kernel_rfl) ?_
  unfold F_impl_divided
  refine Run.k (c := (decide (a2.val ≠ 0))) (by kernel_rfl) (by first | exact decide_eq_true p0 | exact imod_lt _ _ p0) ?_
  refine Run.k (c := (decide (a2.val ≠ 0))) (by kernel_rfl) (by first | exact decide_eq_true p0 | exact imod_lt _ _ p0) ?_
  refine Run.q (e := vT_U_U) (gv := vT_U_U_U) (ok_bits_Div64 _ _ _ (by first | exact decide_eq_true p0 | exact imod_lt _ _ p0)) fun r1 hr1 => ?_
  exact Run.x 0

theorem ok_impl_Wide_negative (a0 : Wd) : Fun Tryz.prog 258 [] #[vWd a0] (vWd (F_impl_Wide_negative a0)) [] := by
  refine Fun.ofH 400 E_ok mixed Tryz.func258 (by kernel_rfl) (by kernel_rfl) ?_
  unfold F_impl_Wide_negative
  refine Run.k (c := (decide (0 ≤ (0 : Int)) && (decide (0 ≤ (a0.lo.val : Int)) && (decide ((a0.lo.val : Int) ≤ 18446744073709551615) && (decide (0 ≤ (0 : Int)) && decide ((0 : Int) ≤ 1)))))) (by kernel_rfl) (by simp only [Bool.and_eq_true, decide_eq_true_eq]; exact ⟨U64.lo (cu64 0), U64.lo a0.lo, U64.hi a0.lo, U64.lo (cu64 0), (by decide)⟩) ?_
  refine Run.k (c := (decide (0 ≤ (0 : Int)) && (decide (0 ≤ ((wu64 a0.hi.val).val : Int)) && (decide (((wu64 a0.hi.val).val : Int) ≤ 18446744073709551615) && (decide (0 ≤ ((sbb_hi (cu64 0) a0.lo (cu64 0)).val : Int)) && decide (((sbb_hi (cu64 0) a0.lo (cu64 0)).val : Int) ≤ 1)))))) (by kernel_rfl) (by simp only [Bool.and_eq_true, decide_eq_true_eq]; exact ⟨U64.lo (cu64 0), U64.lo (wu64 a0.hi.val), U64.hi (wu64 a0.hi.val), U64.lo (sbb_hi (cu64 0) a0.lo (cu64 0)), (sbb_hi_le _ _ _)⟩) ?_
  exact Run.x 0

theorem ok_impl_WideDiv (a0 : Wd) (a1 : I64) : Fun Tryz.prog 204 [] #[vWd a0, vI a1] (vT_Wd_I_B (F_impl_WideDiv a0 a1)) [] := by
  refine Fun.ofH 400 E_ok mixed Tryz.func204 (by kernel_rfl) (by kernel_rfl) ?_
  unfold F_impl_WideDiv
  refine Run.y (gv := vT_Wd_I_B) (fun h1 => ?_) (fun h1 => ?_)
  · exact Run.x 0
  · refine Run.y (gv := vT_Wd_I_B) (fun h2 => ?_) (fun h2 => ?_)
    · refine Run.q (e := vT_U_U_U) (gv := vT_Wd_I_B) (ok_impl_divided _ _ _ (by have q := a1.hi; simp only [wu64_val, decide_eq_true_eq, decide_eq_false_iff_not] at *; omega)) fun r3 hr3 => ?_
      exact Run.x 0
    · refine Run.q (e := vWd) (gv := vT_Wd_I_B) (ok_impl_Wide_negative _) fun r4 hr4 => ?_
      refine Run.q (e := vT_U_U_U) (gv := vT_Wd_I_B) (ok_impl_divided _ _ _ (by have q := a1.hi; simp only [wu64_val, decide_eq_true_eq, decide_eq_false_iff_not] at *; omega)) fun r5 hr5 => ?_
      refine Run.y (gv := vT_Wd_I_B) (fun h6 => ?_) (fun h6 => ?_)
      · refine Run.q (e := vWd) (gv := vT_Wd_I_B) (ok_impl_Wide_negative _) fun r7 hr7 => ?_
        exact Run.x 0
      · refine Run.k (c := (decide (0 ≤ (r5.2.1.val : Int)) && (decide (0 ≤ (1 : Int)) && (decide (0 ≤ (0 : Int)) && decide ((0 : Int) ≤ 1))))) (by kernel_rfl) (by simp only [Bool.and_eq_true, decide_eq_true_eq]; exact ⟨U64.lo r5.2.1, U64.lo (cu64 1), U64.lo (cu64 0), (by decide)⟩) ?_
        refine Run.q (e := vWd) (gv := vT_Wd_I_B) (ok_impl_Wide_negative _) fun r8 hr8 => ?_
        exact Run.x 0

theorem ok_impl_WideOf (a0 : I64) : Fun Tryz.prog 261 [] #[vI a0] (vWd (F_impl_WideOf a0)) [] := by
  refine Fun.ofH 400 E_ok mixed Tryz.func261 (by kernel_rfl) (by kernel_rfl) ?_
  unfold F_impl_WideOf
  refine Run.z [true] ?_
  exact Run.x 0

end Go.Proofs.YtgofhiehdpggkaaGreat.Abs
