/- The program's functions are these; part 1 (written by w.py). -/
import Derived.Test.YtebaobmmnkebaaaGreatK0
import Derived.Test.YtebaobmmnkebaaaGreatF3
set_option linter.unusedVariables false
set_option linter.unusedSimpArgs false
namespace Go.Proofs.YtebaobmmnkebaaaGreat.Abs
open Go Go.RowKit

theorem ok_spec_l06Over_L0 : ∀ (fu : Nat) (a1 : I64) (a0 : Iv) (x_k : I64) (y_2 : Iv) (hm : (2000 - x_k.val).toNat < fu) (t : Array Value) (ht : maskA t [0, 3, 7, 8, 9, 10, 11, 12, 13, 14, 15, 16, 17, 18, 19, 20, 21, 22, 23, 24, 25, 26, 27, 28, 29, 30, 31, 32, 33, 34, 35, 36, 37, 38, 39, 40, 41, 42, 43, 44, 45, 46, 47, 48, 49, 50, 51] = #[undef, .int .i64 a1.val, .pointer (some ⟨0, 0, none⟩), undef, .pointer (some ⟨1, 0, none⟩), .pointer (some ⟨2, 0, none⟩), .int .i64 x_k.val, undef, undef, undef, undef, undef, undef, undef, undef, undef, undef, undef, undef, undef, undef, undef, undef, undef, undef, undef, undef, undef, undef, undef, undef, undef, undef, undef, undef, undef, undef, undef, undef, undef, undef, undef, undef, undef, undef, undef, undef, undef, undef, undef, undef, undef]), Cfg Tryz.prog 94 (loopAt Tryz.f94 0) t [(#[.int .i64 a0.lo.val, .int .i64 a0.hi.val], 27), (#[.int .i64 0, .int .i64 0], 27), (#[.int .i64 y_2.lo.val, .int .i64 y_2.hi.val], 27)] (RvH [] (vIv (F_spec_l06Over_L0 fu a1 a0 x_k y_2))) := by
  intro fu
  induction fu with
  | zero => intro a1 a0 x_k y_2 hm; exact absurd hm (Nat.not_lt_zero _)
  | succ fu ih =>
    intro a1 a0 x_k y_2 hm t ht
    refine Cfg.round E_ok mixed Tryz.func94 ht fun g => ?_
    unfold F_spec_l06Over_L0
    refine Run.bk (e := vI) (gv := vIv) (by kernel_rfl) (by kernel_rfl) (ok_spec_QuarterOf _) (fun _ => rfl) fun r8 hr8 => ?_
    refine Run.jk (gv := vIv) (by kernel_rfl) (fun h9 => ?_) (fun h9 => ?_)
    · refine Run.bk (e := vIv) (gv := vIv) (by kernel_rfl) (by kernel_rfl) (ok_spec_TurnI _) (fun _ => rfl) fun r10 hr10 => ?_
      refine Run.bk (e := vB) (gv := vIv) (by kernel_rfl) (by kernel_rfl) (ok_spec_OverlapI _ _) (fun _ => rfl) fun r11 hr11 => ?_
      refine Run.jk (gv := vIv) (by kernel_rfl) (fun h12 => ?_) (fun h12 => ?_)
      · exact Run.l (by kernel_rfl) (by kernel_rfl) (by kernel_rfl) (by kernel_rfl) (ih a1 a0 (w64 (x_k.val + 1)) y_2 (by have q1 := x_k.lo; first | exact Nat.lt_succ_self _ | (have q2 := spec_quarter_le a0.hi; have q3 := spec_quarter_ge a0.hi; simp only [w64_val, decide_eq_true_eq, decide_eq_false_iff_not, *] at *; omega)))
      · refine Run.jk (gv := vIv) (by kernel_rfl) (fun h13 => ?_) (fun h13 => ?_)
        · refine Run.bk (e := vIv) (gv := vIv) (by kernel_rfl) (by kernel_rfl) (ok_spec_Integer _) (fun _ => rfl) fun r14 hr14 => ?_
          refine Run.bk (e := vIv) (gv := vIv) (by kernel_rfl) (by kernel_rfl) (ok_spec_HullI _ _) (fun _ => rfl) fun r15 hr15 => ?_
          exact Run.l (by kernel_rfl) (by kernel_rfl) (by kernel_rfl) (by kernel_rfl) (ih a1 a0 (w64 (x_k.val + 1)) r15 (by have q1 := x_k.lo; first | exact Nat.lt_succ_self _ | (have q2 := spec_quarter_le a0.hi; have q3 := spec_quarter_ge a0.hi; simp only [w64_val, decide_eq_true_eq, decide_eq_false_iff_not, *] at *; omega)))
        · refine Run.jk (gv := vIv) (by kernel_rfl) (fun h16 => ?_) (fun h16 => ?_)
          · refine Run.bk (e := vIv) (gv := vIv) (by kernel_rfl) (by kernel_rfl) (ok_spec_Integer _) (fun _ => rfl) fun r17 hr17 => ?_
            refine Run.bk (e := vIv) (gv := vIv) (by kernel_rfl) (by kernel_rfl) (ok_spec_HullI _ _) (fun _ => rfl) fun r18 hr18 => ?_
            exact Run.l (by kernel_rfl) (by kernel_rfl) (by kernel_rfl) (by kernel_rfl) (ih a1 a0 (w64 (x_k.val + 1)) r18 (by have q1 := x_k.lo; first | exact Nat.lt_succ_self _ | (have q2 := spec_quarter_le a0.hi; have q3 := spec_quarter_ge a0.hi; simp only [w64_val, decide_eq_true_eq, decide_eq_false_iff_not, *] at *; omega)))
          · exact Run.l (by kernel_rfl) (by kernel_rfl) (by kernel_rfl) (by kernel_rfl) (ih a1 a0 (w64 (x_k.val + 1)) y_2 (by have q1 := x_k.lo; first | exact Nat.lt_succ_self _ | (have q2 := spec_quarter_le a0.hi; have q3 := spec_quarter_ge a0.hi; simp only [w64_val, decide_eq_true_eq, decide_eq_false_iff_not, *] at *; omega)))
    · exact Run.rh (k := 0) (by kernel_rfl) (by kernel_rfl)

theorem ok_spec_l06Over (a0 : Iv) (a1 : I64) : Fun Tryz.prog 94 [] #[vIv a0, vI a1] (vIv (F_spec_l06Over a0 a1)) [] := by
  refine Fun.ofH 400 E_ok mixed Tryz.func94 (by kernel_rfl) (by kernel_rfl) ?_
  unfold F_spec_l06Over
  refine Run.bk (e := vB) (gv := vIv) (by kernel_rfl) (by kernel_rfl) (ok_spec_l06Fits _) (fun _ => rfl) fun r1 hr1 => ?_
  refine Run.jk (gv := vIv) (by kernel_rfl) (fun h2 => ?_) (fun h2 => ?_)
  · refine Run.bk (e := vIv) (gv := vIv) (by kernel_rfl) (by kernel_rfl) (ok_spec_l06Ring) (fun _ => rfl) fun r3 hr3 => ?_
    exact Run.rh (k := 0) (by kernel_rfl) (by kernel_rfl)
  · refine Run.bk (e := vIv) (gv := vIv) (by kernel_rfl) (by kernel_rfl) (ok_spec_l06At _ _) (fun _ => rfl) fun r4 hr4 => ?_
    refine Run.bk (e := vIv) (gv := vIv) (by kernel_rfl) (by kernel_rfl) (ok_spec_l06At _ _) (fun _ => rfl) fun r5 hr5 => ?_
    refine Run.bk (e := vIv) (gv := vIv) (by kernel_rfl) (by kernel_rfl) (ok_spec_HullI _ _) (fun _ => rfl) fun r6 hr6 => ?_
    refine Run.bk (e := vI) (gv := vIv) (by kernel_rfl) (by kernel_rfl) (ok_spec_QuarterOf _) (fun _ => rfl) fun r7 hr7 => ?_
    exact Run.l (by kernel_rfl) (by kernel_rfl) (by kernel_rfl) (by kernel_rfl) (ok_spec_l06Over_L0 ((2000 - (w64 (r7.val - 1)).val).toNat + 1) a1 a0 (w64 (r7.val - 1)) r6 (by exact Nat.lt_succ_self _))

theorem ok_spec_SinI (a0 : Iv) : Fun Tryz.prog 33 [] #[vIv a0] (vIv (F_spec_SinI a0)) [] := by
  refine Fun.ofH 400 E_ok mixed Tryz.func33 (by kernel_rfl) (by kernel_rfl) ?_
  unfold F_spec_SinI
  refine Run.bH (e := vIv) (gv := vIv) (by kernel_rfl) (by kernel_rfl) (ok_spec_l06Over _ _) (fun _ => rfl) fun r1 => ?_
  exact Run.rh (k := 0) (by kernel_rfl) (by kernel_rfl)

theorem ok_spec_HalfI (a0 : Iv) : Fun Tryz.prog 118 [] #[vIv a0] (vIv (F_spec_HalfI a0)) [] := by
  refine Fun.ofH 400 E_ok mixed Tryz.func118 (by kernel_rfl) (by kernel_rfl) ?_
  unfold F_spec_HalfI
  refine Run.bH (e := vB) (gv := vIv) (by kernel_rfl) (by kernel_rfl) (ok_spec_l04Ok _) (fun _ => rfl) fun r1 => ?_
  refine Run.jH (gv := vIv) (by kernel_rfl) (?_) (?_)
  · refine Run.bH (e := vIv) (gv := vIv) (by kernel_rfl) (by kernel_rfl) (ok_spec_l04Whole) (fun _ => rfl) fun r2 => ?_
    exact Run.rh (k := 0) (by kernel_rfl) (by kernel_rfl)
  · refine Run.p [true, true] (by kernel_rfl) ?_
    refine Run.bH (e := vIv) (gv := vIv) (by kernel_rfl) (by kernel_rfl) (ok_spec_l04Make _ _) (fun _ => rfl) fun r3 => ?_
    exact Run.rh (k := 0) (by kernel_rfl) (by kernel_rfl)

theorem ok_spec_CosI (a0 : Iv) : Fun Tryz.prog 35 [] #[vIv a0] (vIv (F_spec_CosI a0)) [] := by
  refine Fun.ofH 400 E_ok mixed Tryz.func35 (by kernel_rfl) (by kernel_rfl) ?_
  unfold F_spec_CosI
  refine Run.bH (e := vIv) (gv := vIv) (by kernel_rfl) (by kernel_rfl) (ok_spec_l06Over _ _) (fun _ => rfl) fun r1 => ?_
  exact Run.rh (k := 0) (by kernel_rfl) (by kernel_rfl)

theorem ok_spec_l08At (a0 : I64) : Fun Tryz.prog 253 [] #[vI a0] (vIv (F_spec_l08At a0)) [] := by
  refine Fun.ofH 400 E_ok mixed Tryz.func253 (by kernel_rfl) (by kernel_rfl) ?_
  unfold F_spec_l08At
  refine Run.bH (e := vIv) (gv := vIv) (by kernel_rfl) (by kernel_rfl) (ok_spec_l04Make _ _) (fun _ => rfl) fun r1 => ?_
  exact Run.rh (k := 0) (by kernel_rfl) (by kernel_rfl)

theorem ok_spec_l08One : Fun Tryz.prog 241 [] #[] (vIv (F_spec_l08One)) [] := by
  refine Fun.ofH 400 E_ok mixed Tryz.func241 (by kernel_rfl) (by kernel_rfl) ?_
  unfold F_spec_l08One
  refine Run.bH (e := vIv) (gv := vIv) (by kernel_rfl) (by kernel_rfl) (ok_spec_l08At _) (fun _ => rfl) fun r1 => ?_
  exact Run.rh (k := 0) (by kernel_rfl) (by kernel_rfl)

theorem ok_spec_l03Floor (a0 : I64) (a1 : I64) : Fun Tryz.prog 270 [] #[vI a0, vI a1] (vT_I_B (F_spec_l03Floor a0 a1)) [] := by
  refine Fun.ofH 400 E_ok mixed Tryz.func270 (by kernel_rfl) (by kernel_rfl) ?_
  unfold F_spec_l03Floor
  refine Run.jH (gv := vT_I_B) (by kernel_rfl) (?_) (?_)
  · exact Run.rh (k := 0) (by kernel_rfl) (by kernel_rfl)
  · refine Run.bH (e := vT_I_B) (gv := vT_I_B) (by kernel_rfl) (by kernel_rfl) (ok_spec_MulDivFloor _ _ _) (fun _ => rfl) fun r1 => ?_
    refine Run.bH (e := vT_I_B) (gv := vT_I_B) (by kernel_rfl) (by kernel_rfl) (ok_spec_l03End _ _) (fun _ => rfl) fun r2 => ?_
    exact Run.rh (k := 0) (by kernel_rfl) (by kernel_rfl)

theorem ok_spec_l03Ceil (a0 : I64) (a1 : I64) : Fun Tryz.prog 271 [] #[vI a0, vI a1] (vT_I_B (F_spec_l03Ceil a0 a1)) [] := by
  refine Fun.ofH 400 E_ok mixed Tryz.func271 (by kernel_rfl) (by kernel_rfl) ?_
  unfold F_spec_l03Ceil
  refine Run.jH (gv := vT_I_B) (by kernel_rfl) (?_) (?_)
  · exact Run.rh (k := 0) (by kernel_rfl) (by kernel_rfl)
  · refine Run.bH (e := vT_I_B) (gv := vT_I_B) (by kernel_rfl) (by kernel_rfl) (ok_spec_MulDivFloor _ _ _) (fun _ => rfl) fun r1 => ?_
    refine Run.jH (gv := vT_I_B) (by kernel_rfl) (?_) (?_)
    · exact Run.rh (k := 0) (by kernel_rfl) (by kernel_rfl)
    · refine Run.jH (gv := vT_I_B) (by kernel_rfl) (?_) (?_)
      · refine Run.bH (e := vT_I_B) (gv := vT_I_B) (by kernel_rfl) (by kernel_rfl) (ok_spec_l03End _ _) (fun _ => rfl) fun r2 => ?_
        exact Run.rh (k := 0) (by kernel_rfl) (by kernel_rfl)
      · refine Run.bH (e := vT_I_B) (gv := vT_I_B) (by kernel_rfl) (by kernel_rfl) (ok_spec_l03End _ _) (fun _ => rfl) fun r3 => ?_
        exact Run.rh (k := 0) (by kernel_rfl) (by kernel_rfl)

theorem ok_spec_Quotient (a0 : I64) (a1 : I64) : Fun Tryz.prog 242 [] #[vI a0, vI a1] (vIv (F_spec_Quotient a0 a1)) [] := by
  refine Fun.ofH 400 E_ok mixed Tryz.func242 (by kernel_rfl) (by kernel_rfl) ?_
  unfold F_spec_Quotient
  refine Run.jH (gv := vIv) (by kernel_rfl) (?_) (?_)
  · refine Run.jH (gv := vIv) (by kernel_rfl) (?_) (?_)
    · refine Run.p [true, true, true] (by kernel_rfl) ?_
      refine Run.bH (e := vIv) (gv := vIv) (by kernel_rfl) (by kernel_rfl) (ok_spec_l04Whole) (fun _ => rfl) fun r1 => ?_
      exact Run.rh (k := 0) (by kernel_rfl) (by kernel_rfl)
    · refine Run.p [false, false] (by kernel_rfl) ?_
      refine Run.jH (gv := vIv) (by kernel_rfl) (?_) (?_)
      · refine Run.bH (e := vIv) (gv := vIv) (by kernel_rfl) (by kernel_rfl) (ok_spec_l04Whole) (fun _ => rfl) fun r2 => ?_
        exact Run.rh (k := 0) (by kernel_rfl) (by kernel_rfl)
      · refine Run.bH (e := vT_I_B) (gv := vIv) (by kernel_rfl) (by kernel_rfl) (ok_spec_l03Floor _ _) (fun _ => rfl) fun r3 => ?_
        refine Run.bH (e := vT_I_B) (gv := vIv) (by kernel_rfl) (by kernel_rfl) (ok_spec_l03Ceil _ _) (fun _ => rfl) fun r4 => ?_
        refine Run.jH (gv := vIv) (by kernel_rfl) (?_) (?_)
        · refine Run.p [true, true, true] (by kernel_rfl) ?_
          refine Run.bH (e := vIv) (gv := vIv) (by kernel_rfl) (by kernel_rfl) (ok_spec_l04Whole) (fun _ => rfl) fun r5 => ?_
          exact Run.rh (k := 0) (by kernel_rfl) (by kernel_rfl)
        · refine Run.p [false, false] (by kernel_rfl) ?_
          refine Run.jH (gv := vIv) (by kernel_rfl) (?_) (?_)
          · refine Run.bH (e := vIv) (gv := vIv) (by kernel_rfl) (by kernel_rfl) (ok_spec_l04Whole) (fun _ => rfl) fun r6 => ?_
            exact Run.rh (k := 0) (by kernel_rfl) (by kernel_rfl)
          · refine Run.bH (e := vIv) (gv := vIv) (by kernel_rfl) (by kernel_rfl) (ok_spec_l04Make _ _) (fun _ => rfl) fun r7 => ?_
            exact Run.rh (k := 0) (by kernel_rfl) (by kernel_rfl)
  · refine Run.bH (e := vT_I_B) (gv := vIv) (by kernel_rfl) (by kernel_rfl) (ok_spec_l03Floor _ _) (fun _ => rfl) fun r8 => ?_
    refine Run.bH (e := vT_I_B) (gv := vIv) (by kernel_rfl) (by kernel_rfl) (ok_spec_l03Ceil _ _) (fun _ => rfl) fun r9 => ?_
    refine Run.jH (gv := vIv) (by kernel_rfl) (?_) (?_)
    · refine Run.p [true, true, true] (by kernel_rfl) ?_
      refine Run.bH (e := vIv) (gv := vIv) (by kernel_rfl) (by kernel_rfl) (ok_spec_l04Whole) (fun _ => rfl) fun r10 => ?_
      exact Run.rh (k := 0) (by kernel_rfl) (by kernel_rfl)
    · refine Run.p [false, false] (by kernel_rfl) ?_
      refine Run.jH (gv := vIv) (by kernel_rfl) (?_) (?_)
      · refine Run.bH (e := vIv) (gv := vIv) (by kernel_rfl) (by kernel_rfl) (ok_spec_l04Whole) (fun _ => rfl) fun r11 => ?_
        exact Run.rh (k := 0) (by kernel_rfl) (by kernel_rfl)
      · refine Run.bH (e := vIv) (gv := vIv) (by kernel_rfl) (by kernel_rfl) (ok_spec_l04Make _ _) (fun _ => rfl) fun r12 => ?_
        exact Run.rh (k := 0) (by kernel_rfl) (by kernel_rfl)

theorem ok_spec_l08Widen (a0 : Iv) (a1 : I64) : Fun Tryz.prog 243 [] #[vIv a0, vI a1] (vIv (F_spec_l08Widen a0 a1)) [] := by
  refine Fun.ofH 400 E_ok mixed Tryz.func243 (by kernel_rfl) (by kernel_rfl) ?_
  unfold F_spec_l08Widen
  refine Run.bH (e := vB) (gv := vIv) (by kernel_rfl) (by kernel_rfl) (ok_spec_l04Ok _) (fun _ => rfl) fun r1 => ?_
  refine Run.jH (gv := vIv) (by kernel_rfl) (?_) (?_)
  · refine Run.bH (e := vIv) (gv := vIv) (by kernel_rfl) (by kernel_rfl) (ok_spec_l04Whole) (fun _ => rfl) fun r2 => ?_
    exact Run.rh (k := 0) (by kernel_rfl) (by kernel_rfl)
  · refine Run.bH (e := vIv) (gv := vIv) (by kernel_rfl) (by kernel_rfl) (ok_spec_l04Make _ _) (fun _ => rfl) fun r3 => ?_
    exact Run.rh (k := 0) (by kernel_rfl) (by kernel_rfl)

theorem ok_spec_LogTwoI_r : ∀ (fu : Nat) (a0 : I64) (hm : min (0 - a0.val).toNat 1 < fu), Fun Tryz.prog 244 [] #[vI a0] (vIv (F_spec_LogTwoI_r fu a0)) [] := by
  intro fu
  induction fu with
  | zero => intro a0 hm; exact absurd hm (Nat.not_lt_zero _)
  | succ fu ih =>
    intro a0 hm
    refine Fun.ofH 400 E_ok mixed Tryz.func244 (by kernel_rfl) (by kernel_rfl) ?_
    unfold F_spec_LogTwoI_r
    unfold F_spec_LogTwoI_b
    refine Run.bk (e := vB) (gv := vIv) (by kernel_rfl) (by kernel_rfl) (ok_spec_l00In _ _ _) (fun _ => rfl) fun r1 hr1 => ?_
    refine Run.jk (gv := vIv) (by kernel_rfl) (fun h2 => ?_) (fun h2 => ?_)
    · refine Run.bk (e := vIv) (gv := vIv) (by kernel_rfl) (by kernel_rfl) (ok_spec_l04Whole) (fun _ => rfl) fun r3 hr3 => ?_
      exact Run.rh (k := 0) (by kernel_rfl) (by kernel_rfl)
    · refine Run.jk (gv := vIv) (by kernel_rfl) (fun h4 => ?_) (fun h4 => ?_)
      · refine Run.bk (e := vIv) (gv := vIv) (by kernel_rfl) (by kernel_rfl) (ih (w64 (0 - a0.val)) (by rw [hr1] at h2; simp [F_spec_l00In, c64_val] at h2; simp only [w64_val, decide_eq_true_eq, decide_eq_false_iff_not] at *; omega)) (fun _ => rfl) fun r5 hr5 => ?_
        refine Run.bk (e := vIv) (gv := vIv) (by kernel_rfl) (by kernel_rfl) (ok_spec_NegI _) (fun _ => rfl) fun r6 hr6 => ?_
        exact Run.rh (k := 0) (by kernel_rfl) (by kernel_rfl)
      · refine Run.bk (e := vT_I_B) (gv := vIv) (by kernel_rfl) (by kernel_rfl) (ok_spec_MulFloor _ _ _) (fun _ => rfl) fun r7 hr7 => ?_
        refine Run.bk (e := vT_I_B) (gv := vIv) (by kernel_rfl) (by kernel_rfl) (ok_spec_MulFloor _ _ _) (fun _ => rfl) fun r8 hr8 => ?_
        refine Run.bk (e := vIv) (gv := vIv) (by kernel_rfl) (by kernel_rfl) (ok_spec_l04Make _ _) (fun _ => rfl) fun r9 hr9 => ?_
        exact Run.rh (k := 0) (by kernel_rfl) (by kernel_rfl)
theorem ok_spec_LogTwoI (a0 : I64) : Fun Tryz.prog 244 [] #[vI a0] (vIv (F_spec_LogTwoI a0)) [] := ok_spec_LogTwoI_r 2 a0 (by omega)

theorem ok_spec_LogAt_L1 : ∀ (fu : Nat) (a0 : I64) (x_e : I64) (y_1 : Iv) (q0 : 1 ≤ a0.val) (q1 : a0.val ≤ 1152921504606846976) (q2 : -1000 ≤ x_e.val) (q3 : (x_e.val ≤ 0 ∧ y_1.lo.val = a0.val * 2 ^ (0 - x_e.val).toNat ∧ y_1.lo.val < 6442450944) ∨ 3221225472 ≤ y_1.lo.val) (hm : (64 + x_e.val).toNat < fu) (t : Array Value) (ht : maskA t [1, 5, 6, 7, 8, 9, 10, 11, 12, 13, 14, 15, 16, 17, 18, 19, 20, 21, 22, 23, 24, 25, 26, 27, 28, 29, 30, 31, 32, 33, 34, 35, 36, 37, 38, 39, 40, 41, 42, 43, 44, 45, 46, 47, 48, 49, 50, 51, 52, 53, 54, 55, 56, 57, 58, 59, 60, 61, 62, 63, 64, 65, 66, 67, 68, 69, 70, 71, 72, 73, 74, 75, 76, 77, 78] = #[.int .i64 a0.val, undef, .pointer (some ⟨0, 0, none⟩), .int .i64 x_e.val, .pointer (some ⟨1, 0, none⟩), undef, undef, undef, undef, undef, undef, undef, undef, undef, undef, undef, undef, undef, undef, undef, undef, undef, undef, undef, undef, undef, undef, undef, undef, undef, undef, undef, undef, undef, undef, undef, undef, undef, undef, undef, undef, undef, undef, undef, undef, undef, undef, undef, undef, undef, undef, undef, undef, undef, undef, undef, undef, undef, undef, undef, undef, undef, undef, undef, undef, undef, undef, undef, undef, undef, undef, undef, undef, undef, undef, undef, undef, undef, undef]), Cfg Tryz.prog 194 (loopAt Tryz.f194 1) t [(#[.int .i64 0, .int .i64 0], 27), (#[.int .i64 y_1.lo.val, .int .i64 y_1.hi.val], 27)] (RvH [] (vIv (F_spec_LogAt_L1 fu a0 x_e y_1))) := by
  intro fu
  induction fu with
  | zero => intro a0 x_e y_1 q0 q1 q2 q3 hm; exact absurd hm (Nat.not_lt_zero _)
  | succ fu ih =>
    intro a0 x_e y_1 q0 q1 q2 q3 hm t ht
    refine Cfg.round E_ok mixed Tryz.func194 ht fun g => ?_
    unfold F_spec_LogAt_L1
    refine Run.jk (gv := vIv) (by kernel_rfl) (fun h5 => ?_) (fun h5 => ?_)
    · refine Run.k (c := (decide (0 ≤ (wu64 (w64 (0 - (w64 (x_e.val - 1)).val)).val).val))) (by kernel_rfl) (by exact decide_eq_true (U64.lo _)) ?_
      refine Run.k (c := (decide (0 ≤ (wu64 (w64 (0 - (w64 (x_e.val - 1)).val)).val).val))) (by kernel_rfl) (by exact decide_eq_true (U64.lo _)) ?_
      exact Run.l (by kernel_rfl) (by kernel_rfl) (by kernel_rfl) (by kernel_rfl) (ih a0 (w64 (x_e.val - 1)) (⟨(ishl .i64 a0.val (wu64 (w64 (0 - (w64 (x_e.val - 1)).val)).val).val), (ishl .i64 a0.val (wu64 (w64 (0 - (w64 (x_e.val - 1)).val)).val).val)⟩ : Iv) (by first | exact q0 | exact q1 | exact Nat.lt_succ_self _ | (have z := spec_two_less a0 x_e y_1 q0 q2 q3 h5; first | exact .inl z.2.2 | (simp only [w64_val]; omega))) (by first | exact q0 | exact q1 | exact Nat.lt_succ_self _ | (have z := spec_two_less a0 x_e y_1 q0 q2 q3 h5; first | exact .inl z.2.2 | (simp only [w64_val]; omega))) (by first | exact q0 | exact q1 | exact Nat.lt_succ_self _ | (have z := spec_two_less a0 x_e y_1 q0 q2 q3 h5; first | exact .inl z.2.2 | (simp only [w64_val]; omega))) (by first | exact q0 | exact q1 | exact Nat.lt_succ_self _ | (have z := spec_two_less a0 x_e y_1 q0 q2 q3 h5; first | exact .inl z.2.2 | (simp only [w64_val]; omega))) (by first | exact q0 | exact q1 | exact Nat.lt_succ_self _ | (have z := spec_two_less a0 x_e y_1 q0 q2 q3 h5; first | exact .inl z.2.2 | (simp only [w64_val]; omega))))
    · refine Run.bk (e := vIv) (gv := vIv) (by kernel_rfl) (by kernel_rfl) (ok_spec_l08One) (fun _ => rfl) fun r6 hr6 => ?_
      refine Run.bk (e := vIv) (gv := vIv) (by kernel_rfl) (by kernel_rfl) (ok_spec_SubI _ _) (fun _ => rfl) fun r7 hr7 => ?_
      refine Run.bk (e := vIv) (gv := vIv) (by kernel_rfl) (by kernel_rfl) (ok_spec_l08One) (fun _ => rfl) fun r8 hr8 => ?_
      refine Run.bk (e := vIv) (gv := vIv) (by kernel_rfl) (by kernel_rfl) (ok_spec_AddI _ _) (fun _ => rfl) fun r9 hr9 => ?_
      refine Run.bk (e := vIv) (gv := vIv) (by kernel_rfl) (by kernel_rfl) (ok_spec_DivI _ _) (fun _ => rfl) fun r10 hr10 => ?_
      refine Run.bk (e := vIv) (gv := vIv) (by kernel_rfl) (by kernel_rfl) (ok_spec_SqrI _) (fun _ => rfl) fun r11 hr11 => ?_
      refine Run.bk (e := vIv) (gv := vIv) (by kernel_rfl) (by kernel_rfl) (ok_spec_Quotient _ _) (fun _ => rfl) fun r12 hr12 => ?_
      refine Run.u 400 E_ok mixed Tryz.func194 ?_
      refine Run.p [true] (by kernel_rfl) ?_
      refine Run.bk (e := vIv) (gv := vIv) (by kernel_rfl) (by kernel_rfl) (ok_spec_Quotient _ _) (fun _ => rfl) fun r13 hr13 => ?_
      refine Run.bk (e := vIv) (gv := vIv) (by kernel_rfl) (by kernel_rfl) (ok_spec_MulI _ _) (fun _ => rfl) fun r14 hr14 => ?_
      refine Run.bk (e := vIv) (gv := vIv) (by kernel_rfl) (by kernel_rfl) (ok_spec_AddI _ _) (fun _ => rfl) fun r15 hr15 => ?_
      refine Run.u 400 E_ok mixed Tryz.func194 ?_
      refine Run.p [true] (by kernel_rfl) ?_
      refine Run.bk (e := vIv) (gv := vIv) (by kernel_rfl) (by kernel_rfl) (ok_spec_Quotient _ _) (fun _ => rfl) fun r16 hr16 => ?_
      refine Run.bk (e := vIv) (gv := vIv) (by kernel_rfl) (by kernel_rfl) (ok_spec_MulI _ _) (fun _ => rfl) fun r17 hr17 => ?_
      refine Run.bk (e := vIv) (gv := vIv) (by kernel_rfl) (by kernel_rfl) (ok_spec_AddI _ _) (fun _ => rfl) fun r18 hr18 => ?_
      refine Run.u 400 E_ok mixed Tryz.func194 ?_
      refine Run.p [true] (by kernel_rfl) ?_
      refine Run.bk (e := vIv) (gv := vIv) (by kernel_rfl) (by kernel_rfl) (ok_spec_Quotient _ _) (fun _ => rfl) fun r19 hr19 => ?_
      refine Run.bk (e := vIv) (gv := vIv) (by kernel_rfl) (by kernel_rfl) (ok_spec_MulI _ _) (fun _ => rfl) fun r20 hr20 => ?_
      refine Run.bk (e := vIv) (gv := vIv) (by kernel_rfl) (by kernel_rfl) (ok_spec_AddI _ _) (fun _ => rfl) fun r21 hr21 => ?_
      refine Run.u 400 E_ok mixed Tryz.func194 ?_
      refine Run.p [true] (by kernel_rfl) ?_
      refine Run.bk (e := vIv) (gv := vIv) (by kernel_rfl) (by kernel_rfl) (ok_spec_Quotient _ _) (fun _ => rfl) fun r22 hr22 => ?_
      refine Run.bk (e := vIv) (gv := vIv) (by kernel_rfl) (by kernel_rfl) (ok_spec_MulI _ _) (fun _ => rfl) fun r23 hr23 => ?_
      refine Run.bk (e := vIv) (gv := vIv) (by kernel_rfl) (by kernel_rfl) (ok_spec_AddI _ _) (fun _ => rfl) fun r24 hr24 => ?_
      refine Run.u 400 E_ok mixed Tryz.func194 ?_
      refine Run.p [true] (by kernel_rfl) ?_
      refine Run.bk (e := vIv) (gv := vIv) (by kernel_rfl) (by kernel_rfl) (ok_spec_Quotient _ _) (fun _ => rfl) fun r25 hr25 => ?_
      refine Run.bk (e := vIv) (gv := vIv) (by kernel_rfl) (by kernel_rfl) (ok_spec_MulI _ _) (fun _ => rfl) fun r26 hr26 => ?_
      refine Run.bk (e := vIv) (gv := vIv) (by kernel_rfl) (by kernel_rfl) (ok_spec_AddI _ _) (fun _ => rfl) fun r27 hr27 => ?_
      refine Run.u 400 E_ok mixed Tryz.func194 ?_
      refine Run.p [false] (by kernel_rfl) ?_
      refine Run.bk (e := vIv) (gv := vIv) (by kernel_rfl) (by kernel_rfl) (ok_spec_Integer _) (fun _ => rfl) fun r28 hr28 => ?_
      refine Run.bk (e := vIv) (gv := vIv) (by kernel_rfl) (by kernel_rfl) (ok_spec_MulI _ _) (fun _ => rfl) fun r29 hr29 => ?_
      refine Run.bk (e := vIv) (gv := vIv) (by kernel_rfl) (by kernel_rfl) (ok_spec_MulI _ _) (fun _ => rfl) fun r30 hr30 => ?_
      refine Run.bk (e := vIv) (gv := vIv) (by kernel_rfl) (by kernel_rfl) (ok_spec_l08Widen _ _) (fun _ => rfl) fun r31 hr31 => ?_
      refine Run.bk (e := vIv) (gv := vIv) (by kernel_rfl) (by kernel_rfl) (ok_spec_LogTwoI _) (fun _ => rfl) fun r32 hr32 => ?_
      refine Run.bk (e := vIv) (gv := vIv) (by kernel_rfl) (by kernel_rfl) (ok_spec_AddI _ _) (fun _ => rfl) fun r33 hr33 => ?_
      exact Run.rh (k := 0) (by kernel_rfl) (by kernel_rfl)

theorem ok_spec_LogAt_L0 : ∀ (fu : Nat) (a0 : I64) (x_e : I64) (y_1 : Iv) (q0 : 1 ≤ a0.val) (q1 : a0.val ≤ 1152921504606846976) (q2 : 0 ≤ x_e.val ∧ x_e.val ≤ 40) (q3 : y_1.lo.val = (ishr a0 (wu64 x_e.val).val).val) (q4 : x_e.val = 0 ∨ 3221225472 ≤ y_1.lo.val) (hm : (64 - x_e.val).toNat < fu) (t : Array Value) (ht : maskA t [1, 5, 6, 7, 8, 9, 10, 11, 12, 13, 14, 15, 16, 17, 18, 19, 20, 21, 22, 23, 24, 25, 26, 27, 28, 29, 30, 31, 32, 33, 34, 35, 36, 37, 38, 39, 40, 41, 42, 43, 44, 45, 46, 47, 48, 49, 50, 51, 52, 53, 54, 55, 56, 57, 58, 59, 60, 61, 62, 63, 64, 65, 66, 67, 68, 69, 70, 71, 72, 73, 74, 75, 76, 77, 78] = #[.int .i64 a0.val, undef, .pointer (some ⟨0, 0, none⟩), .int .i64 x_e.val, .pointer (some ⟨1, 0, none⟩), undef, undef, undef, undef, undef, undef, undef, undef, undef, undef, undef, undef, undef, undef, undef, undef, undef, undef, undef, undef, undef, undef, undef, undef, undef, undef, undef, undef, undef, undef, undef, undef, undef, undef, undef, undef, undef, undef, undef, undef, undef, undef, undef, undef, undef, undef, undef, undef, undef, undef, undef, undef, undef, undef, undef, undef, undef, undef, undef, undef, undef, undef, undef, undef, undef, undef, undef, undef, undef, undef, undef, undef, undef, undef]), Cfg Tryz.prog 194 (loopAt Tryz.f194 0) t [(#[.int .i64 0, .int .i64 0], 27), (#[.int .i64 y_1.lo.val, .int .i64 y_1.hi.val], 27)] (RvH [] (vIv (F_spec_LogAt_L0 fu a0 x_e y_1))) := by
  intro fu
  induction fu with
  | zero => intro a0 x_e y_1 q0 q1 q2 q3 q4 hm; exact absurd hm (Nat.not_lt_zero _)
  | succ fu ih =>
    intro a0 x_e y_1 q0 q1 q2 q3 q4 hm t ht
    refine Cfg.round E_ok mixed Tryz.func194 ht fun g => ?_
    unfold F_spec_LogAt_L0
    refine Run.jk (gv := vIv) (by kernel_rfl) (fun h4 => ?_) (fun h4 => ?_)
    · refine Run.k (c := (decide (0 ≤ (wu64 (w64 (x_e.val + 1)).val).val))) (by kernel_rfl) (by exact decide_eq_true (U64.lo _)) ?_
      refine Run.k (c := (decide (0 ≤ (wu64 (w64 (x_e.val + 1)).val).val))) (by kernel_rfl) (by exact decide_eq_true (U64.lo _)) ?_
      exact Run.l (by kernel_rfl) (by kernel_rfl) (by kernel_rfl) (by kernel_rfl) (ih a0 (w64 (x_e.val + 1)) (⟨(ishr a0 (wu64 (w64 (x_e.val + 1)).val).val), (w64 (0 - (ishr (w64 (0 - a0.val)) (wu64 (w64 (x_e.val + 1)).val).val).val))⟩ : Iv) (by first | exact q0 | exact q1 | exact Nat.lt_succ_self _ | rfl | exact spec_two_exit a0 x_e y_1 q2.1 q2.2 q3 q4 h4 | (have z := spec_shr_big a0 x_e y_1 q1 q2.1 q2.2 q3 h4; first | exact .inr z.2 | (simp only [w64_val]; omega))) (by first | exact q0 | exact q1 | exact Nat.lt_succ_self _ | rfl | exact spec_two_exit a0 x_e y_1 q2.1 q2.2 q3 q4 h4 | (have z := spec_shr_big a0 x_e y_1 q1 q2.1 q2.2 q3 h4; first | exact .inr z.2 | (simp only [w64_val]; omega))) (by first | exact q0 | exact q1 | exact Nat.lt_succ_self _ | rfl | exact spec_two_exit a0 x_e y_1 q2.1 q2.2 q3 q4 h4 | (have z := spec_shr_big a0 x_e y_1 q1 q2.1 q2.2 q3 h4; first | exact .inr z.2 | (simp only [w64_val]; omega))) (by first | exact q0 | exact q1 | exact Nat.lt_succ_self _ | rfl | exact spec_two_exit a0 x_e y_1 q2.1 q2.2 q3 q4 h4 | (have z := spec_shr_big a0 x_e y_1 q1 q2.1 q2.2 q3 h4; first | exact .inr z.2 | (simp only [w64_val]; omega))) (by first | exact q0 | exact q1 | exact Nat.lt_succ_self _ | rfl | exact spec_two_exit a0 x_e y_1 q2.1 q2.2 q3 q4 h4 | (have z := spec_shr_big a0 x_e y_1 q1 q2.1 q2.2 q3 h4; first | exact .inr z.2 | (simp only [w64_val]; omega))) (by first | exact q0 | exact q1 | exact Nat.lt_succ_self _ | rfl | exact spec_two_exit a0 x_e y_1 q2.1 q2.2 q3 q4 h4 | (have z := spec_shr_big a0 x_e y_1 q1 q2.1 q2.2 q3 h4; first | exact .inr z.2 | (simp only [w64_val]; omega))))
    · exact Run.l (by kernel_rfl) (by kernel_rfl) (by kernel_rfl) (by kernel_rfl) (ok_spec_LogAt_L1 ((64 + x_e.val).toNat + 1) a0 x_e y_1 (by first | exact q0 | exact q1 | exact Nat.lt_succ_self _ | exact spec_two_exit a0 x_e y_1 q2.1 q2.2 q3 q4 h4 | omega) (by first | exact q0 | exact q1 | exact Nat.lt_succ_self _ | exact spec_two_exit a0 x_e y_1 q2.1 q2.2 q3 q4 h4 | omega) (by first | exact q0 | exact q1 | exact Nat.lt_succ_self _ | exact spec_two_exit a0 x_e y_1 q2.1 q2.2 q3 q4 h4 | omega) (by first | exact q0 | exact q1 | exact Nat.lt_succ_self _ | exact spec_two_exit a0 x_e y_1 q2.1 q2.2 q3 q4 h4 | omega) (by first | exact q0 | exact q1 | exact Nat.lt_succ_self _ | exact spec_two_exit a0 x_e y_1 q2.1 q2.2 q3 q4 h4 | omega))

theorem ok_spec_LogAt (a0 : I64) : Fun Tryz.prog 194 [] #[vI a0] (vIv (F_spec_LogAt a0)) [] := by
  refine Fun.ofH 400 E_ok mixed Tryz.func194 (by kernel_rfl) (by kernel_rfl) ?_
  unfold F_spec_LogAt
  refine Run.bk (e := vB) (gv := vIv) (by kernel_rfl) (by kernel_rfl) (ok_spec_l00In _ _ _) (fun _ => rfl) fun r1 hr1 => ?_
  refine Run.jk (gv := vIv) (by kernel_rfl) (fun h2 => ?_) (fun h2 => ?_)
  · refine Run.bk (e := vIv) (gv := vIv) (by kernel_rfl) (by kernel_rfl) (ok_spec_l04Whole) (fun _ => rfl) fun r3 hr3 => ?_
    exact Run.rh (k := 0) (by kernel_rfl) (by kernel_rfl)
  · exact Run.l (by kernel_rfl) (by kernel_rfl) (by kernel_rfl) (by kernel_rfl) (ok_spec_LogAt_L0 ((64 - (c64 0).val).toNat + 1) a0 (c64 0) (⟨a0, a0⟩ : Iv) (by first | exact (in1_p hr1 h2).1 | exact (in1_p hr1 h2).2 | exact ⟨by decide, by decide⟩ | exact (shr0' a0).symm | exact .inl rfl | exact Nat.lt_succ_self _) (by first | exact (in1_p hr1 h2).1 | exact (in1_p hr1 h2).2 | exact ⟨by decide, by decide⟩ | exact (shr0' a0).symm | exact .inl rfl | exact Nat.lt_succ_self _) (by first | exact (in1_p hr1 h2).1 | exact (in1_p hr1 h2).2 | exact ⟨by decide, by decide⟩ | exact (shr0' a0).symm | exact .inl rfl | exact Nat.lt_succ_self _) (by first | exact (in1_p hr1 h2).1 | exact (in1_p hr1 h2).2 | exact ⟨by decide, by decide⟩ | exact (shr0' a0).symm | exact .inl rfl | exact Nat.lt_succ_self _) (by first | exact (in1_p hr1 h2).1 | exact (in1_p hr1 h2).2 | exact ⟨by decide, by decide⟩ | exact (shr0' a0).symm | exact .inl rfl | exact Nat.lt_succ_self _) (by first | exact (in1_p hr1 h2).1 | exact (in1_p hr1 h2).2 | exact ⟨by decide, by decide⟩ | exact (shr0' a0).symm | exact .inl rfl | exact Nat.lt_succ_self _))

theorem ok_spec_l08Ends (a0 : Iv) (a1 : Iv) : Fun Tryz.prog 193 [] #[vIv a0, vIv a1] (vIv (F_spec_l08Ends a0 a1)) [] := by
  refine Fun.ofH 400 E_ok mixed Tryz.func193 (by kernel_rfl) (by kernel_rfl) ?_
  unfold F_spec_l08Ends
  refine Run.bH (e := vB) (gv := vIv) (by kernel_rfl) (by kernel_rfl) (ok_spec_l04Ok _) (fun _ => rfl) fun r1 => ?_
  refine Run.jH (gv := vIv) (by kernel_rfl) (?_) (?_)
  · refine Run.p [true, true, true, true] (by kernel_rfl) ?_
    refine Run.bH (e := vIv) (gv := vIv) (by kernel_rfl) (by kernel_rfl) (ok_spec_l04Whole) (fun _ => rfl) fun r2 => ?_
    exact Run.rh (k := 0) (by kernel_rfl) (by kernel_rfl)
  · refine Run.p [false] (by kernel_rfl) ?_
    refine Run.bH (e := vB) (gv := vIv) (by kernel_rfl) (by kernel_rfl) (ok_spec_l04Ok _) (fun _ => rfl) fun r3 => ?_
    refine Run.p [false, false] (by kernel_rfl) ?_
    refine Run.jH (gv := vIv) (by kernel_rfl) (?_) (?_)
    · refine Run.bH (e := vIv) (gv := vIv) (by kernel_rfl) (by kernel_rfl) (ok_spec_l04Whole) (fun _ => rfl) fun r4 => ?_
      exact Run.rh (k := 0) (by kernel_rfl) (by kernel_rfl)
    · refine Run.bH (e := vIv) (gv := vIv) (by kernel_rfl) (by kernel_rfl) (ok_spec_l04Make _ _) (fun _ => rfl) fun r5 => ?_
      exact Run.rh (k := 0) (by kernel_rfl) (by kernel_rfl)

theorem ok_spec_LogI (a0 : Iv) : Fun Tryz.prog 139 [] #[vIv a0] (vIv (F_spec_LogI a0)) [] := by
  refine Fun.ofH 400 E_ok mixed Tryz.func139 (by kernel_rfl) (by kernel_rfl) ?_
  unfold F_spec_LogI
  refine Run.bH (e := vB) (gv := vIv) (by kernel_rfl) (by kernel_rfl) (ok_spec_l04Ok _) (fun _ => rfl) fun r1 => ?_
  refine Run.jH (gv := vIv) (by kernel_rfl) (?_) (?_)
  · refine Run.bH (e := vIv) (gv := vIv) (by kernel_rfl) (by kernel_rfl) (ok_spec_l04Whole) (fun _ => rfl) fun r2 => ?_
    exact Run.rh (k := 0) (by kernel_rfl) (by kernel_rfl)
  · refine Run.bH (e := vIv) (gv := vIv) (by kernel_rfl) (by kernel_rfl) (ok_spec_LogAt _) (fun _ => rfl) fun r3 => ?_
    refine Run.bH (e := vIv) (gv := vIv) (by kernel_rfl) (by kernel_rfl) (ok_spec_LogAt _) (fun _ => rfl) fun r4 => ?_
    refine Run.bH (e := vIv) (gv := vIv) (by kernel_rfl) (by kernel_rfl) (ok_spec_l08Ends _ _) (fun _ => rfl) fun r5 => ?_
    exact Run.rh (k := 0) (by kernel_rfl) (by kernel_rfl)

theorem ok_spec_SinAt (a0 : I64) : Fun Tryz.prog 246 [] #[vI a0] (vIv (F_spec_SinAt a0)) [] := by
  refine Fun.ofH 400 E_ok mixed Tryz.func246 (by kernel_rfl) (by kernel_rfl) ?_
  unfold F_spec_SinAt
  refine Run.bH (e := vIv) (gv := vIv) (by kernel_rfl) (by kernel_rfl) (ok_spec_l06At _ _) (fun _ => rfl) fun r1 => ?_
  exact Run.rh (k := 0) (by kernel_rfl) (by kernel_rfl)

theorem ok_spec_CosAt (a0 : I64) : Fun Tryz.prog 247 [] #[vI a0] (vIv (F_spec_CosAt a0)) [] := by
  refine Fun.ofH 400 E_ok mixed Tryz.func247 (by kernel_rfl) (by kernel_rfl) ?_
  unfold F_spec_CosAt
  refine Run.bH (e := vIv) (gv := vIv) (by kernel_rfl) (by kernel_rfl) (ok_spec_l06At _ _) (fun _ => rfl) fun r1 => ?_
  exact Run.rh (k := 0) (by kernel_rfl) (by kernel_rfl)

theorem ok_spec_TanI_L0 : ∀ (fu : Nat) (a0 : Iv) (x_k : I64) (y_1 : Iv) (hm : (2000 - x_k.val).toNat < fu) (t : Array Value) (ht : maskA t [0, 4, 5, 6, 7, 8, 9, 10, 11, 12, 13, 14, 15, 16, 17, 18, 19, 20, 21, 22, 23, 24, 25, 26, 27, 28, 29, 30, 31, 32, 33, 34, 35, 36, 37, 38, 39, 40, 41, 42, 43, 44] = #[undef, .pointer (some ⟨0, 0, none⟩), .pointer (some ⟨1, 0, none⟩), .int .i64 x_k.val, undef, undef, undef, undef, undef, undef, undef, undef, undef, undef, undef, undef, undef, undef, undef, undef, undef, undef, undef, undef, undef, undef, undef, undef, undef, undef, undef, undef, undef, undef, undef, undef, undef, undef, undef, undef, undef, undef, undef, undef, undef]), Cfg Tryz.prog 196 (loopAt Tryz.f196 0) t [(#[.int .i64 a0.lo.val, .int .i64 a0.hi.val], 27), (#[.int .i64 y_1.lo.val, .int .i64 y_1.hi.val], 27)] (RvH [] (vIv (F_spec_TanI_L0 fu a0 x_k y_1))) := by
  intro fu
  induction fu with
  | zero => intro a0 x_k y_1 hm; exact absurd hm (Nat.not_lt_zero _)
  | succ fu ih =>
    intro a0 x_k y_1 hm t ht
    refine Cfg.round E_ok mixed Tryz.func196 ht fun g => ?_
    unfold F_spec_TanI_L0
    refine Run.bk (e := vI) (gv := vIv) (by kernel_rfl) (by kernel_rfl) (ok_spec_QuarterOf _) (fun _ => rfl) fun r5 hr5 => ?_
    refine Run.jk (gv := vIv) (by kernel_rfl) (fun h6 => ?_) (fun h6 => ?_)
    · refine Run.jk (gv := vIv) (by kernel_rfl) (fun h7 => ?_) (fun h7 => ?_)
      · refine Run.p [true] (by kernel_rfl) ?_
        refine Run.bk (e := vIv) (gv := vIv) (by kernel_rfl) (by kernel_rfl) (ok_spec_TurnI _) (fun _ => rfl) fun r8 hr8 => ?_
        refine Run.p [true, true] (by kernel_rfl) ?_
        refine Run.bk (e := vB) (gv := vIv) (by kernel_rfl) (by kernel_rfl) (ok_spec_OverlapI _ _) (fun _ => rfl) fun r9 hr9 => ?_
        refine Run.p [true] (by kernel_rfl) ?_
        refine Run.jk (gv := vIv) (by kernel_rfl) (fun h10 => ?_) (fun h10 => ?_)
        · refine Run.bk (e := vIv) (gv := vIv) (by kernel_rfl) (by kernel_rfl) (ok_spec_Whole) (fun _ => rfl) fun r11 hr11 => ?_
          exact Run.rh (k := 0) (by kernel_rfl) (by kernel_rfl)
        · exact Run.l (by kernel_rfl) (by kernel_rfl) (by kernel_rfl) (by kernel_rfl) (ih a0 (w64 (x_k.val + 1)) y_1 (by have q1 := x_k.lo; first | exact Nat.lt_succ_self _ | (have q2 := spec_quarter_le a0.hi; have q3 := spec_quarter_ge a0.hi; simp only [w64_val, decide_eq_true_eq, decide_eq_false_iff_not, *] at *; omega)))
      · refine Run.p [false, false, false, false, false] (by kernel_rfl) ?_
        exact Run.l (by kernel_rfl) (by kernel_rfl) (by kernel_rfl) (by kernel_rfl) (ih a0 (w64 (x_k.val + 1)) y_1 (by have q1 := x_k.lo; first | exact Nat.lt_succ_self _ | (have q2 := spec_quarter_le a0.hi; have q3 := spec_quarter_ge a0.hi; simp only [w64_val, decide_eq_true_eq, decide_eq_false_iff_not, *] at *; omega)))
    · refine Run.bk (e := vIv) (gv := vIv) (by kernel_rfl) (by kernel_rfl) (ok_spec_SinAt _) (fun _ => rfl) fun r12 hr12 => ?_
      refine Run.bk (e := vIv) (gv := vIv) (by kernel_rfl) (by kernel_rfl) (ok_spec_CosAt _) (fun _ => rfl) fun r13 hr13 => ?_
      refine Run.bk (e := vIv) (gv := vIv) (by kernel_rfl) (by kernel_rfl) (ok_spec_DivI _ _) (fun _ => rfl) fun r14 hr14 => ?_
      refine Run.bk (e := vIv) (gv := vIv) (by kernel_rfl) (by kernel_rfl) (ok_spec_SinAt _) (fun _ => rfl) fun r15 hr15 => ?_
      refine Run.bk (e := vIv) (gv := vIv) (by kernel_rfl) (by kernel_rfl) (ok_spec_CosAt _) (fun _ => rfl) fun r16 hr16 => ?_
      refine Run.bk (e := vIv) (gv := vIv) (by kernel_rfl) (by kernel_rfl) (ok_spec_DivI _ _) (fun _ => rfl) fun r17 hr17 => ?_
      refine Run.bk (e := vIv) (gv := vIv) (by kernel_rfl) (by kernel_rfl) (ok_spec_HullI _ _) (fun _ => rfl) fun r18 hr18 => ?_
      exact Run.rh (k := 0) (by kernel_rfl) (by kernel_rfl)

theorem ok_spec_TanI (a0 : Iv) : Fun Tryz.prog 196 [] #[vIv a0] (vIv (F_spec_TanI a0)) [] := by
  refine Fun.ofH 400 E_ok mixed Tryz.func196 (by kernel_rfl) (by kernel_rfl) ?_
  unfold F_spec_TanI
  refine Run.bk (e := vB) (gv := vIv) (by kernel_rfl) (by kernel_rfl) (ok_spec_l06Fits _) (fun _ => rfl) fun r1 hr1 => ?_
  refine Run.jk (gv := vIv) (by kernel_rfl) (fun h2 => ?_) (fun h2 => ?_)
  · refine Run.bk (e := vIv) (gv := vIv) (by kernel_rfl) (by kernel_rfl) (ok_spec_Whole) (fun _ => rfl) fun r3 hr3 => ?_
    exact Run.rh (k := 0) (by kernel_rfl) (by kernel_rfl)
  · refine Run.bk (e := vI) (gv := vIv) (by kernel_rfl) (by kernel_rfl) (ok_spec_QuarterOf _) (fun _ => rfl) fun r4 hr4 => ?_
    exact Run.l (by kernel_rfl) (by kernel_rfl) (by kernel_rfl) (by kernel_rfl) (ok_spec_TanI_L0 ((2000 - (w64 (r4.val - 1)).val).toNat + 1) a0 (w64 (r4.val - 1)) (⟨(c64 0), (c64 0)⟩ : Iv) (by exact Nat.lt_succ_self _))

theorem ok_spec_l02Root_L0 : ∀ (fu : Nat) (a0 : Wd) (x_out : U64) (x_i : I64) (q0 : x_i.val ≤ 63) (hm : (x_i.val + 1).toNat < fu) (t : Array Value) (ht : maskA t [0, 5, 6, 7, 8, 9, 10, 11, 12, 13, 14, 15, 16, 17, 18, 19, 20, 21, 22, 23, 24, 25, 26, 27, 28, 29, 30, 31, 32, 33, 34, 35, 36, 37, 38, 39, 40, 41, 42] = #[undef, .pointer (some ⟨0, 0, none⟩), .int .u64 0, .int .u64 x_out.val, .int .i64 x_i.val, undef, undef, undef, undef, undef, undef, undef, undef, undef, undef, undef, undef, undef, undef, undef, undef, undef, undef, undef, undef, undef, undef, undef, undef, undef, undef, undef, undef, undef, undef, undef, undef, undef, undef, undef, undef, undef, undef]), Cfg Tryz.prog 233 (loopAt Tryz.f233 0) t [(#[.int .i64 a0.hi.val, .int .u64 a0.lo.val], 104)] (RvH [] (vU (F_spec_l02Root_L0 fu a0 x_out x_i))) := by
  intro fu
  induction fu with
  | zero => intro a0 x_out x_i q0 hm; exact absurd hm (Nat.not_lt_zero _)
  | succ fu ih =>
    intro a0 x_out x_i q0 hm t ht
    refine Cfg.round E_ok mixed Tryz.func233 ht fun g => ?_
    unfold F_spec_l02Root_L0
    refine Run.jk (gv := vU) (by kernel_rfl) (fun h1 => ?_) (fun h1 => ?_)
    · refine Run.k (c := (decide (0 ≤ (wu64 x_i.val).val))) (by kernel_rfl) (by simp only [w64_val, wu64_val, c64_val, cu64_val, decide_eq_true_eq] at *; omega) ?_
      refine Run.bk (e := vT_U_U) (gv := vU) (by kernel_rfl) (by kernel_rfl) (ok_spec_l02Times _ _) (fun _ => rfl) fun r2 hr2 => ?_
      refine Run.jk (gv := vU) (by kernel_rfl) (fun h3 => ?_) (fun h3 => ?_)
      · refine Run.p [true, true, true, true, true, true, true, true] (by kernel_rfl) ?_
        exact Run.l (by kernel_rfl) (by kernel_rfl) (by kernel_rfl) (by kernel_rfl) (ih a0 (ior .u64 x_out.val (ishl .u64 1 (wu64 x_i.val).val).val) (w64 (x_i.val - 1)) (by have q1 := x_i.lo; simp only [w64_val, wu64_val, c64_val, cu64_val, decide_eq_true_eq] at *; omega) (by have q1 := x_i.lo; simp only [w64_val, wu64_val, c64_val, cu64_val, decide_eq_true_eq] at *; omega))
      · refine Run.p [false, false, false, false, false] (by kernel_rfl) ?_
        refine Run.jk (gv := vU) (by kernel_rfl) (fun h4 => ?_) (fun h4 => ?_)
        · refine Run.p [true, true, true, false, true, false] (by kernel_rfl) ?_
          refine Run.jk (gv := vU) (by kernel_rfl) (fun h5 => ?_) (fun h5 => ?_)
          · exact Run.l (by kernel_rfl) (by kernel_rfl) (by kernel_rfl) (by kernel_rfl) (ih a0 (ior .u64 x_out.val (ishl .u64 1 (wu64 x_i.val).val).val) (w64 (x_i.val - 1)) (by have q1 := x_i.lo; simp only [w64_val, wu64_val, c64_val, cu64_val, decide_eq_true_eq] at *; omega) (by have q1 := x_i.lo; simp only [w64_val, wu64_val, c64_val, cu64_val, decide_eq_true_eq] at *; omega))
          · exact Run.l (by kernel_rfl) (by kernel_rfl) (by kernel_rfl) (by kernel_rfl) (ih a0 x_out (w64 (x_i.val - 1)) (by have q1 := x_i.lo; simp only [w64_val, wu64_val, c64_val, cu64_val, decide_eq_true_eq] at *; omega) (by have q1 := x_i.lo; simp only [w64_val, wu64_val, c64_val, cu64_val, decide_eq_true_eq] at *; omega))
        · refine Run.p [false, false, false, false, false, false, false] (by kernel_rfl) ?_
          exact Run.l (by kernel_rfl) (by kernel_rfl) (by kernel_rfl) (by kernel_rfl) (ih a0 x_out (w64 (x_i.val - 1)) (by have q1 := x_i.lo; simp only [w64_val, wu64_val, c64_val, cu64_val, decide_eq_true_eq] at *; omega) (by have q1 := x_i.lo; simp only [w64_val, wu64_val, c64_val, cu64_val, decide_eq_true_eq] at *; omega))
    · exact Run.rh (k := 0) (by kernel_rfl) (by kernel_rfl)

theorem ok_spec_l02Root (a0 : Wd) : Fun Tryz.prog 233 [] #[vWd a0] (vU (F_spec_l02Root a0)) [] := by
  refine Fun.ofH 400 E_ok mixed Tryz.func233 (by kernel_rfl) (by kernel_rfl) ?_
  unfold F_spec_l02Root
  exact Run.l (by kernel_rfl) (by kernel_rfl) (by kernel_rfl) (by kernel_rfl) (ok_spec_l02Root_L0 65 a0 (cu64 0) (c64 63) (by decide) (by decide))

theorem ok_spec_SqrtFloor (a0 : I64) (a1 : I64) : Fun Tryz.prog 263 [] #[vI a0, vI a1] (vT_I_B (F_spec_SqrtFloor a0 a1)) [] := by
  refine Fun.ofH 400 E_ok mixed Tryz.func263 (by kernel_rfl) (by kernel_rfl) ?_
  unfold F_spec_SqrtFloor
  refine Run.jH (gv := vT_I_B) (by kernel_rfl) (?_) (?_)
  · refine Run.p [true, true, true] (by kernel_rfl) ?_
    exact Run.rh (k := 0) (by kernel_rfl) (by kernel_rfl)
  · refine Run.p [false, false] (by kernel_rfl) ?_
    refine Run.jH (gv := vT_I_B) (by kernel_rfl) (?_) (?_)
    · exact Run.rh (k := 0) (by kernel_rfl) (by kernel_rfl)
    · refine Run.bH (e := vWd) (gv := vT_I_B) (by kernel_rfl) (by kernel_rfl) (ok_spec_l02Mul _ _) (fun _ => rfl) fun r1 => ?_
      refine Run.bH (e := vU) (gv := vT_I_B) (by kernel_rfl) (by kernel_rfl) (ok_spec_l02Root _) (fun _ => rfl) fun r2 => ?_
      exact Run.rh (k := 0) (by kernel_rfl) (by kernel_rfl)

theorem ok_spec_l03SqrtDown (a0 : I64) : Fun Tryz.prog 226 [] #[vI a0] (vT_I_B (F_spec_l03SqrtDown a0)) [] := by
  refine Fun.ofH 400 E_ok mixed Tryz.func226 (by kernel_rfl) (by kernel_rfl) ?_
  unfold F_spec_l03SqrtDown
  refine Run.bH (e := vB) (gv := vT_I_B) (by kernel_rfl) (by kernel_rfl) (ok_spec_l00In _ _ _) (fun _ => rfl) fun r1 => ?_
  refine Run.jH (gv := vT_I_B) (by kernel_rfl) (?_) (?_)
  · exact Run.rh (k := 0) (by kernel_rfl) (by kernel_rfl)
  · refine Run.bH (e := vT_I_B) (gv := vT_I_B) (by kernel_rfl) (by kernel_rfl) (ok_spec_SqrtFloor _ _) (fun _ => rfl) fun r2 => ?_
    exact Run.rh (k := 0) (by kernel_rfl) (by kernel_rfl)

theorem ok_spec_l03SqrtUp (a0 : I64) : Fun Tryz.prog 227 [] #[vI a0] (vT_I_B (F_spec_l03SqrtUp a0)) [] := by
  refine Fun.ofH 400 E_ok mixed Tryz.func227 (by kernel_rfl) (by kernel_rfl) ?_
  unfold F_spec_l03SqrtUp
  refine Run.bH (e := vT_I_B) (gv := vT_I_B) (by kernel_rfl) (by kernel_rfl) (ok_spec_l03SqrtDown _) (fun _ => rfl) fun r1 => ?_
  refine Run.jH (gv := vT_I_B) (by kernel_rfl) (?_) (?_)
  · exact Run.rh (k := 0) (by kernel_rfl) (by kernel_rfl)
  · refine Run.bH (e := vT_I_B) (gv := vT_I_B) (by kernel_rfl) (by kernel_rfl) (ok_spec_MulFloor _ _ _) (fun _ => rfl) fun r2 => ?_
    refine Run.jH (gv := vT_I_B) (by kernel_rfl) (?_) (?_)
    · refine Run.p [true, true, true, true, true, true] (by kernel_rfl) ?_
      exact Run.rh (k := 0) (by kernel_rfl) (by kernel_rfl)
    · refine Run.p [false, false, false, false, false] (by kernel_rfl) ?_
      refine Run.jH (gv := vT_I_B) (by kernel_rfl) (?_) (?_)
      · exact Run.rh (k := 0) (by kernel_rfl) (by kernel_rfl)
      · exact Run.rh (k := 0) (by kernel_rfl) (by kernel_rfl)

theorem ok_spec_SqrtI (a0 : Iv) : Fun Tryz.prog 180 [] #[vIv a0] (vIv (F_spec_SqrtI a0)) [] := by
  refine Fun.ofH 400 E_ok mixed Tryz.func180 (by kernel_rfl) (by kernel_rfl) ?_
  unfold F_spec_SqrtI
  refine Run.bH (e := vB) (gv := vIv) (by kernel_rfl) (by kernel_rfl) (ok_spec_l04Ok _) (fun _ => rfl) fun r1 => ?_
  refine Run.jH (gv := vIv) (by kernel_rfl) (?_) (?_)
  · refine Run.p [true, true, true, true] (by kernel_rfl) ?_
    refine Run.bH (e := vIv) (gv := vIv) (by kernel_rfl) (by kernel_rfl) (ok_spec_l04Whole) (fun _ => rfl) fun r2 => ?_
    exact Run.rh (k := 0) (by kernel_rfl) (by kernel_rfl)
  · refine Run.p [false, false, false] (by kernel_rfl) ?_
    refine Run.jH (gv := vIv) (by kernel_rfl) (?_) (?_)
    · refine Run.bH (e := vIv) (gv := vIv) (by kernel_rfl) (by kernel_rfl) (ok_spec_l04Whole) (fun _ => rfl) fun r3 => ?_
      exact Run.rh (k := 0) (by kernel_rfl) (by kernel_rfl)
    · refine Run.bH (e := vT_I_B) (gv := vIv) (by kernel_rfl) (by kernel_rfl) (ok_spec_l03SqrtDown _) (fun _ => rfl) fun r4 => ?_
      refine Run.bH (e := vT_I_B) (gv := vIv) (by kernel_rfl) (by kernel_rfl) (ok_spec_l03SqrtUp _) (fun _ => rfl) fun r5 => ?_
      refine Run.bH (e := vIv) (gv := vIv) (by kernel_rfl) (by kernel_rfl) (ok_spec_l04Make _ _) (fun _ => rfl) fun r6 => ?_
      exact Run.rh (k := 0) (by kernel_rfl) (by kernel_rfl)

theorem ok_spec_l08Asinh_r : ∀ (fu : Nat) (a0 : I64) (p0 : -9223372036854775808 < a0.val) (hm : min (0 - a0.val).toNat 1 < fu), Fun Tryz.prog 245 [] #[vI a0] (vIv (F_spec_l08Asinh_r fu a0)) [] := by
  intro fu
  induction fu with
  | zero => intro a0 p0 hm; exact absurd hm (Nat.not_lt_zero _)
  | succ fu ih =>
    intro a0 p0 hm
    refine Fun.ofH 400 E_ok mixed Tryz.func245 (by kernel_rfl) (by kernel_rfl) ?_
    unfold F_spec_l08Asinh_r
    unfold F_spec_l08Asinh_b
    refine Run.jk (gv := vIv) (by kernel_rfl) (fun h1 => ?_) (fun h1 => ?_)
    · refine Run.bk (e := vIv) (gv := vIv) (by kernel_rfl) (by kernel_rfl) (ih (w64 (0 - a0.val)) (by simp only [w64_val, decide_eq_true_eq, decide_eq_false_iff_not] at *; omega) (by simp only [w64_val, decide_eq_true_eq, decide_eq_false_iff_not] at *; omega)) (fun _ => rfl) fun r2 hr2 => ?_
      refine Run.bk (e := vIv) (gv := vIv) (by kernel_rfl) (by kernel_rfl) (ok_spec_NegI _) (fun _ => rfl) fun r3 hr3 => ?_
      exact Run.rh (k := 0) (by kernel_rfl) (by kernel_rfl)
    · refine Run.jk (gv := vIv) (by kernel_rfl) (fun h4 => ?_) (fun h4 => ?_)
      · refine Run.bk (e := vIv) (gv := vIv) (by kernel_rfl) (by kernel_rfl) (ok_spec_l08At _) (fun _ => rfl) fun r5 hr5 => ?_
        refine Run.bk (e := vIv) (gv := vIv) (by kernel_rfl) (by kernel_rfl) (ok_spec_l08At _) (fun _ => rfl) fun r6 hr6 => ?_
        refine Run.bk (e := vIv) (gv := vIv) (by kernel_rfl) (by kernel_rfl) (ok_spec_SqrI _) (fun _ => rfl) fun r7 hr7 => ?_
        refine Run.bk (e := vIv) (gv := vIv) (by kernel_rfl) (by kernel_rfl) (ok_spec_l08One) (fun _ => rfl) fun r8 hr8 => ?_
        refine Run.bk (e := vIv) (gv := vIv) (by kernel_rfl) (by kernel_rfl) (ok_spec_AddI _ _) (fun _ => rfl) fun r9 hr9 => ?_
        refine Run.bk (e := vIv) (gv := vIv) (by kernel_rfl) (by kernel_rfl) (ok_spec_SqrtI _) (fun _ => rfl) fun r10 hr10 => ?_
        refine Run.bk (e := vIv) (gv := vIv) (by kernel_rfl) (by kernel_rfl) (ok_spec_AddI _ _) (fun _ => rfl) fun r11 hr11 => ?_
        refine Run.bk (e := vIv) (gv := vIv) (by kernel_rfl) (by kernel_rfl) (ok_spec_LogI _) (fun _ => rfl) fun r12 hr12 => ?_
        exact Run.rh (k := 0) (by kernel_rfl) (by kernel_rfl)
      · refine Run.bk (e := vIv) (gv := vIv) (by kernel_rfl) (by kernel_rfl) (ok_spec_LogTwoI _) (fun _ => rfl) fun r13 hr13 => ?_
        refine Run.bk (e := vIv) (gv := vIv) (by kernel_rfl) (by kernel_rfl) (ok_spec_LogAt _) (fun _ => rfl) fun r14 hr14 => ?_
        refine Run.bk (e := vIv) (gv := vIv) (by kernel_rfl) (by kernel_rfl) (ok_spec_AddI _ _) (fun _ => rfl) fun r15 hr15 => ?_
        refine Run.bk (e := vIv) (gv := vIv) (by kernel_rfl) (by kernel_rfl) (ok_spec_AddI _ _) (fun _ => rfl) fun r16 hr16 => ?_
        exact Run.rh (k := 0) (by kernel_rfl) (by kernel_rfl)
theorem ok_spec_l08Asinh (a0 : I64) (p0 : -9223372036854775808 < a0.val) : Fun Tryz.prog 245 [] #[vI a0] (vIv (F_spec_l08Asinh a0)) [] := ok_spec_l08Asinh_r 2 a0 p0 (by omega)

theorem ok_spec_AsinhI (a0 : Iv) : Fun Tryz.prog 195 [] #[vIv a0] (vIv (F_spec_AsinhI a0)) [] := by
  refine Fun.ofH 400 E_ok mixed Tryz.func195 (by kernel_rfl) (by kernel_rfl) ?_
  unfold F_spec_AsinhI
  refine Run.bk (e := vB) (gv := vIv) (by kernel_rfl) (by kernel_rfl) (ok_spec_l04Ok _) (fun _ => rfl) fun r1 hr1 => ?_
  refine Run.jk (gv := vIv) (by kernel_rfl) (fun h2 => ?_) (fun h2 => ?_)
  · refine Run.bk (e := vIv) (gv := vIv) (by kernel_rfl) (by kernel_rfl) (ok_spec_l04Whole) (fun _ => rfl) fun r3 hr3 => ?_
    exact Run.rh (k := 0) (by kernel_rfl) (by kernel_rfl)
  · refine Run.bk (e := vIv) (gv := vIv) (by kernel_rfl) (by kernel_rfl) (ok_spec_l08Asinh _ (by rw [hr1] at h2; have z := Ok4p (by simpa using h2); omega)) (fun _ => rfl) fun r4 hr4 => ?_
    refine Run.bk (e := vIv) (gv := vIv) (by kernel_rfl) (by kernel_rfl) (ok_spec_l08Asinh _ (by rw [hr1] at h2; have z := Ok4p (by simpa using h2); omega)) (fun _ => rfl) fun r5 hr5 => ?_
    refine Run.bk (e := vIv) (gv := vIv) (by kernel_rfl) (by kernel_rfl) (ok_spec_l08Ends _ _) (fun _ => rfl) fun r6 hr6 => ?_
    exact Run.rh (k := 0) (by kernel_rfl) (by kernel_rfl)

theorem ok_spec_l19Iso (a0 : Iv) : Fun Tryz.prog 140 [] #[vIv a0] (vIv (F_spec_l19Iso a0)) [] := by
  refine Fun.ofH 400 E_ok mixed Tryz.func140 (by kernel_rfl) (by kernel_rfl) ?_
  unfold F_spec_l19Iso
  refine Run.bH (e := vIv) (gv := vIv) (by kernel_rfl) (by kernel_rfl) (ok_spec_TanI _) (fun _ => rfl) fun r1 => ?_
  refine Run.bH (e := vIv) (gv := vIv) (by kernel_rfl) (by kernel_rfl) (ok_spec_AsinhI _) (fun _ => rfl) fun r2 => ?_
  exact Run.rh (k := 0) (by kernel_rfl) (by kernel_rfl)

theorem ok_spec_l19Cone (a0 : Pj) : Fun Tryz.prog 72 [] #[vPj a0] (vIv (F_spec_l19Cone a0)) [] := by
  refine Fun.ofH 400 E_ok mixed Tryz.func72 (by kernel_rfl) (by kernel_rfl) ?_
  unfold F_spec_l19Cone
  refine Run.bH (e := vIv) (gv := vIv) (by kernel_rfl) (by kernel_rfl) (ok_spec_RadiansOf _) (fun _ => rfl) fun r1 => ?_
  refine Run.bH (e := vIv) (gv := vIv) (by kernel_rfl) (by kernel_rfl) (ok_spec_RadiansOf _) (fun _ => rfl) fun r2 => ?_
  refine Run.jH (gv := vIv) (by kernel_rfl) (?_) (?_)
  · refine Run.bH (e := vIv) (gv := vIv) (by kernel_rfl) (by kernel_rfl) (ok_spec_SinI _) (fun _ => rfl) fun r3 => ?_
    refine Run.bH (e := vIv) (gv := vIv) (by kernel_rfl) (by kernel_rfl) (ok_spec_SinI _) (fun _ => rfl) fun r4 => ?_
    refine Run.bH (e := vIv) (gv := vIv) (by kernel_rfl) (by kernel_rfl) (ok_spec_AddI _ _) (fun _ => rfl) fun r5 => ?_
    refine Run.bH (e := vIv) (gv := vIv) (by kernel_rfl) (by kernel_rfl) (ok_spec_HalfI _) (fun _ => rfl) fun r6 => ?_
    exact Run.rh (k := 0) (by kernel_rfl) (by kernel_rfl)
  · refine Run.jH (gv := vIv) (by kernel_rfl) (?_) (?_)
    · refine Run.bH (e := vIv) (gv := vIv) (by kernel_rfl) (by kernel_rfl) (ok_spec_SinI _) (fun _ => rfl) fun r7 => ?_
      exact Run.rh (k := 0) (by kernel_rfl) (by kernel_rfl)
    · refine Run.jH (gv := vIv) (by kernel_rfl) (?_) (?_)
      · refine Run.bH (e := vIv) (gv := vIv) (by kernel_rfl) (by kernel_rfl) (ok_spec_CosI _) (fun _ => rfl) fun r8 => ?_
        refine Run.bH (e := vIv) (gv := vIv) (by kernel_rfl) (by kernel_rfl) (ok_spec_LogI _) (fun _ => rfl) fun r9 => ?_
        refine Run.bH (e := vIv) (gv := vIv) (by kernel_rfl) (by kernel_rfl) (ok_spec_CosI _) (fun _ => rfl) fun r10 => ?_
        refine Run.bH (e := vIv) (gv := vIv) (by kernel_rfl) (by kernel_rfl) (ok_spec_LogI _) (fun _ => rfl) fun r11 => ?_
        refine Run.bH (e := vIv) (gv := vIv) (by kernel_rfl) (by kernel_rfl) (ok_spec_SubI _ _) (fun _ => rfl) fun r12 => ?_
        refine Run.bH (e := vIv) (gv := vIv) (by kernel_rfl) (by kernel_rfl) (ok_spec_l19Iso _) (fun _ => rfl) fun r13 => ?_
        refine Run.bH (e := vIv) (gv := vIv) (by kernel_rfl) (by kernel_rfl) (ok_spec_l19Iso _) (fun _ => rfl) fun r14 => ?_
        refine Run.bH (e := vIv) (gv := vIv) (by kernel_rfl) (by kernel_rfl) (ok_spec_SubI _ _) (fun _ => rfl) fun r15 => ?_
        refine Run.bH (e := vIv) (gv := vIv) (by kernel_rfl) (by kernel_rfl) (ok_spec_DivI _ _) (fun _ => rfl) fun r16 => ?_
        exact Run.rh (k := 0) (by kernel_rfl) (by kernel_rfl)
      · refine Run.bH (e := vIv) (gv := vIv) (by kernel_rfl) (by kernel_rfl) (ok_spec_CosI _) (fun _ => rfl) fun r17 => ?_
        refine Run.bH (e := vIv) (gv := vIv) (by kernel_rfl) (by kernel_rfl) (ok_spec_CosI _) (fun _ => rfl) fun r18 => ?_
        refine Run.bH (e := vIv) (gv := vIv) (by kernel_rfl) (by kernel_rfl) (ok_spec_SubI _ _) (fun _ => rfl) fun r19 => ?_
        refine Run.bH (e := vIv) (gv := vIv) (by kernel_rfl) (by kernel_rfl) (ok_spec_SubI _ _) (fun _ => rfl) fun r20 => ?_
        refine Run.bH (e := vIv) (gv := vIv) (by kernel_rfl) (by kernel_rfl) (ok_spec_DivI _ _) (fun _ => rfl) fun r21 => ?_
        exact Run.rh (k := 0) (by kernel_rfl) (by kernel_rfl)

theorem ok_spec_l19Known (a0 : Iv) : Fun Tryz.prog 71 [] #[vIv a0] (vT_Iv_I (F_spec_l19Known a0)) [] := by
  refine Fun.ofH 400 E_ok mixed Tryz.func71 (by kernel_rfl) (by kernel_rfl) ?_
  unfold F_spec_l19Known
  refine Run.bH (e := vB) (gv := vT_Iv_I) (by kernel_rfl) (by kernel_rfl) (ok_spec_l04Ok _) (fun _ => rfl) fun r1 => ?_
  refine Run.jH (gv := vT_Iv_I) (by kernel_rfl) (?_) (?_)
  · exact Run.rh (k := 0) (by kernel_rfl) (by kernel_rfl)
  · exact Run.rh (k := 0) (by kernel_rfl) (by kernel_rfl)

theorem ok_spec_ConicCone (a0 : Pj) : Fun Tryz.prog 20 [] #[vPj a0] (vT_Iv_I (F_spec_ConicCone a0)) [] := by
  refine Fun.ofH 400 E_ok mixed Tryz.func20 (by kernel_rfl) (by kernel_rfl) ?_
  unfold F_spec_ConicCone
  refine Run.bH (e := vB) (gv := vT_Iv_I) (by kernel_rfl) (by kernel_rfl) (ok_spec_l19Ok _) (fun _ => rfl) fun r1 => ?_
  refine Run.jH (gv := vT_Iv_I) (by kernel_rfl) (?_) (?_)
  · exact Run.rh (k := 0) (by kernel_rfl) (by kernel_rfl)
  · refine Run.bH (e := vIv) (gv := vT_Iv_I) (by kernel_rfl) (by kernel_rfl) (ok_spec_l19Cone _) (fun _ => rfl) fun r2 => ?_
    refine Run.bH (e := vT_Iv_I) (gv := vT_Iv_I) (by kernel_rfl) (by kernel_rfl) (ok_spec_l19Known _) (fun _ => rfl) fun r3 => ?_
    exact Run.rh (k := 0) (by kernel_rfl) (by kernel_rfl)

theorem ok_impl_within (a0 : I64) (a1 : I64) (a2 : I64) : Fun Tryz.prog 136 [] #[vI a0, vI a1, vI a2] (vB (F_impl_within a0 a1 a2)) [] := by
  refine Fun.ofH 400 E_ok mixed Tryz.func136 (by kernel_rfl) (by kernel_rfl) ?_
  unfold F_impl_within
  refine Run.jH (gv := vB) (by kernel_rfl) (?_) (?_)
  · refine Run.p [true, true, true] (by kernel_rfl) ?_
    exact Run.rh (k := 0) (by kernel_rfl) (by kernel_rfl)
  · refine Run.p [false, false, false] (by kernel_rfl) ?_
    exact Run.rh (k := 0) (by kernel_rfl) (by kernel_rfl)

theorem ok_impl_ValidPoint (a0 : Pt) : Fun Tryz.prog 98 [] #[vPt a0] (vB (F_impl_ValidPoint a0)) [] := by
  refine Fun.ofH 400 E_ok mixed Tryz.func98 (by kernel_rfl) (by kernel_rfl) ?_
  unfold F_impl_ValidPoint
  refine Run.bH (e := vB) (gv := vB) (by kernel_rfl) (by kernel_rfl) (ok_impl_within _ _ _) (fun _ => rfl) fun r1 => ?_
  refine Run.jH (gv := vB) (by kernel_rfl) (?_) (?_)
  · refine Run.p [true, true, true] (by kernel_rfl) ?_
    refine Run.jH (gv := vB) (by kernel_rfl) (?_) (?_)
    · refine Run.p [true, true, true] (by kernel_rfl) ?_
      exact Run.rh (k := 0) (by kernel_rfl) (by kernel_rfl)
    · refine Run.p [false, false, false] (by kernel_rfl) ?_
      exact Run.rh (k := 0) (by kernel_rfl) (by kernel_rfl)
  · refine Run.p [false, false, false, false, false, false, false] (by kernel_rfl) ?_
    exact Run.rh (k := 0) (by kernel_rfl) (by kernel_rfl)

theorem ok_impl_isStandard (a0 : I64) : Fun Tryz.prog 183 [] #[vI a0] (vB (F_impl_isStandard a0)) [] := by
  refine Fun.ofH 400 E_ok mixed Tryz.func183 (by kernel_rfl) (by kernel_rfl) ?_
  unfold F_impl_isStandard
  refine Run.bH (e := vB) (gv := vB) (by kernel_rfl) (by kernel_rfl) (ok_impl_within _ _ _) (fun _ => rfl) fun r1 => ?_
  exact Run.rh (k := 0) (by kernel_rfl) (by kernel_rfl)

theorem ok_impl_isAzimuthal (a0 : I64) : Fun Tryz.prog 132 [] #[vI a0] (vB (F_impl_isAzimuthal a0)) [] := by
  refine Fun.ofH 400 E_ok mixed Tryz.func132 (by kernel_rfl) (by kernel_rfl) ?_
  unfold F_impl_isAzimuthal
  refine Run.bH (e := vB) (gv := vB) (by kernel_rfl) (by kernel_rfl) (ok_impl_within _ _ _) (fun _ => rfl) fun r1 => ?_
  exact Run.rh (k := 0) (by kernel_rfl) (by kernel_rfl)

theorem ok_impl_isConic (a0 : I64) : Fun Tryz.prog 141 [] #[vI a0] (vB (F_impl_isConic a0)) [] := by
  refine Fun.ofH 400 E_ok mixed Tryz.func141 (by kernel_rfl) (by kernel_rfl) ?_
  unfold F_impl_isConic
  refine Run.bH (e := vB) (gv := vB) (by kernel_rfl) (by kernel_rfl) (ok_impl_within _ _ _) (fun _ => rfl) fun r1 => ?_
  exact Run.rh (k := 0) (by kernel_rfl) (by kernel_rfl)

theorem ok_impl_abs (a0 : I64) : Fun Tryz.prog 99 [] #[vI a0] (vI (F_impl_abs a0)) [] := by
  refine Fun.ofH 400 E_ok mixed Tryz.func99 (by kernel_rfl) (by kernel_rfl) ?_
  unfold F_impl_abs
  exact Run.rh (k := 0) (by kernel_rfl) (by kernel_rfl)

theorem ok_impl_ValidProjection (a0 : Pj) : Fun Tryz.prog 120 [] #[vPj a0] (vB (F_impl_ValidProjection a0)) [] := by
  refine Fun.ofH 400 E_ok mixed Tryz.func120 (by kernel_rfl) (by kernel_rfl) ?_
  unfold F_impl_ValidProjection
  refine Run.bH (e := vB) (gv := vB) (by kernel_rfl) (by kernel_rfl) (ok_impl_within _ _ _) (fun _ => rfl) fun r1 => ?_
  refine Run.jH (gv := vB) (by kernel_rfl) (?_) (?_)
  · refine Run.p [true, true, true, true, true, true, true, true, true, true, true, true, true, true, true, true, true, true] (by kernel_rfl) ?_
    exact Run.rh (k := 0) (by kernel_rfl) (by kernel_rfl)
  · refine Run.p [false, false, false, false, false] (by kernel_rfl) ?_
    refine Run.bH (e := vB) (gv := vB) (by kernel_rfl) (by kernel_rfl) (ok_impl_ValidPoint _) (fun _ => rfl) fun r2 => ?_
    refine Run.p [false, false] (by kernel_rfl) ?_
    refine Run.jH (gv := vB) (by kernel_rfl) (?_) (?_)
    · refine Run.p [true, true, true, true, true, true, true, true, true, true] (by kernel_rfl) ?_
      exact Run.rh (k := 0) (by kernel_rfl) (by kernel_rfl)
    · refine Run.p [false, false] (by kernel_rfl) ?_
      refine Run.bH (e := vB) (gv := vB) (by kernel_rfl) (by kernel_rfl) (ok_impl_isStandard _) (fun _ => rfl) fun r3 => ?_
      refine Run.p [false, false] (by kernel_rfl) ?_
      refine Run.jH (gv := vB) (by kernel_rfl) (?_) (?_)
      · refine Run.p [true, true, true, true, true] (by kernel_rfl) ?_
        exact Run.rh (k := 0) (by kernel_rfl) (by kernel_rfl)
      · refine Run.p [false, false] (by kernel_rfl) ?_
        refine Run.bH (e := vB) (gv := vB) (by kernel_rfl) (by kernel_rfl) (ok_impl_isStandard _) (fun _ => rfl) fun r4 => ?_
        refine Run.p [false, false] (by kernel_rfl) ?_
        refine Run.jH (gv := vB) (by kernel_rfl) (?_) (?_)
        · exact Run.rh (k := 0) (by kernel_rfl) (by kernel_rfl)
        · refine Run.bH (e := vB) (gv := vB) (by kernel_rfl) (by kernel_rfl) (ok_impl_isAzimuthal _) (fun _ => rfl) fun r5 => ?_
          refine Run.jH (gv := vB) (by kernel_rfl) (?_) (?_)
          · refine Run.p [true, true, true, true, true, true, true] (by kernel_rfl) ?_
            refine Run.bH (e := vB) (gv := vB) (by kernel_rfl) (by kernel_rfl) (ok_impl_isConic _) (fun _ => rfl) fun r6 => ?_
            refine Run.jH (gv := vB) (by kernel_rfl) (?_) (?_)
            · refine Run.p [true, true, true, true, true, true, true, false, false, false, false, false, false, false, false, false, false, false, false, false, false, false, false] (by kernel_rfl) ?_
              refine Run.bH (e := vB) (gv := vB) (by kernel_rfl) (by kernel_rfl) (ok_impl_isConic _) (fun _ => rfl) fun r7 => ?_
              refine Run.p [false, false] (by kernel_rfl) ?_
              refine Run.jH (gv := vB) (by kernel_rfl) (?_) (?_)
              · refine Run.p [true, true, false, true, false] (by kernel_rfl) ?_
                refine Run.jH (gv := vB) (by kernel_rfl) (?_) (?_)
                · exact Run.rh (k := 0) (by kernel_rfl) (by kernel_rfl)
                · refine Run.bH (e := vB) (gv := vB) (by kernel_rfl) (by kernel_rfl) (ok_impl_isConic _) (fun _ => rfl) fun r8 => ?_
                  refine Run.jH (gv := vB) (by kernel_rfl) (?_) (?_)
                  · refine Run.p [true, true, true, true, true, true, true] (by kernel_rfl) ?_
                    exact Run.rh (k := 0) (by kernel_rfl) (by kernel_rfl)
                  · refine Run.p [false, false, false, false, false] (by kernel_rfl) ?_
                    refine Run.bH (e := vI) (gv := vB) (by kernel_rfl) (by kernel_rfl) (ok_impl_abs _) (fun _ => rfl) fun r9 => ?_
                    refine Run.p [false, false] (by kernel_rfl) ?_
                    exact Run.rh (k := 0) (by kernel_rfl) (by kernel_rfl)
              · refine Run.p [false, false, false, false, false, false] (by kernel_rfl) ?_
                refine Run.bH (e := vB) (gv := vB) (by kernel_rfl) (by kernel_rfl) (ok_impl_isConic _) (fun _ => rfl) fun r10 => ?_
                refine Run.jH (gv := vB) (by kernel_rfl) (?_) (?_)
                · refine Run.p [true, true, true, true, true, true, true] (by kernel_rfl) ?_
                  exact Run.rh (k := 0) (by kernel_rfl) (by kernel_rfl)
                · refine Run.p [false, false, false, false, false] (by kernel_rfl) ?_
                  refine Run.bH (e := vI) (gv := vB) (by kernel_rfl) (by kernel_rfl) (ok_impl_abs _) (fun _ => rfl) fun r11 => ?_
                  refine Run.p [false, false] (by kernel_rfl) ?_
                  exact Run.rh (k := 0) (by kernel_rfl) (by kernel_rfl)
            · refine Run.p [false, false, false] (by kernel_rfl) ?_
              refine Run.jH (gv := vB) (by kernel_rfl) (?_) (?_)
              · refine Run.p [true, true, true, false, false, false, false, false, false, false, false, false, false, false, false, false, false, false, false] (by kernel_rfl) ?_
                refine Run.bH (e := vB) (gv := vB) (by kernel_rfl) (by kernel_rfl) (ok_impl_isConic _) (fun _ => rfl) fun r12 => ?_
                refine Run.p [false, false] (by kernel_rfl) ?_
                refine Run.jH (gv := vB) (by kernel_rfl) (?_) (?_)
                · refine Run.p [true, true, false, true, false] (by kernel_rfl) ?_
                  refine Run.jH (gv := vB) (by kernel_rfl) (?_) (?_)
                  · exact Run.rh (k := 0) (by kernel_rfl) (by kernel_rfl)
                  · refine Run.bH (e := vB) (gv := vB) (by kernel_rfl) (by kernel_rfl) (ok_impl_isConic _) (fun _ => rfl) fun r13 => ?_
                    refine Run.jH (gv := vB) (by kernel_rfl) (?_) (?_)
                    · refine Run.p [true, true, true, true, true, true, true] (by kernel_rfl) ?_
                      exact Run.rh (k := 0) (by kernel_rfl) (by kernel_rfl)
                    · refine Run.p [false, false, false, false, false] (by kernel_rfl) ?_
                      refine Run.bH (e := vI) (gv := vB) (by kernel_rfl) (by kernel_rfl) (ok_impl_abs _) (fun _ => rfl) fun r14 => ?_
                      refine Run.p [false, false] (by kernel_rfl) ?_
                      exact Run.rh (k := 0) (by kernel_rfl) (by kernel_rfl)
                · refine Run.p [false, false, false, false, false, false] (by kernel_rfl) ?_
                  refine Run.bH (e := vB) (gv := vB) (by kernel_rfl) (by kernel_rfl) (ok_impl_isConic _) (fun _ => rfl) fun r15 => ?_
                  refine Run.jH (gv := vB) (by kernel_rfl) (?_) (?_)
                  · refine Run.p [true, true, true, true, true, true, true] (by kernel_rfl) ?_
                    exact Run.rh (k := 0) (by kernel_rfl) (by kernel_rfl)
                  · refine Run.p [false, false, false, false, false] (by kernel_rfl) ?_
                    refine Run.bH (e := vI) (gv := vB) (by kernel_rfl) (by kernel_rfl) (ok_impl_abs _) (fun _ => rfl) fun r16 => ?_
                    refine Run.p [false, false] (by kernel_rfl) ?_
                    exact Run.rh (k := 0) (by kernel_rfl) (by kernel_rfl)
              · refine Run.p [false, false, false, false, false, false, false, false, false, false] (by kernel_rfl) ?_
                refine Run.jH (gv := vB) (by kernel_rfl) (?_) (?_)
                · refine Run.p [true, true, false, true, false] (by kernel_rfl) ?_
                  refine Run.jH (gv := vB) (by kernel_rfl) (?_) (?_)
                  · refine Run.p [true, true, true, true, true, true, true] (by kernel_rfl) ?_
                    exact Run.rh (k := 0) (by kernel_rfl) (by kernel_rfl)
                  · refine Run.p [false, false] (by kernel_rfl) ?_
                    refine Run.bH (e := vB) (gv := vB) (by kernel_rfl) (by kernel_rfl) (ok_impl_isConic _) (fun _ => rfl) fun r17 => ?_
                    refine Run.p [false, false] (by kernel_rfl) ?_
                    refine Run.jH (gv := vB) (by kernel_rfl) (?_) (?_)
                    · refine Run.p [true, true, false, true, false] (by kernel_rfl) ?_
                      refine Run.jH (gv := vB) (by kernel_rfl) (?_) (?_)
                      · exact Run.rh (k := 0) (by kernel_rfl) (by kernel_rfl)
                      · refine Run.bH (e := vB) (gv := vB) (by kernel_rfl) (by kernel_rfl) (ok_impl_isConic _) (fun _ => rfl) fun r18 => ?_
                        refine Run.jH (gv := vB) (by kernel_rfl) (?_) (?_)
                        · refine Run.p [true, true, true, true, true, true, true] (by kernel_rfl) ?_
                          exact Run.rh (k := 0) (by kernel_rfl) (by kernel_rfl)
                        · refine Run.p [false, false, false, false, false] (by kernel_rfl) ?_
                          refine Run.bH (e := vI) (gv := vB) (by kernel_rfl) (by kernel_rfl) (ok_impl_abs _) (fun _ => rfl) fun r19 => ?_
                          refine Run.p [false, false] (by kernel_rfl) ?_
                          exact Run.rh (k := 0) (by kernel_rfl) (by kernel_rfl)
                    · refine Run.p [false, false, false, false, false, false] (by kernel_rfl) ?_
                      refine Run.bH (e := vB) (gv := vB) (by kernel_rfl) (by kernel_rfl) (ok_impl_isConic _) (fun _ => rfl) fun r20 => ?_
                      refine Run.jH (gv := vB) (by kernel_rfl) (?_) (?_)
                      · refine Run.p [true, true, true, true, true, true, true] (by kernel_rfl) ?_
                        exact Run.rh (k := 0) (by kernel_rfl) (by kernel_rfl)
                      · refine Run.p [false, false, false, false, false] (by kernel_rfl) ?_
                        refine Run.bH (e := vI) (gv := vB) (by kernel_rfl) (by kernel_rfl) (ok_impl_abs _) (fun _ => rfl) fun r21 => ?_
                        refine Run.p [false, false] (by kernel_rfl) ?_
                        exact Run.rh (k := 0) (by kernel_rfl) (by kernel_rfl)
                · refine Run.p [false, false, false, false, false, false, false, false] (by kernel_rfl) ?_
                  refine Run.bH (e := vB) (gv := vB) (by kernel_rfl) (by kernel_rfl) (ok_impl_isConic _) (fun _ => rfl) fun r22 => ?_
                  refine Run.p [false, false] (by kernel_rfl) ?_
                  refine Run.jH (gv := vB) (by kernel_rfl) (?_) (?_)
                  · refine Run.p [true, true, false, true, false] (by kernel_rfl) ?_
                    refine Run.jH (gv := vB) (by kernel_rfl) (?_) (?_)
                    · exact Run.rh (k := 0) (by kernel_rfl) (by kernel_rfl)
                    · refine Run.bH (e := vB) (gv := vB) (by kernel_rfl) (by kernel_rfl) (ok_impl_isConic _) (fun _ => rfl) fun r23 => ?_
                      refine Run.jH (gv := vB) (by kernel_rfl) (?_) (?_)
                      · refine Run.p [true, true, true, true, true, true, true] (by kernel_rfl) ?_
                        exact Run.rh (k := 0) (by kernel_rfl) (by kernel_rfl)
                      · refine Run.p [false, false, false, false, false] (by kernel_rfl) ?_
                        refine Run.bH (e := vI) (gv := vB) (by kernel_rfl) (by kernel_rfl) (ok_impl_abs _) (fun _ => rfl) fun r24 => ?_
                        refine Run.p [false, false] (by kernel_rfl) ?_
                        exact Run.rh (k := 0) (by kernel_rfl) (by kernel_rfl)
                  · refine Run.p [false, false, false, false, false, false] (by kernel_rfl) ?_
                    refine Run.bH (e := vB) (gv := vB) (by kernel_rfl) (by kernel_rfl) (ok_impl_isConic _) (fun _ => rfl) fun r25 => ?_
                    refine Run.jH (gv := vB) (by kernel_rfl) (?_) (?_)
                    · refine Run.p [true, true, true, true, true, true, true] (by kernel_rfl) ?_
                      exact Run.rh (k := 0) (by kernel_rfl) (by kernel_rfl)
                    · refine Run.p [false, false, false, false, false] (by kernel_rfl) ?_
                      refine Run.bH (e := vI) (gv := vB) (by kernel_rfl) (by kernel_rfl) (ok_impl_abs _) (fun _ => rfl) fun r26 => ?_
                      refine Run.p [false, false] (by kernel_rfl) ?_
                      exact Run.rh (k := 0) (by kernel_rfl) (by kernel_rfl)
          · refine Run.p [false, false] (by kernel_rfl) ?_
            refine Run.bH (e := vB) (gv := vB) (by kernel_rfl) (by kernel_rfl) (ok_impl_isConic _) (fun _ => rfl) fun r27 => ?_
            refine Run.p [false] (by kernel_rfl) ?_
            refine Run.jH (gv := vB) (by kernel_rfl) (?_) (?_)
            · refine Run.p [true, true, true] (by kernel_rfl) ?_
              refine Run.bH (e := vB) (gv := vB) (by kernel_rfl) (by kernel_rfl) (ok_impl_isConic _) (fun _ => rfl) fun r28 => ?_
              refine Run.jH (gv := vB) (by kernel_rfl) (?_) (?_)
              · refine Run.p [true, true, true, true, true, true, true, false, false, false, false, false, false, false, false, false, false, false, false, false, false, false, false] (by kernel_rfl) ?_
                refine Run.bH (e := vB) (gv := vB) (by kernel_rfl) (by kernel_rfl) (ok_impl_isConic _) (fun _ => rfl) fun r29 => ?_
                refine Run.p [false, false] (by kernel_rfl) ?_
                refine Run.jH (gv := vB) (by kernel_rfl) (?_) (?_)
                · refine Run.p [true, true, false, true, false] (by kernel_rfl) ?_
                  refine Run.jH (gv := vB) (by kernel_rfl) (?_) (?_)
                  · exact Run.rh (k := 0) (by kernel_rfl) (by kernel_rfl)
                  · refine Run.bH (e := vB) (gv := vB) (by kernel_rfl) (by kernel_rfl) (ok_impl_isConic _) (fun _ => rfl) fun r30 => ?_
                    refine Run.jH (gv := vB) (by kernel_rfl) (?_) (?_)
                    · refine Run.p [true, true, true, true, true, true, true] (by kernel_rfl) ?_
                      exact Run.rh (k := 0) (by kernel_rfl) (by kernel_rfl)
                    · refine Run.p [false, false, false, false, false] (by kernel_rfl) ?_
                      refine Run.bH (e := vI) (gv := vB) (by kernel_rfl) (by kernel_rfl) (ok_impl_abs _) (fun _ => rfl) fun r31 => ?_
                      refine Run.p [false, false] (by kernel_rfl) ?_
                      exact Run.rh (k := 0) (by kernel_rfl) (by kernel_rfl)
                · refine Run.p [false, false, false, false, false, false] (by kernel_rfl) ?_
                  refine Run.bH (e := vB) (gv := vB) (by kernel_rfl) (by kernel_rfl) (ok_impl_isConic _) (fun _ => rfl) fun r32 => ?_
                  refine Run.jH (gv := vB) (by kernel_rfl) (?_) (?_)
                  · refine Run.p [true, true, true, true, true, true, true] (by kernel_rfl) ?_
                    exact Run.rh (k := 0) (by kernel_rfl) (by kernel_rfl)
                  · refine Run.p [false, false, false, false, false] (by kernel_rfl) ?_
                    refine Run.bH (e := vI) (gv := vB) (by kernel_rfl) (by kernel_rfl) (ok_impl_abs _) (fun _ => rfl) fun r33 => ?_
                    refine Run.p [false, false] (by kernel_rfl) ?_
                    exact Run.rh (k := 0) (by kernel_rfl) (by kernel_rfl)
              · refine Run.p [false, false, false] (by kernel_rfl) ?_
                refine Run.jH (gv := vB) (by kernel_rfl) (?_) (?_)
                · refine Run.p [true, true, true, false, false, false, false, false, false, false, false, false, false, false, false, false, false, false, false] (by kernel_rfl) ?_
                  refine Run.bH (e := vB) (gv := vB) (by kernel_rfl) (by kernel_rfl) (ok_impl_isConic _) (fun _ => rfl) fun r34 => ?_
                  refine Run.p [false, false] (by kernel_rfl) ?_
                  refine Run.jH (gv := vB) (by kernel_rfl) (?_) (?_)
                  · refine Run.p [true, true, false, true, false] (by kernel_rfl) ?_
                    refine Run.jH (gv := vB) (by kernel_rfl) (?_) (?_)
                    · exact Run.rh (k := 0) (by kernel_rfl) (by kernel_rfl)
                    · refine Run.bH (e := vB) (gv := vB) (by kernel_rfl) (by kernel_rfl) (ok_impl_isConic _) (fun _ => rfl) fun r35 => ?_
                      refine Run.jH (gv := vB) (by kernel_rfl) (?_) (?_)
                      · refine Run.p [true, true, true, true, true, true, true] (by kernel_rfl) ?_
                        exact Run.rh (k := 0) (by kernel_rfl) (by kernel_rfl)
                      · refine Run.p [false, false, false, false, false] (by kernel_rfl) ?_
                        refine Run.bH (e := vI) (gv := vB) (by kernel_rfl) (by kernel_rfl) (ok_impl_abs _) (fun _ => rfl) fun r36 => ?_
                        refine Run.p [false, false] (by kernel_rfl) ?_
                        exact Run.rh (k := 0) (by kernel_rfl) (by kernel_rfl)
                  · refine Run.p [false, false, false, false, false, false] (by kernel_rfl) ?_
                    refine Run.bH (e := vB) (gv := vB) (by kernel_rfl) (by kernel_rfl) (ok_impl_isConic _) (fun _ => rfl) fun r37 => ?_
                    refine Run.jH (gv := vB) (by kernel_rfl) (?_) (?_)
                    · refine Run.p [true, true, true, true, true, true, true] (by kernel_rfl) ?_
                      exact Run.rh (k := 0) (by kernel_rfl) (by kernel_rfl)
                    · refine Run.p [false, false, false, false, false] (by kernel_rfl) ?_
                      refine Run.bH (e := vI) (gv := vB) (by kernel_rfl) (by kernel_rfl) (ok_impl_abs _) (fun _ => rfl) fun r38 => ?_
                      refine Run.p [false, false] (by kernel_rfl) ?_
                      exact Run.rh (k := 0) (by kernel_rfl) (by kernel_rfl)
                · refine Run.p [false, false, false, false, false, false, false, false, false, false] (by kernel_rfl) ?_
                  refine Run.jH (gv := vB) (by kernel_rfl) (?_) (?_)
                  · refine Run.p [true, true, false, true, false] (by kernel_rfl) ?_
                    refine Run.jH (gv := vB) (by kernel_rfl) (?_) (?_)
                    · refine Run.p [true, true, true, true, true, true, true] (by kernel_rfl) ?_
                      exact Run.rh (k := 0) (by kernel_rfl) (by kernel_rfl)
                    · refine Run.p [false, false] (by kernel_rfl) ?_
                      refine Run.bH (e := vB) (gv := vB) (by kernel_rfl) (by kernel_rfl) (ok_impl_isConic _) (fun _ => rfl) fun r39 => ?_
                      refine Run.p [false, false] (by kernel_rfl) ?_
                      refine Run.jH (gv := vB) (by kernel_rfl) (?_) (?_)
                      · refine Run.p [true, true, false, true, false] (by kernel_rfl) ?_
                        refine Run.jH (gv := vB) (by kernel_rfl) (?_) (?_)
                        · exact Run.rh (k := 0) (by kernel_rfl) (by kernel_rfl)
                        · refine Run.bH (e := vB) (gv := vB) (by kernel_rfl) (by kernel_rfl) (ok_impl_isConic _) (fun _ => rfl) fun r40 => ?_
                          refine Run.jH (gv := vB) (by kernel_rfl) (?_) (?_)
                          · refine Run.p [true, true, true, true, true, true, true] (by kernel_rfl) ?_
                            exact Run.rh (k := 0) (by kernel_rfl) (by kernel_rfl)
                          · refine Run.p [false, false, false, false, false] (by kernel_rfl) ?_
                            refine Run.bH (e := vI) (gv := vB) (by kernel_rfl) (by kernel_rfl) (ok_impl_abs _) (fun _ => rfl) fun r41 => ?_
                            refine Run.p [false, false] (by kernel_rfl) ?_
                            exact Run.rh (k := 0) (by kernel_rfl) (by kernel_rfl)
                      · refine Run.p [false, false, false, false, false, false] (by kernel_rfl) ?_
                        refine Run.bH (e := vB) (gv := vB) (by kernel_rfl) (by kernel_rfl) (ok_impl_isConic _) (fun _ => rfl) fun r42 => ?_
                        refine Run.jH (gv := vB) (by kernel_rfl) (?_) (?_)
                        · refine Run.p [true, true, true, true, true, true, true] (by kernel_rfl) ?_
                          exact Run.rh (k := 0) (by kernel_rfl) (by kernel_rfl)
                        · refine Run.p [false, false, false, false, false] (by kernel_rfl) ?_
                          refine Run.bH (e := vI) (gv := vB) (by kernel_rfl) (by kernel_rfl) (ok_impl_abs _) (fun _ => rfl) fun r43 => ?_
                          refine Run.p [false, false] (by kernel_rfl) ?_
                          exact Run.rh (k := 0) (by kernel_rfl) (by kernel_rfl)
                  · refine Run.p [false, false, false, false, false, false, false, false] (by kernel_rfl) ?_
                    refine Run.bH (e := vB) (gv := vB) (by kernel_rfl) (by kernel_rfl) (ok_impl_isConic _) (fun _ => rfl) fun r44 => ?_
                    refine Run.p [false, false] (by kernel_rfl) ?_
                    refine Run.jH (gv := vB) (by kernel_rfl) (?_) (?_)
                    · refine Run.p [true, true, false, true, false] (by kernel_rfl) ?_
                      refine Run.jH (gv := vB) (by kernel_rfl) (?_) (?_)
                      · exact Run.rh (k := 0) (by kernel_rfl) (by kernel_rfl)
                      · refine Run.bH (e := vB) (gv := vB) (by kernel_rfl) (by kernel_rfl) (ok_impl_isConic _) (fun _ => rfl) fun r45 => ?_
                        refine Run.jH (gv := vB) (by kernel_rfl) (?_) (?_)
                        · refine Run.p [true, true, true, true, true, true, true] (by kernel_rfl) ?_
                          exact Run.rh (k := 0) (by kernel_rfl) (by kernel_rfl)
                        · refine Run.p [false, false, false, false, false] (by kernel_rfl) ?_
                          refine Run.bH (e := vI) (gv := vB) (by kernel_rfl) (by kernel_rfl) (ok_impl_abs _) (fun _ => rfl) fun r46 => ?_
                          refine Run.p [false, false] (by kernel_rfl) ?_
                          exact Run.rh (k := 0) (by kernel_rfl) (by kernel_rfl)
                    · refine Run.p [false, false, false, false, false, false] (by kernel_rfl) ?_
                      refine Run.bH (e := vB) (gv := vB) (by kernel_rfl) (by kernel_rfl) (ok_impl_isConic _) (fun _ => rfl) fun r47 => ?_
                      refine Run.jH (gv := vB) (by kernel_rfl) (?_) (?_)
                      · refine Run.p [true, true, true, true, true, true, true] (by kernel_rfl) ?_
                        exact Run.rh (k := 0) (by kernel_rfl) (by kernel_rfl)
                      · refine Run.p [false, false, false, false, false] (by kernel_rfl) ?_
                        refine Run.bH (e := vI) (gv := vB) (by kernel_rfl) (by kernel_rfl) (ok_impl_abs _) (fun _ => rfl) fun r48 => ?_
                        refine Run.p [false, false] (by kernel_rfl) ?_
                        exact Run.rh (k := 0) (by kernel_rfl) (by kernel_rfl)
            · refine Run.p [false, false, false] (by kernel_rfl) ?_
              refine Run.bH (e := vB) (gv := vB) (by kernel_rfl) (by kernel_rfl) (ok_impl_isConic _) (fun _ => rfl) fun r49 => ?_
              refine Run.jH (gv := vB) (by kernel_rfl) (?_) (?_)
              · refine Run.p [true, true, true, true, true, true, true] (by kernel_rfl) ?_
                refine Run.jH (gv := vB) (by kernel_rfl) (?_) (?_)
                · refine Run.p [true, true, true] (by kernel_rfl) ?_
                  refine Run.jH (gv := vB) (by kernel_rfl) (?_) (?_)
                  · refine Run.p [true, true, true, true, true, true, true, true, true, true, true, true] (by kernel_rfl) ?_
                    exact Run.rh (k := 0) (by kernel_rfl) (by kernel_rfl)
                  · refine Run.p [false, false, false, false, false, false, false, false, false, false, false] (by kernel_rfl) ?_
                    refine Run.bH (e := vB) (gv := vB) (by kernel_rfl) (by kernel_rfl) (ok_impl_isConic _) (fun _ => rfl) fun r50 => ?_
                    refine Run.p [false, false] (by kernel_rfl) ?_
                    refine Run.jH (gv := vB) (by kernel_rfl) (?_) (?_)
                    · refine Run.p [true, true, false, true, false] (by kernel_rfl) ?_
                      refine Run.jH (gv := vB) (by kernel_rfl) (?_) (?_)
                      · exact Run.rh (k := 0) (by kernel_rfl) (by kernel_rfl)
                      · refine Run.bH (e := vB) (gv := vB) (by kernel_rfl) (by kernel_rfl) (ok_impl_isConic _) (fun _ => rfl) fun r51 => ?_
                        refine Run.jH (gv := vB) (by kernel_rfl) (?_) (?_)
                        · refine Run.p [true, true, true, true, true, true, true] (by kernel_rfl) ?_
                          exact Run.rh (k := 0) (by kernel_rfl) (by kernel_rfl)
                        · refine Run.p [false, false, false, false, false] (by kernel_rfl) ?_
                          refine Run.bH (e := vI) (gv := vB) (by kernel_rfl) (by kernel_rfl) (ok_impl_abs _) (fun _ => rfl) fun r52 => ?_
                          refine Run.p [false, false] (by kernel_rfl) ?_
                          exact Run.rh (k := 0) (by kernel_rfl) (by kernel_rfl)
                    · refine Run.p [false, false, false, false, false, false] (by kernel_rfl) ?_
                      refine Run.bH (e := vB) (gv := vB) (by kernel_rfl) (by kernel_rfl) (ok_impl_isConic _) (fun _ => rfl) fun r53 => ?_
                      refine Run.jH (gv := vB) (by kernel_rfl) (?_) (?_)
                      · refine Run.p [true, true, true, true, true, true, true] (by kernel_rfl) ?_
                        exact Run.rh (k := 0) (by kernel_rfl) (by kernel_rfl)
                      · refine Run.p [false, false, false, false, false] (by kernel_rfl) ?_
                        refine Run.bH (e := vI) (gv := vB) (by kernel_rfl) (by kernel_rfl) (ok_impl_abs _) (fun _ => rfl) fun r54 => ?_
                        refine Run.p [false, false] (by kernel_rfl) ?_
                        exact Run.rh (k := 0) (by kernel_rfl) (by kernel_rfl)
                · refine Run.p [false, false, false, false, false, false, false, false, false, false, false, false, false, false, false] (by kernel_rfl) ?_
                  refine Run.bH (e := vB) (gv := vB) (by kernel_rfl) (by kernel_rfl) (ok_impl_isConic _) (fun _ => rfl) fun r55 => ?_
                  refine Run.p [false, false] (by kernel_rfl) ?_
                  refine Run.jH (gv := vB) (by kernel_rfl) (?_) (?_)
                  · refine Run.p [true, true, false, true, false] (by kernel_rfl) ?_
                    refine Run.jH (gv := vB) (by kernel_rfl) (?_) (?_)
                    · exact Run.rh (k := 0) (by kernel_rfl) (by kernel_rfl)
                    · refine Run.bH (e := vB) (gv := vB) (by kernel_rfl) (by kernel_rfl) (ok_impl_isConic _) (fun _ => rfl) fun r56 => ?_
                      refine Run.jH (gv := vB) (by kernel_rfl) (?_) (?_)
                      · refine Run.p [true, true, true, true, true, true, true] (by kernel_rfl) ?_
                        exact Run.rh (k := 0) (by kernel_rfl) (by kernel_rfl)
                      · refine Run.p [false, false, false, false, false] (by kernel_rfl) ?_
                        refine Run.bH (e := vI) (gv := vB) (by kernel_rfl) (by kernel_rfl) (ok_impl_abs _) (fun _ => rfl) fun r57 => ?_
                        refine Run.p [false, false] (by kernel_rfl) ?_
                        exact Run.rh (k := 0) (by kernel_rfl) (by kernel_rfl)
                  · refine Run.p [false, false, false, false, false, false] (by kernel_rfl) ?_
                    refine Run.bH (e := vB) (gv := vB) (by kernel_rfl) (by kernel_rfl) (ok_impl_isConic _) (fun _ => rfl) fun r58 => ?_
                    refine Run.jH (gv := vB) (by kernel_rfl) (?_) (?_)
                    · refine Run.p [true, true, true, true, true, true, true] (by kernel_rfl) ?_
                      exact Run.rh (k := 0) (by kernel_rfl) (by kernel_rfl)
                    · refine Run.p [false, false, false, false, false] (by kernel_rfl) ?_
                      refine Run.bH (e := vI) (gv := vB) (by kernel_rfl) (by kernel_rfl) (ok_impl_abs _) (fun _ => rfl) fun r59 => ?_
                      refine Run.p [false, false] (by kernel_rfl) ?_
                      exact Run.rh (k := 0) (by kernel_rfl) (by kernel_rfl)
              · refine Run.p [false, false, false] (by kernel_rfl) ?_
                refine Run.jH (gv := vB) (by kernel_rfl) (?_) (?_)
                · refine Run.p [true, true, true] (by kernel_rfl) ?_
                  refine Run.jH (gv := vB) (by kernel_rfl) (?_) (?_)
                  · refine Run.p [true, true, true] (by kernel_rfl) ?_
                    refine Run.jH (gv := vB) (by kernel_rfl) (?_) (?_)
                    · refine Run.p [true, true, true, true, true, true, true, true, true, true, true, true] (by kernel_rfl) ?_
                      exact Run.rh (k := 0) (by kernel_rfl) (by kernel_rfl)
                    · refine Run.p [false, false, false, false, false, false, false, false, false, false, false] (by kernel_rfl) ?_
                      refine Run.bH (e := vB) (gv := vB) (by kernel_rfl) (by kernel_rfl) (ok_impl_isConic _) (fun _ => rfl) fun r60 => ?_
                      refine Run.p [false, false] (by kernel_rfl) ?_
                      refine Run.jH (gv := vB) (by kernel_rfl) (?_) (?_)
                      · refine Run.p [true, true, false, true, false] (by kernel_rfl) ?_
                        refine Run.jH (gv := vB) (by kernel_rfl) (?_) (?_)
                        · exact Run.rh (k := 0) (by kernel_rfl) (by kernel_rfl)
                        · refine Run.bH (e := vB) (gv := vB) (by kernel_rfl) (by kernel_rfl) (ok_impl_isConic _) (fun _ => rfl) fun r61 => ?_
                          refine Run.jH (gv := vB) (by kernel_rfl) (?_) (?_)
                          · refine Run.p [true, true, true, true, true, true, true] (by kernel_rfl) ?_
                            exact Run.rh (k := 0) (by kernel_rfl) (by kernel_rfl)
                          · refine Run.p [false, false, false, false, false] (by kernel_rfl) ?_
                            refine Run.bH (e := vI) (gv := vB) (by kernel_rfl) (by kernel_rfl) (ok_impl_abs _) (fun _ => rfl) fun r62 => ?_
                            refine Run.p [false, false] (by kernel_rfl) ?_
                            exact Run.rh (k := 0) (by kernel_rfl) (by kernel_rfl)
                      · refine Run.p [false, false, false, false, false, false] (by kernel_rfl) ?_
                        refine Run.bH (e := vB) (gv := vB) (by kernel_rfl) (by kernel_rfl) (ok_impl_isConic _) (fun _ => rfl) fun r63 => ?_
                        refine Run.jH (gv := vB) (by kernel_rfl) (?_) (?_)
                        · refine Run.p [true, true, true, true, true, true, true] (by kernel_rfl) ?_
                          exact Run.rh (k := 0) (by kernel_rfl) (by kernel_rfl)
                        · refine Run.p [false, false, false, false, false] (by kernel_rfl) ?_
                          refine Run.bH (e := vI) (gv := vB) (by kernel_rfl) (by kernel_rfl) (ok_impl_abs _) (fun _ => rfl) fun r64 => ?_
                          refine Run.p [false, false] (by kernel_rfl) ?_
                          exact Run.rh (k := 0) (by kernel_rfl) (by kernel_rfl)
                  · refine Run.p [false, false, false, false, false, false, false, false, false, false, false, false, false, false, false] (by kernel_rfl) ?_
                    refine Run.bH (e := vB) (gv := vB) (by kernel_rfl) (by kernel_rfl) (ok_impl_isConic _) (fun _ => rfl) fun r65 => ?_
                    refine Run.p [false, false] (by kernel_rfl) ?_
                    refine Run.jH (gv := vB) (by kernel_rfl) (?_) (?_)
                    · refine Run.p [true, true, false, true, false] (by kernel_rfl) ?_
                      refine Run.jH (gv := vB) (by kernel_rfl) (?_) (?_)
                      · exact Run.rh (k := 0) (by kernel_rfl) (by kernel_rfl)
                      · refine Run.bH (e := vB) (gv := vB) (by kernel_rfl) (by kernel_rfl) (ok_impl_isConic _) (fun _ => rfl) fun r66 => ?_
                        refine Run.jH (gv := vB) (by kernel_rfl) (?_) (?_)
                        · refine Run.p [true, true, true, true, true, true, true] (by kernel_rfl) ?_
                          exact Run.rh (k := 0) (by kernel_rfl) (by kernel_rfl)
                        · refine Run.p [false, false, false, false, false] (by kernel_rfl) ?_
                          refine Run.bH (e := vI) (gv := vB) (by kernel_rfl) (by kernel_rfl) (ok_impl_abs _) (fun _ => rfl) fun r67 => ?_
                          refine Run.p [false, false] (by kernel_rfl) ?_
                          exact Run.rh (k := 0) (by kernel_rfl) (by kernel_rfl)
                    · refine Run.p [false, false, false, false, false, false] (by kernel_rfl) ?_
                      refine Run.bH (e := vB) (gv := vB) (by kernel_rfl) (by kernel_rfl) (ok_impl_isConic _) (fun _ => rfl) fun r68 => ?_
                      refine Run.jH (gv := vB) (by kernel_rfl) (?_) (?_)
                      · refine Run.p [true, true, true, true, true, true, true] (by kernel_rfl) ?_
                        exact Run.rh (k := 0) (by kernel_rfl) (by kernel_rfl)
                      · refine Run.p [false, false, false, false, false] (by kernel_rfl) ?_
                        refine Run.bH (e := vI) (gv := vB) (by kernel_rfl) (by kernel_rfl) (ok_impl_abs _) (fun _ => rfl) fun r69 => ?_
                        refine Run.p [false, false] (by kernel_rfl) ?_
                        exact Run.rh (k := 0) (by kernel_rfl) (by kernel_rfl)
                · refine Run.p [false, false, false] (by kernel_rfl) ?_
                  refine Run.jH (gv := vB) (by kernel_rfl) (?_) (?_)
                  · refine Run.p [true, true, true] (by kernel_rfl) ?_
                    refine Run.jH (gv := vB) (by kernel_rfl) (?_) (?_)
                    · refine Run.p [true, true, true, true, true, true, true, true, true, true, true, true] (by kernel_rfl) ?_
                      exact Run.rh (k := 0) (by kernel_rfl) (by kernel_rfl)
                    · refine Run.p [false, false] (by kernel_rfl) ?_
                      refine Run.jH (gv := vB) (by kernel_rfl) (?_) (?_)
                      · refine Run.p [true, true, false, true, false] (by kernel_rfl) ?_
                        refine Run.jH (gv := vB) (by kernel_rfl) (?_) (?_)
                        · refine Run.p [true, true, true, true, true, true, true] (by kernel_rfl) ?_
                          exact Run.rh (k := 0) (by kernel_rfl) (by kernel_rfl)
                        · refine Run.p [false, false] (by kernel_rfl) ?_
                          refine Run.bH (e := vB) (gv := vB) (by kernel_rfl) (by kernel_rfl) (ok_impl_isConic _) (fun _ => rfl) fun r70 => ?_
                          refine Run.p [false, false] (by kernel_rfl) ?_
                          refine Run.jH (gv := vB) (by kernel_rfl) (?_) (?_)
                          · refine Run.p [true, true, false, true, false] (by kernel_rfl) ?_
                            refine Run.jH (gv := vB) (by kernel_rfl) (?_) (?_)
                            · exact Run.rh (k := 0) (by kernel_rfl) (by kernel_rfl)
                            · refine Run.bH (e := vB) (gv := vB) (by kernel_rfl) (by kernel_rfl) (ok_impl_isConic _) (fun _ => rfl) fun r71 => ?_
                              refine Run.jH (gv := vB) (by kernel_rfl) (?_) (?_)
                              · refine Run.p [true, true, true, true, true, true, true] (by kernel_rfl) ?_
                                exact Run.rh (k := 0) (by kernel_rfl) (by kernel_rfl)
                              · refine Run.p [false, false, false, false, false] (by kernel_rfl) ?_
                                refine Run.bH (e := vI) (gv := vB) (by kernel_rfl) (by kernel_rfl) (ok_impl_abs _) (fun _ => rfl) fun r72 => ?_
                                refine Run.p [false, false] (by kernel_rfl) ?_
                                exact Run.rh (k := 0) (by kernel_rfl) (by kernel_rfl)
                          · refine Run.p [false, false, false, false, false, false] (by kernel_rfl) ?_
                            refine Run.bH (e := vB) (gv := vB) (by kernel_rfl) (by kernel_rfl) (ok_impl_isConic _) (fun _ => rfl) fun r73 => ?_
                            refine Run.jH (gv := vB) (by kernel_rfl) (?_) (?_)
                            · refine Run.p [true, true, true, true, true, true, true] (by kernel_rfl) ?_
                              exact Run.rh (k := 0) (by kernel_rfl) (by kernel_rfl)
                            · refine Run.p [false, false, false, false, false] (by kernel_rfl) ?_
                              refine Run.bH (e := vI) (gv := vB) (by kernel_rfl) (by kernel_rfl) (ok_impl_abs _) (fun _ => rfl) fun r74 => ?_
                              refine Run.p [false, false] (by kernel_rfl) ?_
                              exact Run.rh (k := 0) (by kernel_rfl) (by kernel_rfl)
                      · refine Run.p [false, false, false, false, false, false, false, false] (by kernel_rfl) ?_
                        refine Run.bH (e := vB) (gv := vB) (by kernel_rfl) (by kernel_rfl) (ok_impl_isConic _) (fun _ => rfl) fun r75 => ?_
                        refine Run.p [false, false] (by kernel_rfl) ?_
                        refine Run.jH (gv := vB) (by kernel_rfl) (?_) (?_)
                        · refine Run.p [true, true, false, true, false] (by kernel_rfl) ?_
                          refine Run.jH (gv := vB) (by kernel_rfl) (?_) (?_)
                          · exact Run.rh (k := 0) (by kernel_rfl) (by kernel_rfl)
                          · refine Run.bH (e := vB) (gv := vB) (by kernel_rfl) (by kernel_rfl) (ok_impl_isConic _) (fun _ => rfl) fun r76 => ?_
                            refine Run.jH (gv := vB) (by kernel_rfl) (?_) (?_)
                            · refine Run.p [true, true, true, true, true, true, true] (by kernel_rfl) ?_
                              exact Run.rh (k := 0) (by kernel_rfl) (by kernel_rfl)
                            · refine Run.p [false, false, false, false, false] (by kernel_rfl) ?_
                              refine Run.bH (e := vI) (gv := vB) (by kernel_rfl) (by kernel_rfl) (ok_impl_abs _) (fun _ => rfl) fun r77 => ?_
                              refine Run.p [false, false] (by kernel_rfl) ?_
                              exact Run.rh (k := 0) (by kernel_rfl) (by kernel_rfl)
                        · refine Run.p [false, false, false, false, false, false] (by kernel_rfl) ?_
                          refine Run.bH (e := vB) (gv := vB) (by kernel_rfl) (by kernel_rfl) (ok_impl_isConic _) (fun _ => rfl) fun r78 => ?_
                          refine Run.jH (gv := vB) (by kernel_rfl) (?_) (?_)
                          · refine Run.p [true, true, true, true, true, true, true] (by kernel_rfl) ?_
                            exact Run.rh (k := 0) (by kernel_rfl) (by kernel_rfl)
                          · refine Run.p [false, false, false, false, false] (by kernel_rfl) ?_
                            refine Run.bH (e := vI) (gv := vB) (by kernel_rfl) (by kernel_rfl) (ok_impl_abs _) (fun _ => rfl) fun r79 => ?_
                            refine Run.p [false, false] (by kernel_rfl) ?_
                            exact Run.rh (k := 0) (by kernel_rfl) (by kernel_rfl)
                  · refine Run.p [false, false, false, false, false, false] (by kernel_rfl) ?_
                    refine Run.jH (gv := vB) (by kernel_rfl) (?_) (?_)
                    · refine Run.p [true, true, false, true, false] (by kernel_rfl) ?_
                      refine Run.jH (gv := vB) (by kernel_rfl) (?_) (?_)
                      · refine Run.p [true, true, true, true, true, true, true] (by kernel_rfl) ?_
                        exact Run.rh (k := 0) (by kernel_rfl) (by kernel_rfl)
                      · refine Run.p [false, false] (by kernel_rfl) ?_
                        refine Run.bH (e := vB) (gv := vB) (by kernel_rfl) (by kernel_rfl) (ok_impl_isConic _) (fun _ => rfl) fun r80 => ?_
                        refine Run.p [false, false] (by kernel_rfl) ?_
                        refine Run.jH (gv := vB) (by kernel_rfl) (?_) (?_)
                        · refine Run.p [true, true, false, true, false] (by kernel_rfl) ?_
                          refine Run.jH (gv := vB) (by kernel_rfl) (?_) (?_)
                          · exact Run.rh (k := 0) (by kernel_rfl) (by kernel_rfl)
                          · refine Run.bH (e := vB) (gv := vB) (by kernel_rfl) (by kernel_rfl) (ok_impl_isConic _) (fun _ => rfl) fun r81 => ?_
                            refine Run.jH (gv := vB) (by kernel_rfl) (?_) (?_)
                            · refine Run.p [true, true, true, true, true, true, true] (by kernel_rfl) ?_
                              exact Run.rh (k := 0) (by kernel_rfl) (by kernel_rfl)
                            · refine Run.p [false, false, false, false, false] (by kernel_rfl) ?_
                              refine Run.bH (e := vI) (gv := vB) (by kernel_rfl) (by kernel_rfl) (ok_impl_abs _) (fun _ => rfl) fun r82 => ?_
                              refine Run.p [false, false] (by kernel_rfl) ?_
                              exact Run.rh (k := 0) (by kernel_rfl) (by kernel_rfl)
                        · refine Run.p [false, false, false, false, false, false] (by kernel_rfl) ?_
                          refine Run.bH (e := vB) (gv := vB) (by kernel_rfl) (by kernel_rfl) (ok_impl_isConic _) (fun _ => rfl) fun r83 => ?_
                          refine Run.jH (gv := vB) (by kernel_rfl) (?_) (?_)
                          · refine Run.p [true, true, true, true, true, true, true] (by kernel_rfl) ?_
                            exact Run.rh (k := 0) (by kernel_rfl) (by kernel_rfl)
                          · refine Run.p [false, false, false, false, false] (by kernel_rfl) ?_
                            refine Run.bH (e := vI) (gv := vB) (by kernel_rfl) (by kernel_rfl) (ok_impl_abs _) (fun _ => rfl) fun r84 => ?_
                            refine Run.p [false, false] (by kernel_rfl) ?_
                            exact Run.rh (k := 0) (by kernel_rfl) (by kernel_rfl)
                    · refine Run.p [false, false, false, false, false, false, false, false] (by kernel_rfl) ?_
                      refine Run.bH (e := vB) (gv := vB) (by kernel_rfl) (by kernel_rfl) (ok_impl_isConic _) (fun _ => rfl) fun r85 => ?_
                      refine Run.p [false, false] (by kernel_rfl) ?_
                      refine Run.jH (gv := vB) (by kernel_rfl) (?_) (?_)
                      · refine Run.p [true, true, false, true, false] (by kernel_rfl) ?_
                        refine Run.jH (gv := vB) (by kernel_rfl) (?_) (?_)
                        · exact Run.rh (k := 0) (by kernel_rfl) (by kernel_rfl)
                        · refine Run.bH (e := vB) (gv := vB) (by kernel_rfl) (by kernel_rfl) (ok_impl_isConic _) (fun _ => rfl) fun r86 => ?_
                          refine Run.jH (gv := vB) (by kernel_rfl) (?_) (?_)
                          · refine Run.p [true, true, true, true, true, true, true] (by kernel_rfl) ?_
                            exact Run.rh (k := 0) (by kernel_rfl) (by kernel_rfl)
                          · refine Run.p [false, false, false, false, false] (by kernel_rfl) ?_
                            refine Run.bH (e := vI) (gv := vB) (by kernel_rfl) (by kernel_rfl) (ok_impl_abs _) (fun _ => rfl) fun r87 => ?_
                            refine Run.p [false, false] (by kernel_rfl) ?_
                            exact Run.rh (k := 0) (by kernel_rfl) (by kernel_rfl)
                      · refine Run.p [false, false, false, false, false, false] (by kernel_rfl) ?_
                        refine Run.bH (e := vB) (gv := vB) (by kernel_rfl) (by kernel_rfl) (ok_impl_isConic _) (fun _ => rfl) fun r88 => ?_
                        refine Run.jH (gv := vB) (by kernel_rfl) (?_) (?_)
                        · refine Run.p [true, true, true, true, true, true, true] (by kernel_rfl) ?_
                          exact Run.rh (k := 0) (by kernel_rfl) (by kernel_rfl)
                        · refine Run.p [false, false, false, false, false] (by kernel_rfl) ?_
                          refine Run.bH (e := vI) (gv := vB) (by kernel_rfl) (by kernel_rfl) (ok_impl_abs _) (fun _ => rfl) fun r89 => ?_
                          refine Run.p [false, false] (by kernel_rfl) ?_
                          exact Run.rh (k := 0) (by kernel_rfl) (by kernel_rfl)

theorem ok_impl_Whole : Fun Tryz.prog 105 [] #[] (vIv (F_impl_Whole)) [] := by
  refine Fun.ofH 400 E_ok mixed Tryz.func105 (by kernel_rfl) (by kernel_rfl) ?_
  unfold F_impl_Whole
  exact Run.rh (k := 0) (by kernel_rfl) (by kernel_rfl)

theorem ok_impl_ValidInterval (a0 : Iv) : Fun Tryz.prog 169 [] #[vIv a0] (vB (F_impl_ValidInterval a0)) [] := by
  refine Fun.ofH 400 E_ok mixed Tryz.func169 (by kernel_rfl) (by kernel_rfl) ?_
  unfold F_impl_ValidInterval
  refine Run.jH (gv := vB) (by kernel_rfl) (?_) (?_)
  · refine Run.p [true, true, true, true, true] (by kernel_rfl) ?_
    refine Run.jH (gv := vB) (by kernel_rfl) (?_) (?_)
    · refine Run.p [true, true, true] (by kernel_rfl) ?_
      exact Run.rh (k := 0) (by kernel_rfl) (by kernel_rfl)
    · refine Run.p [false, false, false] (by kernel_rfl) ?_
      exact Run.rh (k := 0) (by kernel_rfl) (by kernel_rfl)
  · refine Run.p [false, false, false, false, false, false, false, false, false] (by kernel_rfl) ?_
    exact Run.rh (k := 0) (by kernel_rfl) (by kernel_rfl)

theorem ok_impl_IsWhole (a0 : Iv) : Fun Tryz.prog 102 [] #[vIv a0] (vB (F_impl_IsWhole a0)) [] := by
  refine Fun.ofH 400 E_ok mixed Tryz.func102 (by kernel_rfl) (by kernel_rfl) ?_
  unfold F_impl_IsWhole
  refine Run.bH (e := vB) (gv := vB) (by kernel_rfl) (by kernel_rfl) (ok_impl_ValidInterval _) (fun _ => rfl) fun r1 => ?_
  exact Run.rh (k := 0) (by kernel_rfl) (by kernel_rfl)

theorem ok_impl_NegI (a0 : Iv) : Fun Tryz.prog 134 [] #[vIv a0] (vIv (F_impl_NegI a0)) [] := by
  refine Fun.ofH 400 E_ok mixed Tryz.func134 (by kernel_rfl) (by kernel_rfl) ?_
  unfold F_impl_NegI
  refine Run.bH (e := vB) (gv := vIv) (by kernel_rfl) (by kernel_rfl) (ok_impl_IsWhole _) (fun _ => rfl) fun r1 => ?_
  refine Run.jH (gv := vIv) (by kernel_rfl) (?_) (?_)
  · refine Run.bH (e := vIv) (gv := vIv) (by kernel_rfl) (by kernel_rfl) (ok_impl_Whole) (fun _ => rfl) fun r2 => ?_
    exact Run.rh (k := 0) (by kernel_rfl) (by kernel_rfl)
  · exact Run.rh (k := 0) (by kernel_rfl) (by kernel_rfl)

theorem ok_bits_Mul64 (a0 : U64) (a1 : U64) : Fun Tryz.prog 239 [] #[vU a0, vU a1] (vT_U_U (F_bits_Mul64 a0 a1)) [] := by
  refine Fun.ofH 400 E_ok mixed Tryz.func239 (by kernel_rfl) (by kernel_rfl) ?_
  unfold F_bits_Mul64
  refine Run.p [true, true, true, true, true] (by kernel_rfl) ?_
  exact Run.rh (k := 0) (by kernel_rfl) (by kernel_rfl)

theorem ok_impl_WideMul (a0 : I64) (a1 : I64) : Fun Tryz.prog 190 [] #[vI a0, vI a1] (vWd (F_impl_WideMul a0 a1)) [] := by
  refine Fun.ofH 400 E_ok mixed Tryz.func190 (by kernel_rfl) (by kernel_rfl) ?_
  unfold F_impl_WideMul
  refine Run.bH (e := vT_U_U) (gv := vWd) (by kernel_rfl) (by kernel_rfl) (ok_bits_Mul64 _ _) (fun _ => rfl) fun r1 => ?_
  refine Run.jH (gv := vWd) (by kernel_rfl) (?_) (?_)
  · refine Run.jH (gv := vWd) (by kernel_rfl) (?_) (?_)
    · exact Run.rh (k := 0) (by kernel_rfl) (by kernel_rfl)
    · exact Run.rh (k := 0) (by kernel_rfl) (by kernel_rfl)
  · refine Run.jH (gv := vWd) (by kernel_rfl) (?_) (?_)
    · exact Run.rh (k := 0) (by kernel_rfl) (by kernel_rfl)
    · exact Run.rh (k := 0) (by kernel_rfl) (by kernel_rfl)

def ren : Shelf.Ren := ⟨fun n => if n = 129 then 289 else if n = 134 then 285 else 0, fun n => if n = 3 then 3 else if n = 4 then 4 else if n = 5 then 5 else if n = 9 then 9 else if n = 46 then 113 else if n = 53 then 102 else 0, fun n => n⟩
theorem lays134 : Lays.n134 Tryz.prog ren := { mixed := mixed, f129 := by kernel_rfl, f134 := by kernel_rfl, t3 := by kernel_rfl, a3 := fun w => by kernel_rfl, z3 := fun w => by kernel_rfl, v3 := fun w => by kernel_rfl, t4 := by kernel_rfl, a4 := fun w => by kernel_rfl, z4 := fun w => by kernel_rfl, v4 := fun w => by kernel_rfl, t5 := by kernel_rfl, a5 := fun w => by kernel_rfl, z5 := fun w => by kernel_rfl, v5 := fun w => by kernel_rfl, t9 := by kernel_rfl, a9 := fun w => by kernel_rfl, z9 := fun w => by kernel_rfl, v9 := fun w => by kernel_rfl, t46 := by kernel_rfl, a46 := fun w => by kernel_rfl, z46 := fun w => by kernel_rfl, v46 := fun w => by kernel_rfl, t53 := by kernel_rfl, a53 := fun w => by kernel_rfl, z53 := fun w => by kernel_rfl, v53 := fun w => by kernel_rfl }
theorem ok_bits_LeadingZeros64 (a0 : U64) : Fun Tryz.prog 285 [] #[vU a0] (vI (F_bits_LeadingZeros64 a0)) [] := by
  refine Fun.ofCalls Tryz.func285 (by kernel_rfl) (by kernel_rfl) (by kernel_rfl) (by kernel_rfl) fun w => ?_
  refine (Any.bits_LeadingZeros64 lays134 a0.val w a0.lo a0.hi).mono ?_
  rintro e w' ⟨rfl, rfl⟩
  have h := Lib.bitLen_le a0.val.toNat 64 (by have q0 := U64.lo a0; have q1 := U64.hi a0; omega) (by have q0 := U64.lo a0; have q1 := U64.hi a0; omega)
  have e : vI (F_bits_LeadingZeros64 a0) = .int .i64 (64 - (Lib.bitLen a0.val.toNat : Int)) := by
    show Value.int .i64 (w64 (64 - (Lib.bitLen a0.val.toNat : Int))).val = _
    rw [w64_val]
    congr 1
    omega
  exact ⟨by rw [e], rfl⟩

theorem ok_bits_Div64_L1 : ∀ (fu : Nat) (x_y : U64) (x_s : U64) (x_yn1 : U64) (x_yn0 : U64) (x_un0 : U64) (x_q1 : U64) (x_un21 : U64) (x_rhat : U64) (x_q0 : U64) (q0 : x_rhat.val < 4294967296) (q1 : 1 ≤ x_yn1.val ∧ x_yn1.val ≤ 4294967295) (hm : (4294967296 - x_rhat.val).toNat < fu) (t : Array Value) (ht : maskA t [0, 1, 3, 4, 5, 11, 12, 13, 19, 20, 21, 22, 23, 24, 25, 26, 27, 28, 29, 30, 31, 32, 33, 34, 35, 36, 37, 38, 39, 40, 41, 42, 43, 44, 45, 46, 47, 48, 49, 50, 51, 52, 53, 54, 55, 56, 57, 58, 59, 60, 61, 62, 63, 64, 65, 66, 67, 68, 69, 70, 71, 72, 73, 74, 75, 76, 77, 78, 79, 80, 81, 82, 83, 84, 85, 86, 87, 88, 89, 90, 91, 92, 93, 94, 95, 96, 97, 98, 99, 100, 101, 102, 103, 104, 105, 106, 107, 108, 109, 110, 111, 112, 113, 114, 115, 116, 117, 118, 119, 120, 121, 122, 123, 124, 125, 126, 127, 128, 129, 130, 131, 132, 133, 134] = #[undef, undef, .int .u64 x_y.val, undef, undef, undef, .int .u64 0, .int .u64 0, .int .u64 x_s.val, .int .u64 x_yn1.val, .int .u64 x_yn0.val, undef, undef, undef, .int .u64 x_un0.val, .int .u64 x_q1.val, .int .u64 x_rhat.val, .int .u64 x_un21.val, .int .u64 x_q0.val, undef, undef, undef, undef, undef, undef, undef, undef, undef, undef, undef, undef, undef, undef, undef, undef, undef, undef, undef, undef, undef, undef, undef, undef, undef, undef, undef, undef, undef, undef, undef, undef, undef, undef, undef, undef, undef, undef, undef, undef, undef, undef, undef, undef, undef, undef, undef, undef, undef, undef, undef, undef, undef, undef, undef, undef, undef, undef, undef, undef, undef, undef, undef, undef, undef, undef, undef, undef, undef, undef, undef, undef, undef, undef, undef, undef, undef, undef, undef, undef, undef, undef, undef, undef, undef, undef, undef, undef, undef, undef, undef, undef, undef, undef, undef, undef, undef, undef, undef, undef, undef, undef, undef, undef, undef, undef, undef, undef, undef, undef, undef, undef, undef, undef, undef, undef]), Cfg Tryz.prog 268 (loopAt Tryz.f268 1) t [] (RvH [] (vT_U_U (F_bits_Div64_L1 fu x_y x_s x_yn1 x_yn0 x_un0 x_q1 x_un21 x_rhat x_q0))) := by
  intro fu
  induction fu with
  | zero => intro x_y x_s x_yn1 x_yn0 x_un0 x_q1 x_un21 x_rhat x_q0 q0 q1 hm; exact absurd hm (Nat.not_lt_zero _)
  | succ fu ih =>
    intro x_y x_s x_yn1 x_yn0 x_un0 x_q1 x_un21 x_rhat x_q0 q0 q1 hm t ht
    refine Cfg.round E_ok mixed Tryz.func268 ht fun g => ?_
    unfold F_bits_Div64_L1
    refine Run.jk (gv := vT_U_U) (by kernel_rfl) (fun h5 => ?_) (fun h5 => ?_)
    · refine Run.p [true, true, true, true, true, true, true, true, true] (by kernel_rfl) ?_
      refine Run.jk (gv := vT_U_U) (by kernel_rfl) (fun h6 => ?_) (fun h6 => ?_)
      · refine Run.k (c := (decide (0 ≤ x_s.val))) (by kernel_rfl) (by first | (have n2 := norm_yn a2 (by have := a0.lo; omega); rw [← hr2] at n2; exact decide_eq_true (by omega)) | (have p1 := q1.1; exact decide_eq_true (by omega)) | exact decide_eq_true (U64.lo _) | exact decide_eq_true (by have := U64.lo a0; omega)) ?_
        exact Run.rh (k := 0) (by kernel_rfl) (by kernel_rfl)
      · exact Run.l (by kernel_rfl) (by kernel_rfl) (by kernel_rfl) (by kernel_rfl) (ih x_y x_s x_yn1 x_yn0 x_un0 x_q1 x_un21 (wu64 (x_rhat.val + x_yn1.val)) (wu64 (x_q0.val - 1)) (by first | exact q1 | (have p1 := q1.1; have p2 := q1.2; have p3 := x_rhat.lo; simp only [wu64_val, decide_eq_true_eq, decide_eq_false_iff_not] at *; omega)) (by first | exact q1 | (have p1 := q1.1; have p2 := q1.2; have p3 := x_rhat.lo; simp only [wu64_val, decide_eq_true_eq, decide_eq_false_iff_not] at *; omega)) (by first | exact q1 | (have p1 := q1.1; have p2 := q1.2; have p3 := x_rhat.lo; simp only [wu64_val, decide_eq_true_eq, decide_eq_false_iff_not] at *; omega)))
    · refine Run.p [false, false, false, false, false, false, false, false] (by kernel_rfl) ?_
      refine Run.jk (gv := vT_U_U) (by kernel_rfl) (fun h7 => ?_) (fun h7 => ?_)
      · refine Run.jk (gv := vT_U_U) (by kernel_rfl) (fun h8 => ?_) (fun h8 => ?_)
        · refine Run.k (c := (decide (0 ≤ x_s.val))) (by kernel_rfl) (by first | (have n2 := norm_yn a2 (by have := a0.lo; omega); rw [← hr2] at n2; exact decide_eq_true (by omega)) | (have p1 := q1.1; exact decide_eq_true (by omega)) | exact decide_eq_true (U64.lo _) | exact decide_eq_true (by have := U64.lo a0; omega)) ?_
          exact Run.rh (k := 0) (by kernel_rfl) (by kernel_rfl)
        · exact Run.l (by kernel_rfl) (by kernel_rfl) (by kernel_rfl) (by kernel_rfl) (ih x_y x_s x_yn1 x_yn0 x_un0 x_q1 x_un21 (wu64 (x_rhat.val + x_yn1.val)) (wu64 (x_q0.val - 1)) (by first | exact q1 | (have p1 := q1.1; have p2 := q1.2; have p3 := x_rhat.lo; simp only [wu64_val, decide_eq_true_eq, decide_eq_false_iff_not] at *; omega)) (by first | exact q1 | (have p1 := q1.1; have p2 := q1.2; have p3 := x_rhat.lo; simp only [wu64_val, decide_eq_true_eq, decide_eq_false_iff_not] at *; omega)) (by first | exact q1 | (have p1 := q1.1; have p2 := q1.2; have p3 := x_rhat.lo; simp only [wu64_val, decide_eq_true_eq, decide_eq_false_iff_not] at *; omega)))
      · refine Run.k (c := (decide (0 ≤ x_s.val))) (by kernel_rfl) (by first | (have n2 := norm_yn a2 (by have := a0.lo; omega); rw [← hr2] at n2; exact decide_eq_true (by omega)) | (have p1 := q1.1; exact decide_eq_true (by omega)) | exact decide_eq_true (U64.lo _) | exact decide_eq_true (by have := U64.lo a0; omega)) ?_
        exact Run.rh (k := 0) (by kernel_rfl) (by kernel_rfl)

theorem ok_bits_Div64_L0 : ∀ (fu : Nat) (x_y : U64) (x_s : U64) (x_yn1 : U64) (x_yn0 : U64) (x_un32 : U64) (x_un1 : U64) (x_un0 : U64) (x_q1 : U64) (x_rhat : U64) (q0 : x_rhat.val < 4294967296) (q1 : 1 ≤ x_yn1.val ∧ x_yn1.val ≤ 4294967295) (hm : (4294967296 - x_rhat.val).toNat < fu) (t : Array Value) (ht : maskA t [0, 1, 3, 4, 5, 12, 17, 18, 19, 20, 21, 22, 23, 24, 25, 26, 27, 28, 29, 30, 31, 32, 33, 34, 35, 36, 37, 38, 39, 40, 41, 42, 43, 44, 45, 46, 47, 48, 49, 50, 51, 52, 53, 54, 55, 56, 57, 58, 59, 60, 61, 62, 63, 64, 65, 66, 67, 68, 69, 70, 71, 72, 73, 74, 75, 76, 77, 78, 79, 80, 81, 82, 83, 84, 85, 86, 87, 88, 89, 90, 91, 92, 93, 94, 95, 96, 97, 98, 99, 100, 101, 102, 103, 104, 105, 106, 107, 108, 109, 110, 111, 112, 113, 114, 115, 116, 117, 118, 119, 120, 121, 122, 123, 124, 125, 126, 127, 128, 129, 130, 131, 132, 133, 134] = #[undef, undef, .int .u64 x_y.val, undef, undef, undef, .int .u64 0, .int .u64 0, .int .u64 x_s.val, .int .u64 x_yn1.val, .int .u64 x_yn0.val, .int .u64 x_un32.val, undef, .int .u64 x_un1.val, .int .u64 x_un0.val, .int .u64 x_q1.val, .int .u64 x_rhat.val, undef, undef, undef, undef, undef, undef, undef, undef, undef, undef, undef, undef, undef, undef, undef, undef, undef, undef, undef, undef, undef, undef, undef, undef, undef, undef, undef, undef, undef, undef, undef, undef, undef, undef, undef, undef, undef, undef, undef, undef, undef, undef, undef, undef, undef, undef, undef, undef, undef, undef, undef, undef, undef, undef, undef, undef, undef, undef, undef, undef, undef, undef, undef, undef, undef, undef, undef, undef, undef, undef, undef, undef, undef, undef, undef, undef, undef, undef, undef, undef, undef, undef, undef, undef, undef, undef, undef, undef, undef, undef, undef, undef, undef, undef, undef, undef, undef, undef, undef, undef, undef, undef, undef, undef, undef, undef, undef, undef, undef, undef, undef, undef, undef, undef, undef, undef, undef, undef]), Cfg Tryz.prog 268 (loopAt Tryz.f268 0) t [] (RvH [] (vT_U_U (F_bits_Div64_L0 fu x_y x_s x_yn1 x_yn0 x_un32 x_un1 x_un0 x_q1 x_rhat))) := by
  intro fu
  induction fu with
  | zero => intro x_y x_s x_yn1 x_yn0 x_un32 x_un1 x_un0 x_q1 x_rhat q0 q1 hm; exact absurd hm (Nat.not_lt_zero _)
  | succ fu ih =>
    intro x_y x_s x_yn1 x_yn0 x_un32 x_un1 x_un0 x_q1 x_rhat q0 q1 hm t ht
    refine Cfg.round E_ok mixed Tryz.func268 ht fun g => ?_
    unfold F_bits_Div64_L0
    refine Run.jk (gv := vT_U_U) (by kernel_rfl) (fun h3 => ?_) (fun h3 => ?_)
    · refine Run.p [true, true, true, true, true, true, true, true, true] (by kernel_rfl) ?_
      refine Run.jk (gv := vT_U_U) (by kernel_rfl) (fun h4 => ?_) (fun h4 => ?_)
      · refine Run.k (c := (decide (x_yn1.val ≠ 0))) (by kernel_rfl) (by first | (have n2 := norm_yn a2 (by have := a0.lo; omega); rw [← hr2] at n2; exact decide_eq_true (by omega)) | (have p1 := q1.1; exact decide_eq_true (by omega)) | exact decide_eq_true (U64.lo _) | exact decide_eq_true (by have := U64.lo a0; omega)) ?_
        exact Run.l (by kernel_rfl) (by kernel_rfl) (by kernel_rfl) (by kernel_rfl) (ok_bits_Div64_L1 ((4294967296 - (wu64 ((wu64 ((wu64 ((wu64 (x_un32.val * 4294967296)).val + x_un1.val)).val - (wu64 ((wu64 (x_q1.val - 1)).val * x_y.val)).val)).val - (wu64 ((wu64 (Int.tdiv (wu64 ((wu64 ((wu64 (x_un32.val * 4294967296)).val + x_un1.val)).val - (wu64 ((wu64 (x_q1.val - 1)).val * x_y.val)).val)).val x_yn1.val)).val * x_yn1.val)).val)).val).toNat + 1) x_y x_s x_yn1 x_yn0 x_un0 (wu64 (x_q1.val - 1)) (wu64 ((wu64 ((wu64 (x_un32.val * 4294967296)).val + x_un1.val)).val - (wu64 ((wu64 (x_q1.val - 1)).val * x_y.val)).val)) (wu64 ((wu64 ((wu64 ((wu64 (x_un32.val * 4294967296)).val + x_un1.val)).val - (wu64 ((wu64 (x_q1.val - 1)).val * x_y.val)).val)).val - (wu64 ((wu64 (Int.tdiv (wu64 ((wu64 ((wu64 (x_un32.val * 4294967296)).val + x_un1.val)).val - (wu64 ((wu64 (x_q1.val - 1)).val * x_y.val)).val)).val x_yn1.val)).val * x_yn1.val)).val)) (wu64 (Int.tdiv (wu64 ((wu64 ((wu64 (x_un32.val * 4294967296)).val + x_un1.val)).val - (wu64 ((wu64 (x_q1.val - 1)).val * x_y.val)).val)).val x_yn1.val)) (by first | exact rem_lt _ _ q1.1 q1.2 | exact q1 | exact Nat.lt_succ_self _) (by first | exact rem_lt _ _ q1.1 q1.2 | exact q1 | exact Nat.lt_succ_self _) (by first | exact rem_lt _ _ q1.1 q1.2 | exact q1 | exact Nat.lt_succ_self _))
      · exact Run.l (by kernel_rfl) (by kernel_rfl) (by kernel_rfl) (by kernel_rfl) (ih x_y x_s x_yn1 x_yn0 x_un32 x_un1 x_un0 (wu64 (x_q1.val - 1)) (wu64 (x_rhat.val + x_yn1.val)) (by first | exact q1 | (have p1 := q1.1; have p2 := q1.2; have p3 := x_rhat.lo; simp only [wu64_val, decide_eq_true_eq, decide_eq_false_iff_not] at *; omega)) (by first | exact q1 | (have p1 := q1.1; have p2 := q1.2; have p3 := x_rhat.lo; simp only [wu64_val, decide_eq_true_eq, decide_eq_false_iff_not] at *; omega)) (by first | exact q1 | (have p1 := q1.1; have p2 := q1.2; have p3 := x_rhat.lo; simp only [wu64_val, decide_eq_true_eq, decide_eq_false_iff_not] at *; omega)))
    · refine Run.p [false, false, false, false, false, false, false, false] (by kernel_rfl) ?_
      refine Run.jk (gv := vT_U_U) (by kernel_rfl) (fun h9 => ?_) (fun h9 => ?_)
      · refine Run.jk (gv := vT_U_U) (by kernel_rfl) (fun h10 => ?_) (fun h10 => ?_)
        · refine Run.k (c := (decide (x_yn1.val ≠ 0))) (by kernel_rfl) (by first | (have n2 := norm_yn a2 (by have := a0.lo; omega); rw [← hr2] at n2; exact decide_eq_true (by omega)) | (have p1 := q1.1; exact decide_eq_true (by omega)) | exact decide_eq_true (U64.lo _) | exact decide_eq_true (by have := U64.lo a0; omega)) ?_
          exact Run.l (by kernel_rfl) (by kernel_rfl) (by kernel_rfl) (by kernel_rfl) (ok_bits_Div64_L1 ((4294967296 - (wu64 ((wu64 ((wu64 ((wu64 (x_un32.val * 4294967296)).val + x_un1.val)).val - (wu64 ((wu64 (x_q1.val - 1)).val * x_y.val)).val)).val - (wu64 ((wu64 (Int.tdiv (wu64 ((wu64 ((wu64 (x_un32.val * 4294967296)).val + x_un1.val)).val - (wu64 ((wu64 (x_q1.val - 1)).val * x_y.val)).val)).val x_yn1.val)).val * x_yn1.val)).val)).val).toNat + 1) x_y x_s x_yn1 x_yn0 x_un0 (wu64 (x_q1.val - 1)) (wu64 ((wu64 ((wu64 (x_un32.val * 4294967296)).val + x_un1.val)).val - (wu64 ((wu64 (x_q1.val - 1)).val * x_y.val)).val)) (wu64 ((wu64 ((wu64 ((wu64 (x_un32.val * 4294967296)).val + x_un1.val)).val - (wu64 ((wu64 (x_q1.val - 1)).val * x_y.val)).val)).val - (wu64 ((wu64 (Int.tdiv (wu64 ((wu64 ((wu64 (x_un32.val * 4294967296)).val + x_un1.val)).val - (wu64 ((wu64 (x_q1.val - 1)).val * x_y.val)).val)).val x_yn1.val)).val * x_yn1.val)).val)) (wu64 (Int.tdiv (wu64 ((wu64 ((wu64 (x_un32.val * 4294967296)).val + x_un1.val)).val - (wu64 ((wu64 (x_q1.val - 1)).val * x_y.val)).val)).val x_yn1.val)) (by first | exact rem_lt _ _ q1.1 q1.2 | exact q1 | exact Nat.lt_succ_self _) (by first | exact rem_lt _ _ q1.1 q1.2 | exact q1 | exact Nat.lt_succ_self _) (by first | exact rem_lt _ _ q1.1 q1.2 | exact q1 | exact Nat.lt_succ_self _))
        · exact Run.l (by kernel_rfl) (by kernel_rfl) (by kernel_rfl) (by kernel_rfl) (ih x_y x_s x_yn1 x_yn0 x_un32 x_un1 x_un0 (wu64 (x_q1.val - 1)) (wu64 (x_rhat.val + x_yn1.val)) (by first | exact q1 | (have p1 := q1.1; have p2 := q1.2; have p3 := x_rhat.lo; simp only [wu64_val, decide_eq_true_eq, decide_eq_false_iff_not] at *; omega)) (by first | exact q1 | (have p1 := q1.1; have p2 := q1.2; have p3 := x_rhat.lo; simp only [wu64_val, decide_eq_true_eq, decide_eq_false_iff_not] at *; omega)) (by first | exact q1 | (have p1 := q1.1; have p2 := q1.2; have p3 := x_rhat.lo; simp only [wu64_val, decide_eq_true_eq, decide_eq_false_iff_not] at *; omega)))
      · refine Run.k (c := (decide (x_yn1.val ≠ 0))) (by kernel_rfl) (by first | (have n2 := norm_yn a2 (by have := a0.lo; omega); rw [← hr2] at n2; exact decide_eq_true (by omega)) | (have p1 := q1.1; exact decide_eq_true (by omega)) | exact decide_eq_true (U64.lo _) | exact decide_eq_true (by have := U64.lo a0; omega)) ?_
        exact Run.l (by kernel_rfl) (by kernel_rfl) (by kernel_rfl) (by kernel_rfl) (ok_bits_Div64_L1 ((4294967296 - (wu64 ((wu64 ((wu64 ((wu64 (x_un32.val * 4294967296)).val + x_un1.val)).val - (wu64 (x_q1.val * x_y.val)).val)).val - (wu64 ((wu64 (Int.tdiv (wu64 ((wu64 ((wu64 (x_un32.val * 4294967296)).val + x_un1.val)).val - (wu64 (x_q1.val * x_y.val)).val)).val x_yn1.val)).val * x_yn1.val)).val)).val).toNat + 1) x_y x_s x_yn1 x_yn0 x_un0 x_q1 (wu64 ((wu64 ((wu64 (x_un32.val * 4294967296)).val + x_un1.val)).val - (wu64 (x_q1.val * x_y.val)).val)) (wu64 ((wu64 ((wu64 ((wu64 (x_un32.val * 4294967296)).val + x_un1.val)).val - (wu64 (x_q1.val * x_y.val)).val)).val - (wu64 ((wu64 (Int.tdiv (wu64 ((wu64 ((wu64 (x_un32.val * 4294967296)).val + x_un1.val)).val - (wu64 (x_q1.val * x_y.val)).val)).val x_yn1.val)).val * x_yn1.val)).val)) (wu64 (Int.tdiv (wu64 ((wu64 ((wu64 (x_un32.val * 4294967296)).val + x_un1.val)).val - (wu64 (x_q1.val * x_y.val)).val)).val x_yn1.val)) (by first | exact rem_lt _ _ q1.1 q1.2 | exact q1 | exact Nat.lt_succ_self _) (by first | exact rem_lt _ _ q1.1 q1.2 | exact q1 | exact Nat.lt_succ_self _) (by first | exact rem_lt _ _ q1.1 q1.2 | exact q1 | exact Nat.lt_succ_self _))

theorem ok_bits_Div64 (a0 : U64) (a1 : U64) (a2 : U64) (p0 : a0.val < a2.val) : Fun Tryz.prog 268 [] #[vU a0, vU a1, vU a2] (vT_U_U (F_bits_Div64 a0 a1 a2)) [] := by
  refine Fun.ofH 400 E_ok mixed Tryz.func268 (by kernel_rfl) (by kernel_rfl) ?_
  unfold F_bits_Div64
  refine Run.kn (c := (a2.val == 0)) (by kernel_rfl) (by have q := a0.lo; simp; omega) ?_
  refine Run.kn (c := (decide (a2.val ≤ a0.val))) (by kernel_rfl) (by simp; omega) ?_
  refine Run.jk (gv := vT_U_U) (by kernel_rfl) (fun h1 => ?_) (fun h1 => ?_)
  · refine Run.k (c := (decide (a2.val ≠ 0))) (by kernel_rfl) (by first | (have n2 := norm_yn a2 (by have := a0.lo; omega); rw [← hr2] at n2; exact decide_eq_true (by omega)) | (have p1 := q1.1; exact decide_eq_true (by omega)) | exact decide_eq_true (U64.lo _) | exact decide_eq_true (by have := U64.lo a0; omega)) ?_
    refine Run.k (c := (decide (a2.val ≠ 0))) (by kernel_rfl) (by first | (have n2 := norm_yn a2 (by have := a0.lo; omega); rw [← hr2] at n2; exact decide_eq_true (by omega)) | (have p1 := q1.1; exact decide_eq_true (by omega)) | exact decide_eq_true (U64.lo _) | exact decide_eq_true (by have := U64.lo a0; omega)) ?_
    exact Run.rh (k := 0) (by kernel_rfl) (by kernel_rfl)
  · refine Run.bk (e := vI) (gv := vT_U_U) (by kernel_rfl) (by kernel_rfl) (ok_bits_LeadingZeros64 _) (fun _ => rfl) fun r2 hr2 => ?_
    refine Run.k (c := (decide (0 ≤ (wu64 r2.val).val))) (by kernel_rfl) (by first | (have n2 := norm_yn a2 (by have := a0.lo; omega); rw [← hr2] at n2; exact decide_eq_true (by omega)) | (have p1 := q1.1; exact decide_eq_true (by omega)) | exact decide_eq_true (U64.lo _) | exact decide_eq_true (by have := U64.lo a0; omega)) ?_
    refine Run.p [true] (by kernel_rfl) ?_
    refine Run.k (c := (decide (0 ≤ (wu64 r2.val).val))) (by kernel_rfl) (by first | (have n2 := norm_yn a2 (by have := a0.lo; omega); rw [← hr2] at n2; exact decide_eq_true (by omega)) | (have p1 := q1.1; exact decide_eq_true (by omega)) | exact decide_eq_true (U64.lo _) | exact decide_eq_true (by have := U64.lo a0; omega)) ?_
    refine Run.k (c := (decide (0 ≤ (wu64 (64 - (wu64 r2.val).val)).val))) (by kernel_rfl) (by first | (have n2 := norm_yn a2 (by have := a0.lo; omega); rw [← hr2] at n2; exact decide_eq_true (by omega)) | (have p1 := q1.1; exact decide_eq_true (by omega)) | exact decide_eq_true (U64.lo _) | exact decide_eq_true (by have := U64.lo a0; omega)) ?_
    refine Run.k (c := (decide (0 ≤ (wu64 r2.val).val))) (by kernel_rfl) (by first | (have n2 := norm_yn a2 (by have := a0.lo; omega); rw [← hr2] at n2; exact decide_eq_true (by omega)) | (have p1 := q1.1; exact decide_eq_true (by omega)) | exact decide_eq_true (U64.lo _) | exact decide_eq_true (by have := U64.lo a0; omega)) ?_
    refine Run.p [true] (by kernel_rfl) ?_
    refine Run.k (c := (decide ((ishr (ishl .u64 a2.val (wu64 r2.val).val) 32).val ≠ 0))) (by kernel_rfl) (by first | (have n2 := norm_yn a2 (by have := a0.lo; omega); rw [← hr2] at n2; exact decide_eq_true (by omega)) | (have p1 := q1.1; exact decide_eq_true (by omega)) | exact decide_eq_true (U64.lo _) | exact decide_eq_true (by have := U64.lo a0; omega)) ?_
    exact Run.l (by kernel_rfl) (by kernel_rfl) (by kernel_rfl) (by kernel_rfl) (ok_bits_Div64_L0 ((4294967296 - (wu64 ((ior .u64 (ishl .u64 a0.val (wu64 r2.val).val).val (ishr a1 (wu64 (64 - (wu64 r2.val).val)).val).val).val - (wu64 ((wu64 (Int.tdiv (ior .u64 (ishl .u64 a0.val (wu64 r2.val).val).val (ishr a1 (wu64 (64 - (wu64 r2.val).val)).val).val).val (ishr (ishl .u64 a2.val (wu64 r2.val).val) 32).val)).val * (ishr (ishl .u64 a2.val (wu64 r2.val).val) 32).val)).val)).val).toNat + 1) (ishl .u64 a2.val (wu64 r2.val).val) (wu64 r2.val) (ishr (ishl .u64 a2.val (wu64 r2.val).val) 32) (iand .u64 (ishl .u64 a2.val (wu64 r2.val).val).val 4294967295) (ior .u64 (ishl .u64 a0.val (wu64 r2.val).val).val (ishr a1 (wu64 (64 - (wu64 r2.val).val)).val).val) (ishr (ishl .u64 a1.val (wu64 r2.val).val) 32) (iand .u64 (ishl .u64 a1.val (wu64 r2.val).val).val 4294967295) (wu64 (Int.tdiv (ior .u64 (ishl .u64 a0.val (wu64 r2.val).val).val (ishr a1 (wu64 (64 - (wu64 r2.val).val)).val).val).val (ishr (ishl .u64 a2.val (wu64 r2.val).val) 32).val)) (wu64 ((ior .u64 (ishl .u64 a0.val (wu64 r2.val).val).val (ishr a1 (wu64 (64 - (wu64 r2.val).val)).val).val).val - (wu64 ((wu64 (Int.tdiv (ior .u64 (ishl .u64 a0.val (wu64 r2.val).val).val (ishr a1 (wu64 (64 - (wu64 r2.val).val)).val).val).val (ishr (ishl .u64 a2.val (wu64 r2.val).val) 32).val)).val * (ishr (ishl .u64 a2.val (wu64 r2.val).val) 32).val)).val)) (by have n2 := norm_yn a2 (by have := a0.lo; omega); rw [← hr2] at n2; first | exact rem_lt _ _ n2.1 n2.2 | exact n2 | exact Nat.lt_succ_self _) (by have n2 := norm_yn a2 (by have := a0.lo; omega); rw [← hr2] at n2; first | exact rem_lt _ _ n2.1 n2.2 | exact n2 | exact Nat.lt_succ_self _) (by have n2 := norm_yn a2 (by have := a0.lo; omega); rw [← hr2] at n2; first | exact rem_lt _ _ n2.1 n2.2 | exact n2 | exact Nat.lt_succ_self _))

theorem ok_impl_divided (a0 : U64) (a1 : U64) (a2 : U64) (p0 : a2.val ≠ 0) : Fun Tryz.prog 236 [] #[vU a0, vU a1, vU a2] (vT_U_U_U (F_impl_divided a0 a1 a2)) [] := by
  refine Fun.ofH 400 E_ok mixed Tryz.func236 (by kernel_rfl) (by kernel_rfl) ?_
  unfold F_impl_divided
  refine Run.k (c := (decide (a2.val ≠ 0))) (by kernel_rfl) (by first | exact decide_eq_true p0 | exact imod_lt _ _ p0) ?_
  refine Run.k (c := (decide (a2.val ≠ 0))) (by kernel_rfl) (by first | exact decide_eq_true p0 | exact imod_lt _ _ p0) ?_
  refine Run.bk (e := vT_U_U) (gv := vT_U_U_U) (by kernel_rfl) (by kernel_rfl) (ok_bits_Div64 _ _ _ (by first | exact decide_eq_true p0 | exact imod_lt _ _ p0)) (fun _ => rfl) fun r1 hr1 => ?_
  exact Run.rh (k := 0) (by kernel_rfl) (by kernel_rfl)

theorem ok_impl_Wide_negative (a0 : Wd) : Fun Tryz.prog 237 [] #[vWd a0] (vWd (F_impl_Wide_negative a0)) [] := by
  refine Fun.ofH 400 E_ok mixed Tryz.func237 (by kernel_rfl) (by kernel_rfl) ?_
  unfold F_impl_Wide_negative
  refine Run.k (c := (decide (0 ≤ (0 : Int)) && (decide (0 ≤ (a0.lo.val : Int)) && (decide ((a0.lo.val : Int) ≤ 18446744073709551615) && (decide (0 ≤ (0 : Int)) && decide ((0 : Int) ≤ 1)))))) (by kernel_rfl) (by simp only [Bool.and_eq_true, decide_eq_true_eq]; exact ⟨U64.lo (cu64 0), U64.lo a0.lo, U64.hi a0.lo, U64.lo (cu64 0), (by decide)⟩) ?_
  refine Run.k (c := (decide (0 ≤ (0 : Int)) && (decide (0 ≤ ((wu64 a0.hi.val).val : Int)) && (decide (((wu64 a0.hi.val).val : Int) ≤ 18446744073709551615) && (decide (0 ≤ ((sbb_hi (cu64 0) a0.lo (cu64 0)).val : Int)) && decide (((sbb_hi (cu64 0) a0.lo (cu64 0)).val : Int) ≤ 1)))))) (by kernel_rfl) (by simp only [Bool.and_eq_true, decide_eq_true_eq]; exact ⟨U64.lo (cu64 0), U64.lo (wu64 a0.hi.val), U64.hi (wu64 a0.hi.val), U64.lo (sbb_hi (cu64 0) a0.lo (cu64 0)), (sbb_hi_le _ _ _)⟩) ?_
  exact Run.rh (k := 0) (by kernel_rfl) (by kernel_rfl)

theorem ok_impl_WideDiv (a0 : Wd) (a1 : I64) : Fun Tryz.prog 189 [] #[vWd a0, vI a1] (vT_Wd_I_B (F_impl_WideDiv a0 a1)) [] := by
  refine Fun.ofH 400 E_ok mixed Tryz.func189 (by kernel_rfl) (by kernel_rfl) ?_
  unfold F_impl_WideDiv
  refine Run.jk (gv := vT_Wd_I_B) (by kernel_rfl) (fun h1 => ?_) (fun h1 => ?_)
  · exact Run.rh (k := 0) (by kernel_rfl) (by kernel_rfl)
  · refine Run.jk (gv := vT_Wd_I_B) (by kernel_rfl) (fun h2 => ?_) (fun h2 => ?_)
    · refine Run.bk (e := vT_U_U_U) (gv := vT_Wd_I_B) (by kernel_rfl) (by kernel_rfl) (ok_impl_divided _ _ _ (by have q := a1.hi; simp only [wu64_val, decide_eq_true_eq, decide_eq_false_iff_not] at *; omega)) (fun _ => rfl) fun r3 hr3 => ?_
      exact Run.rh (k := 0) (by kernel_rfl) (by kernel_rfl)
    · refine Run.bk (e := vWd) (gv := vT_Wd_I_B) (by kernel_rfl) (by kernel_rfl) (ok_impl_Wide_negative _) (fun _ => rfl) fun r4 hr4 => ?_
      refine Run.bk (e := vT_U_U_U) (gv := vT_Wd_I_B) (by kernel_rfl) (by kernel_rfl) (ok_impl_divided _ _ _ (by have q := a1.hi; simp only [wu64_val, decide_eq_true_eq, decide_eq_false_iff_not] at *; omega)) (fun _ => rfl) fun r5 hr5 => ?_
      refine Run.jk (gv := vT_Wd_I_B) (by kernel_rfl) (fun h6 => ?_) (fun h6 => ?_)
      · refine Run.bk (e := vWd) (gv := vT_Wd_I_B) (by kernel_rfl) (by kernel_rfl) (ok_impl_Wide_negative _) (fun _ => rfl) fun r7 hr7 => ?_
        exact Run.rh (k := 0) (by kernel_rfl) (by kernel_rfl)
      · refine Run.k (c := (decide (0 ≤ (r5.2.1.val : Int)) && (decide (0 ≤ (1 : Int)) && (decide (0 ≤ (0 : Int)) && decide ((0 : Int) ≤ 1))))) (by kernel_rfl) (by simp only [Bool.and_eq_true, decide_eq_true_eq]; exact ⟨U64.lo r5.2.1, U64.lo (cu64 1), U64.lo (cu64 0), (by decide)⟩) ?_
        refine Run.bk (e := vWd) (gv := vT_Wd_I_B) (by kernel_rfl) (by kernel_rfl) (ok_impl_Wide_negative _) (fun _ => rfl) fun r8 hr8 => ?_
        exact Run.rh (k := 0) (by kernel_rfl) (by kernel_rfl)

theorem ok_impl_WideOf (a0 : I64) : Fun Tryz.prog 240 [] #[vI a0] (vWd (F_impl_WideOf a0)) [] := by
  refine Fun.ofH 400 E_ok mixed Tryz.func240 (by kernel_rfl) (by kernel_rfl) ?_
  unfold F_impl_WideOf
  refine Run.p [true] (by kernel_rfl) ?_
  exact Run.rh (k := 0) (by kernel_rfl) (by kernel_rfl)

theorem ok_impl_WideInt (a0 : Wd) : Fun Tryz.prog 191 [] #[vWd a0] (vT_I_B (F_impl_WideInt a0)) [] := by
  refine Fun.ofH 400 E_ok mixed Tryz.func191 (by kernel_rfl) (by kernel_rfl) ?_
  unfold F_impl_WideInt
  refine Run.bH (e := vWd) (gv := vT_I_B) (by kernel_rfl) (by kernel_rfl) (ok_impl_WideOf _) (fun _ => rfl) fun r1 => ?_
  refine Run.jH (gv := vT_I_B) (by kernel_rfl) (?_) (?_)
  · exact Run.rh (k := 0) (by kernel_rfl) (by kernel_rfl)
  · exact Run.rh (k := 0) (by kernel_rfl) (by kernel_rfl)

theorem ok_impl_MulDivFloor (a0 : I64) (a1 : I64) (a2 : I64) : Fun Tryz.prog 137 [] #[vI a0, vI a1, vI a2] (vT_I_B (F_impl_MulDivFloor a0 a1 a2)) [] := by
  refine Fun.ofH 400 E_ok mixed Tryz.func137 (by kernel_rfl) (by kernel_rfl) ?_
  unfold F_impl_MulDivFloor
  refine Run.bH (e := vWd) (gv := vT_I_B) (by kernel_rfl) (by kernel_rfl) (ok_impl_WideMul _ _) (fun _ => rfl) fun r1 => ?_
  refine Run.bH (e := vT_Wd_I_B) (gv := vT_I_B) (by kernel_rfl) (by kernel_rfl) (ok_impl_WideDiv _ _) (fun _ => rfl) fun r2 => ?_
  refine Run.jH (gv := vT_I_B) (by kernel_rfl) (?_) (?_)
  · exact Run.rh (k := 0) (by kernel_rfl) (by kernel_rfl)
  · refine Run.bH (e := vT_I_B) (gv := vT_I_B) (by kernel_rfl) (by kernel_rfl) (ok_impl_WideInt _) (fun _ => rfl) fun r3 => ?_
    exact Run.rh (k := 0) (by kernel_rfl) (by kernel_rfl)

theorem ok_impl_RadiansOf_r : ∀ (fu : Nat) (a0 : I64) (hm : min (0 - a0.val).toNat 1 < fu), Fun Tryz.prog 69 [] #[vI a0] (vIv (F_impl_RadiansOf_r fu a0)) [] := by
  intro fu
  induction fu with
  | zero => intro a0 hm; exact absurd hm (Nat.not_lt_zero _)
  | succ fu ih =>
    intro a0 hm
    refine Fun.ofH 400 E_ok mixed Tryz.func69 (by kernel_rfl) (by kernel_rfl) ?_
    unfold F_impl_RadiansOf_r
    refine Run.bk (e := vB) (gv := vIv) (by kernel_rfl) (by kernel_rfl) (ok_impl_within _ _ _) (fun _ => rfl) fun r1 hr1 => ?_
    refine Run.jk (gv := vIv) (by kernel_rfl) (fun h2 => ?_) (fun h2 => ?_)
    · refine Run.bk (e := vIv) (gv := vIv) (by kernel_rfl) (by kernel_rfl) (ok_impl_Whole) (fun _ => rfl) fun r3 hr3 => ?_
      exact Run.rh (k := 0) (by kernel_rfl) (by kernel_rfl)
    · refine Run.jk (gv := vIv) (by kernel_rfl) (fun h4 => ?_) (fun h4 => ?_)
      · refine Run.bk (e := vIv) (gv := vIv) (by kernel_rfl) (by kernel_rfl) (ih (w64 (0 - a0.val)) (by rw [hr1] at h2; simp [F_impl_within, c64_val] at h2; simp only [w64_val, decide_eq_true_eq, decide_eq_false_iff_not] at *; omega)) (fun _ => rfl) fun r5 hr5 => ?_
        refine Run.bk (e := vIv) (gv := vIv) (by kernel_rfl) (by kernel_rfl) (ok_impl_NegI _) (fun _ => rfl) fun r6 hr6 => ?_
        exact Run.rh (k := 0) (by kernel_rfl) (by kernel_rfl)
      · refine Run.jk (gv := vIv) (by kernel_rfl) (fun h7 => ?_) (fun h7 => ?_)
        · exact Run.rh (k := 0) (by kernel_rfl) (by kernel_rfl)
        · refine Run.bk (e := vT_I_B) (gv := vIv) (by kernel_rfl) (by kernel_rfl) (ok_impl_MulDivFloor _ _ _) (fun _ => rfl) fun r8 hr8 => ?_
          refine Run.bk (e := vT_I_B) (gv := vIv) (by kernel_rfl) (by kernel_rfl) (ok_impl_MulDivFloor _ _ _) (fun _ => rfl) fun r9 hr9 => ?_
          exact Run.rh (k := 0) (by kernel_rfl) (by kernel_rfl)
theorem ok_impl_RadiansOf (a0 : I64) : Fun Tryz.prog 69 [] #[vI a0] (vIv (F_impl_RadiansOf a0)) [] := ok_impl_RadiansOf_r 2 a0 (by omega)

theorem ok_impl_isAngle (a0 : I64) : Fun Tryz.prog 220 [] #[vI a0] (vB (F_impl_isAngle a0)) [] := by
  refine Fun.ofH 400 E_ok mixed Tryz.func220 (by kernel_rfl) (by kernel_rfl) ?_
  unfold F_impl_isAngle
  refine Run.bH (e := vB) (gv := vB) (by kernel_rfl) (by kernel_rfl) (ok_impl_within _ _ _) (fun _ => rfl) fun r1 => ?_
  exact Run.rh (k := 0) (by kernel_rfl) (by kernel_rfl)

theorem ok_impl_areAngles (a0 : Iv) : Fun Tryz.prog 176 [] #[vIv a0] (vB (F_impl_areAngles a0)) [] := by
  refine Fun.ofH 400 E_ok mixed Tryz.func176 (by kernel_rfl) (by kernel_rfl) ?_
  unfold F_impl_areAngles
  refine Run.bH (e := vB) (gv := vB) (by kernel_rfl) (by kernel_rfl) (ok_impl_ValidInterval _) (fun _ => rfl) fun r1 => ?_
  refine Run.jH (gv := vB) (by kernel_rfl) (?_) (?_)
  · refine Run.p [true, true] (by kernel_rfl) ?_
    refine Run.bH (e := vB) (gv := vB) (by kernel_rfl) (by kernel_rfl) (ok_impl_isAngle _) (fun _ => rfl) fun r2 => ?_
    refine Run.p [true] (by kernel_rfl) ?_
    refine Run.jH (gv := vB) (by kernel_rfl) (?_) (?_)
    · refine Run.p [true, true] (by kernel_rfl) ?_
      refine Run.bH (e := vB) (gv := vB) (by kernel_rfl) (by kernel_rfl) (ok_impl_isAngle _) (fun _ => rfl) fun r3 => ?_
      refine Run.p [true] (by kernel_rfl) ?_
      exact Run.rh (k := 0) (by kernel_rfl) (by kernel_rfl)
    · refine Run.p [false, false, false] (by kernel_rfl) ?_
      exact Run.rh (k := 0) (by kernel_rfl) (by kernel_rfl)
  · refine Run.p [false, false, false, false, false, false, false] (by kernel_rfl) ?_
    exact Run.rh (k := 0) (by kernel_rfl) (by kernel_rfl)

theorem ok_impl_ring : Fun Tryz.prog 177 [] #[] (vIv (F_impl_ring)) [] := by
  refine Fun.ofH 400 E_ok mixed Tryz.func177 (by kernel_rfl) (by kernel_rfl) ?_
  unfold F_impl_ring
  exact Run.rh (k := 0) (by kernel_rfl) (by kernel_rfl)

end Go.Proofs.YtebaobmmnkebaaaGreat.Abs
