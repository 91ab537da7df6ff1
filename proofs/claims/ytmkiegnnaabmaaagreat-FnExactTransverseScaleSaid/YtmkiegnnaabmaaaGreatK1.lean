/- The program's functions are these; part 1 (written by w.py). -/
import Derived.Test.YtmkiegnnaabmaaaGreatK0
import Derived.Test.YtmkiegnnaabmaaaGreatF3
set_option linter.unusedVariables false
set_option linter.unusedSimpArgs false
namespace Go.Proofs.YtmkiegnnaabmaaaGreat.Abs
open Go Go.RowKit

theorem ok_spec_l20Solve_L0 : ∀ (fu : Nat) (a0 : I64) (a1 : I64) (r1 : Iv) (x_low : I64) (x_high : I64) (q0 : 0 ≤ x_low.val) (q1 : x_low.val ≤ x_high.val) (q2 : x_high.val ≤ 6746518853) (q3 : r1.hi.val = 6746518853) (hm : (x_high.val - x_low.val).toNat < fu) (t : Array Value) (ht : maskA t [2, 3, 8, 9, 10, 11, 12, 13, 14, 15, 16, 17, 18, 19, 20, 21, 22, 23, 24, 25, 26, 27, 28, 29, 30, 31, 32, 33, 34, 35, 36, 37, 38, 39, 40, 41, 42, 43, 44, 45, 46, 47, 48, 49, 50] = #[.int .i64 a0.val, .int .i64 a1.val, undef, undef, .pointer (some ⟨0, 0, none⟩), .int .i64 r1.hi.val, .int .i64 x_low.val, .int .i64 x_high.val, undef, undef, undef, undef, undef, undef, undef, undef, undef, undef, undef, undef, undef, undef, undef, undef, undef, undef, undef, undef, undef, undef, undef, undef, undef, undef, undef, undef, undef, undef, undef, undef, undef, undef, undef, undef, undef, undef, undef, undef, undef, undef, undef]), Cfg Tryz.prog 71 (loopAt Tryz.f71 0) t [(#[.int .i64 0, .int .i64 0], 23)] (RvH [] (vIv (F_spec_l20Solve_L0 fu a0 a1 r1 x_low x_high))) := by
  intro fu
  induction fu with
  | zero => intro a0 a1 r1 x_low x_high q0 q1 q2 q3 hm; exact absurd hm (Nat.not_lt_zero _)
  | succ fu ih =>
    intro a0 a1 r1 x_low x_high q0 q1 q2 q3 hm t ht
    refine Cfg.round E_ok mixed Tryz.func71 ht fun g => ?_
    unfold F_spec_l20Solve_L0
    refine Run.jk (gv := vIv) (by kernel_rfl) (fun h2 => ?_) (fun h2 => ?_)
    · refine Run.p [true] (by kernel_rfl) ?_
      refine Run.bk (e := vIv) (gv := vIv) (by kernel_rfl) (by kernel_rfl) (ok_spec_l20Left _ _) (fun _ => rfl) fun r3 hr3 => ?_
      refine Run.jk (gv := vIv) (by kernel_rfl) (fun h4 => ?_) (fun h4 => ?_)
      · exact Run.l (by kernel_rfl) (by kernel_rfl) (by kernel_rfl) (by kernel_rfl) (ih a0 a1 r1 (ishr (w64 (x_low.val + x_high.val)) 1) x_high (by first | exact Nat.lt_succ_self _ | (simp only [shr1_val, w64_val, c64_val, decide_eq_true_eq, decide_eq_false_iff_not, cond_true, cond_false] at *; omega)) (by first | exact Nat.lt_succ_self _ | (simp only [shr1_val, w64_val, c64_val, decide_eq_true_eq, decide_eq_false_iff_not, cond_true, cond_false] at *; omega)) (by first | exact Nat.lt_succ_self _ | (simp only [shr1_val, w64_val, c64_val, decide_eq_true_eq, decide_eq_false_iff_not, cond_true, cond_false] at *; omega)) (by first | exact Nat.lt_succ_self _ | (simp only [shr1_val, w64_val, c64_val, decide_eq_true_eq, decide_eq_false_iff_not, cond_true, cond_false] at *; omega)) (by first | exact Nat.lt_succ_self _ | (simp only [shr1_val, w64_val, c64_val, decide_eq_true_eq, decide_eq_false_iff_not, cond_true, cond_false] at *; omega)))
      · exact Run.l (by kernel_rfl) (by kernel_rfl) (by kernel_rfl) (by kernel_rfl) (ih a0 a1 r1 x_low (ishr (w64 (x_low.val + x_high.val)) 1) (by first | exact Nat.lt_succ_self _ | (simp only [shr1_val, w64_val, c64_val, decide_eq_true_eq, decide_eq_false_iff_not, cond_true, cond_false] at *; omega)) (by first | exact Nat.lt_succ_self _ | (simp only [shr1_val, w64_val, c64_val, decide_eq_true_eq, decide_eq_false_iff_not, cond_true, cond_false] at *; omega)) (by first | exact Nat.lt_succ_self _ | (simp only [shr1_val, w64_val, c64_val, decide_eq_true_eq, decide_eq_false_iff_not, cond_true, cond_false] at *; omega)) (by first | exact Nat.lt_succ_self _ | (simp only [shr1_val, w64_val, c64_val, decide_eq_true_eq, decide_eq_false_iff_not, cond_true, cond_false] at *; omega)) (by first | exact Nat.lt_succ_self _ | (simp only [shr1_val, w64_val, c64_val, decide_eq_true_eq, decide_eq_false_iff_not, cond_true, cond_false] at *; omega)))
    · exact Run.l (by kernel_rfl) (by kernel_rfl) (by kernel_rfl) (by kernel_rfl) (ok_spec_l20Solve_L1 ((r1.hi.val - x_low.val).toNat + 1) a0 a1 x_low x_low r1.hi (by first | exact Nat.lt_succ_self _ | omega) (by first | exact Nat.lt_succ_self _ | omega) (by first | exact Nat.lt_succ_self _ | omega) (by first | exact Nat.lt_succ_self _ | omega))

theorem ok_spec_l20Solve (a0 : I64) (a1 : I64) : Fun Tryz.prog 71 [] #[vI a0, vI a1] (vIv (F_spec_l20Solve a0 a1)) [] := by
  refine Fun.ofH 400 E_ok mixed Tryz.func71 (by kernel_rfl) (by kernel_rfl) ?_
  unfold F_spec_l20Solve
  refine Run.bk (e := vIv) (gv := vIv) (by kernel_rfl) (by kernel_rfl) (ok_spec_l05Turn _ (by decide)) (fun _ => rfl) fun r1 hr1 => ?_
  exact Run.l (by kernel_rfl) (by kernel_rfl) (by kernel_rfl) (by kernel_rfl) (ok_spec_l20Solve_L0 ((r1.hi.val - (c64 0).val).toNat + 1) a0 a1 r1 (c64 0) r1.hi (by first | exact Nat.lt_succ_self _ | (have z := spec_turn1; rw [← hr1] at z; (try simp only [c64_val]); omega)) (by first | exact Nat.lt_succ_self _ | (have z := spec_turn1; rw [← hr1] at z; (try simp only [c64_val]); omega)) (by first | exact Nat.lt_succ_self _ | (have z := spec_turn1; rw [← hr1] at z; (try simp only [c64_val]); omega)) (by first | exact Nat.lt_succ_self _ | (have z := spec_turn1; rw [← hr1] at z; (try simp only [c64_val]); omega)) (by first | exact Nat.lt_succ_self _ | (have z := spec_turn1; rw [← hr1] at z; (try simp only [c64_val]); omega)))

theorem ok_spec_l20At (a0 : I64) (a1 : I64) : Fun Tryz.prog 26 [] #[vI a0, vI a1] (vIv (F_spec_l20At a0 a1)) [] := by
  refine Fun.ofH 400 E_ok mixed Tryz.func26 (by kernel_rfl) (by kernel_rfl) ?_
  unfold F_spec_l20At
  refine Run.jH (gv := vIv) (by kernel_rfl) (?_) (?_)
  · refine Run.p [true, true, true] (by kernel_rfl) ?_
    refine Run.bH (e := vIv) (gv := vIv) (by kernel_rfl) (by kernel_rfl) (ok_spec_l07Quarter) (fun _ => rfl) fun r1 => ?_
    exact Run.rh (k := 0) (by kernel_rfl) (by kernel_rfl)
  · refine Run.p [false, false] (by kernel_rfl) ?_
    refine Run.jH (gv := vIv) (by kernel_rfl) (?_) (?_)
    · refine Run.bH (e := vIv) (gv := vIv) (by kernel_rfl) (by kernel_rfl) (ok_spec_l07Quarter) (fun _ => rfl) fun r2 => ?_
      exact Run.rh (k := 0) (by kernel_rfl) (by kernel_rfl)
    · refine Run.jH (gv := vIv) (by kernel_rfl) (?_) (?_)
      · refine Run.bH (e := vIv) (gv := vIv) (by kernel_rfl) (by kernel_rfl) (ok_spec_l20Solve _ _) (fun _ => rfl) fun r3 => ?_
        refine Run.bH (e := vIv) (gv := vIv) (by kernel_rfl) (by kernel_rfl) (ok_spec_NegI _) (fun _ => rfl) fun r4 => ?_
        exact Run.rh (k := 0) (by kernel_rfl) (by kernel_rfl)
      · refine Run.bH (e := vIv) (gv := vIv) (by kernel_rfl) (by kernel_rfl) (ok_spec_l20Solve _ _) (fun _ => rfl) fun r5 => ?_
        exact Run.rh (k := 0) (by kernel_rfl) (by kernel_rfl)

theorem ok_spec_EckertAt (a0 : I64) : Fun Tryz.prog 9 [] #[vI a0] (vIv (F_spec_EckertAt a0)) [] := by
  refine Fun.ofH 400 E_ok mixed Tryz.func9 (by kernel_rfl) (by kernel_rfl) ?_
  unfold F_spec_EckertAt
  refine Run.bH (e := vIv) (gv := vIv) (by kernel_rfl) (by kernel_rfl) (ok_spec_l20At _ _) (fun _ => rfl) fun r1 => ?_
  exact Run.rh (k := 0) (by kernel_rfl) (by kernel_rfl)

theorem ok_impl_within (a0 : I64) (a1 : I64) (a2 : I64) : Fun Tryz.prog 88 [] #[vI a0, vI a1, vI a2] (vB (F_impl_within a0 a1 a2)) [] := by
  refine Fun.ofH 400 E_ok mixed Tryz.func88 (by kernel_rfl) (by kernel_rfl) ?_
  unfold F_impl_within
  refine Run.jH (gv := vB) (by kernel_rfl) (?_) (?_)
  · refine Run.p [true, true, true] (by kernel_rfl) ?_
    exact Run.rh (k := 0) (by kernel_rfl) (by kernel_rfl)
  · refine Run.p [false, false, false] (by kernel_rfl) ?_
    exact Run.rh (k := 0) (by kernel_rfl) (by kernel_rfl)

theorem ok_impl_ValidFix (a0 : I64) : Fun Tryz.prog 72 [] #[vI a0] (vB (F_impl_ValidFix a0)) [] := by
  refine Fun.ofH 400 E_ok mixed Tryz.func72 (by kernel_rfl) (by kernel_rfl) ?_
  unfold F_impl_ValidFix
  refine Run.bH (e := vB) (gv := vB) (by kernel_rfl) (by kernel_rfl) (ok_impl_within _ _ _) (fun _ => rfl) fun r1 => ?_
  exact Run.rh (k := 0) (by kernel_rfl) (by kernel_rfl)

theorem ok_impl_Whole : Fun Tryz.prog 34 [] #[] (vIv (F_impl_Whole)) [] := by
  refine Fun.ofH 400 E_ok mixed Tryz.func34 (by kernel_rfl) (by kernel_rfl) ?_
  unfold F_impl_Whole
  exact Run.rh (k := 0) (by kernel_rfl) (by kernel_rfl)

theorem ok_impl_ValidInterval (a0 : Iv) : Fun Tryz.prog 137 [] #[vIv a0] (vB (F_impl_ValidInterval a0)) [] := by
  refine Fun.ofH 400 E_ok mixed Tryz.func137 (by kernel_rfl) (by kernel_rfl) ?_
  unfold F_impl_ValidInterval
  refine Run.jH (gv := vB) (by kernel_rfl) (?_) (?_)
  · refine Run.p [true, true, true, true, true] (by kernel_rfl) ?_
    refine Run.jH (gv := vB) (by kernel_rfl) (?_) (?_)
    · refine Run.p [true, true, true] (by kernel_rfl) ?_
      exact Run.rh (k := 0) (by kernel_rfl) (by kernel_rfl)
    · refine Run.p [false, false, false] (by kernel_rfl) ?_
      exact Run.rh (k := 0) (by kernel_rfl) (by kernel_rfl)
  · refine Run.p [false, false, false, false, false, false, false, false, false] (by kernel_rfl) ?_
    exact Run.rh (k := 0) (by kernel_rfl) (by kernel_rfl)

theorem ok_impl_IsWhole (a0 : Iv) : Fun Tryz.prog 111 [] #[vIv a0] (vB (F_impl_IsWhole a0)) [] := by
  refine Fun.ofH 400 E_ok mixed Tryz.func111 (by kernel_rfl) (by kernel_rfl) ?_
  unfold F_impl_IsWhole
  refine Run.bH (e := vB) (gv := vB) (by kernel_rfl) (by kernel_rfl) (ok_impl_ValidInterval _) (fun _ => rfl) fun r1 => ?_
  exact Run.rh (k := 0) (by kernel_rfl) (by kernel_rfl)

theorem ok_impl_NegI (a0 : Iv) : Fun Tryz.prog 74 [] #[vIv a0] (vIv (F_impl_NegI a0)) [] := by
  refine Fun.ofH 400 E_ok mixed Tryz.func74 (by kernel_rfl) (by kernel_rfl) ?_
  unfold F_impl_NegI
  refine Run.bH (e := vB) (gv := vIv) (by kernel_rfl) (by kernel_rfl) (ok_impl_IsWhole _) (fun _ => rfl) fun r1 => ?_
  refine Run.jH (gv := vIv) (by kernel_rfl) (?_) (?_)
  · refine Run.bH (e := vIv) (gv := vIv) (by kernel_rfl) (by kernel_rfl) (ok_impl_Whole) (fun _ => rfl) fun r2 => ?_
    exact Run.rh (k := 0) (by kernel_rfl) (by kernel_rfl)
  · exact Run.rh (k := 0) (by kernel_rfl) (by kernel_rfl)

theorem ok_bits_Mul64 (a0 : U64) (a1 : U64) : Fun Tryz.prog 176 [] #[vU a0, vU a1] (vT_U_U (F_bits_Mul64 a0 a1)) [] := by
  refine Fun.ofH 400 E_ok mixed Tryz.func176 (by kernel_rfl) (by kernel_rfl) ?_
  unfold F_bits_Mul64
  refine Run.p [true, true, true, true, true] (by kernel_rfl) ?_
  exact Run.rh (k := 0) (by kernel_rfl) (by kernel_rfl)

theorem ok_impl_WideMul (a0 : I64) (a1 : I64) : Fun Tryz.prog 148 [] #[vI a0, vI a1] (vWd (F_impl_WideMul a0 a1)) [] := by
  refine Fun.ofH 400 E_ok mixed Tryz.func148 (by kernel_rfl) (by kernel_rfl) ?_
  unfold F_impl_WideMul
  refine Run.bH (e := vT_U_U) (gv := vWd) (by kernel_rfl) (by kernel_rfl) (ok_bits_Mul64 _ _) (fun _ => rfl) fun r1 => ?_
  refine Run.jH (gv := vWd) (by kernel_rfl) (?_) (?_)
  · refine Run.jH (gv := vWd) (by kernel_rfl) (?_) (?_)
    · exact Run.rh (k := 0) (by kernel_rfl) (by kernel_rfl)
    · exact Run.rh (k := 0) (by kernel_rfl) (by kernel_rfl)
  · refine Run.jH (gv := vWd) (by kernel_rfl) (?_) (?_)
    · exact Run.rh (k := 0) (by kernel_rfl) (by kernel_rfl)
    · exact Run.rh (k := 0) (by kernel_rfl) (by kernel_rfl)

theorem ok_impl_WideShift (a0 : Wd) (a1 : I64) : Fun Tryz.prog 165 [] #[vWd a0, vI a1] (vWd (F_impl_WideShift a0 a1)) [] := by
  refine Fun.ofH 400 E_ok mixed Tryz.func165 (by kernel_rfl) (by kernel_rfl) ?_
  unfold F_impl_WideShift
  refine Run.bk (e := vB) (gv := vWd) (by kernel_rfl) (by kernel_rfl) (ok_impl_within _ _ _) (fun _ => rfl) fun r1 hr1 => ?_
  refine Run.jk (gv := vWd) (by kernel_rfl) (fun h2 => ?_) (fun h2 => ?_)
  · exact Run.rh (k := 0) (by kernel_rfl) (by kernel_rfl)
  · refine Run.jk (gv := vWd) (by kernel_rfl) (fun h3 => ?_) (fun h3 => ?_)
    · refine Run.p [true] (by kernel_rfl) ?_
      refine Run.k (c := (decide (0 ≤ (w64 (a1.val - 64)).val))) (by kernel_rfl) (by have q := a1.hi; rw [hr1] at h2; simp [F_impl_within, c64_val] at h2; simp only [w64_val, decide_eq_true_eq, decide_eq_false_iff_not] at *; omega) ?_
      exact Run.rh (k := 0) (by kernel_rfl) (by kernel_rfl)
    · refine Run.k (c := (decide (0 ≤ a1.val))) (by kernel_rfl) (by have q := a1.hi; rw [hr1] at h2; simp [F_impl_within, c64_val] at h2; simp only [w64_val, decide_eq_true_eq, decide_eq_false_iff_not] at *; omega) ?_
      refine Run.k (c := (decide (0 ≤ a1.val))) (by kernel_rfl) (by have q := a1.hi; rw [hr1] at h2; simp [F_impl_within, c64_val] at h2; simp only [w64_val, decide_eq_true_eq, decide_eq_false_iff_not] at *; omega) ?_
      refine Run.k (c := (decide (0 ≤ (w64 (64 - a1.val)).val))) (by kernel_rfl) (by have q := a1.hi; rw [hr1] at h2; simp [F_impl_within, c64_val] at h2; simp only [w64_val, decide_eq_true_eq, decide_eq_false_iff_not] at *; omega) ?_
      exact Run.rh (k := 0) (by kernel_rfl) (by kernel_rfl)

theorem ok_impl_WideOf (a0 : I64) : Fun Tryz.prog 186 [] #[vI a0] (vWd (F_impl_WideOf a0)) [] := by
  refine Fun.ofH 400 E_ok mixed Tryz.func186 (by kernel_rfl) (by kernel_rfl) ?_
  unfold F_impl_WideOf
  refine Run.p [true] (by kernel_rfl) ?_
  exact Run.rh (k := 0) (by kernel_rfl) (by kernel_rfl)

theorem ok_impl_WideInt (a0 : Wd) : Fun Tryz.prog 164 [] #[vWd a0] (vT_I_B (F_impl_WideInt a0)) [] := by
  refine Fun.ofH 400 E_ok mixed Tryz.func164 (by kernel_rfl) (by kernel_rfl) ?_
  unfold F_impl_WideInt
  refine Run.bH (e := vWd) (gv := vT_I_B) (by kernel_rfl) (by kernel_rfl) (ok_impl_WideOf _) (fun _ => rfl) fun r1 => ?_
  refine Run.jH (gv := vT_I_B) (by kernel_rfl) (?_) (?_)
  · exact Run.rh (k := 0) (by kernel_rfl) (by kernel_rfl)
  · exact Run.rh (k := 0) (by kernel_rfl) (by kernel_rfl)

theorem ok_impl_MulFloor (a0 : I64) (a1 : I64) (a2 : I64) : Fun Tryz.prog 139 [] #[vI a0, vI a1, vI a2] (vT_I_B (F_impl_MulFloor a0 a1 a2)) [] := by
  refine Fun.ofH 400 E_ok mixed Tryz.func139 (by kernel_rfl) (by kernel_rfl) ?_
  unfold F_impl_MulFloor
  refine Run.bH (e := vB) (gv := vT_I_B) (by kernel_rfl) (by kernel_rfl) (ok_impl_within _ _ _) (fun _ => rfl) fun r1 => ?_
  refine Run.jH (gv := vT_I_B) (by kernel_rfl) (?_) (?_)
  · exact Run.rh (k := 0) (by kernel_rfl) (by kernel_rfl)
  · refine Run.bH (e := vWd) (gv := vT_I_B) (by kernel_rfl) (by kernel_rfl) (ok_impl_WideMul _ _) (fun _ => rfl) fun r2 => ?_
    refine Run.bH (e := vWd) (gv := vT_I_B) (by kernel_rfl) (by kernel_rfl) (ok_impl_WideShift _ _) (fun _ => rfl) fun r3 => ?_
    refine Run.bH (e := vT_I_B) (gv := vT_I_B) (by kernel_rfl) (by kernel_rfl) (ok_impl_WideInt _) (fun _ => rfl) fun r4 => ?_
    exact Run.rh (k := 0) (by kernel_rfl) (by kernel_rfl)

theorem ok_impl_TurnI_r : ∀ (fu : Nat) (a0 : I64) (hm : min (0 - a0.val).toNat 1 < fu), Fun Tryz.prog 95 [] #[vI a0] (vIv (F_impl_TurnI_r fu a0)) [] := by
  intro fu
  induction fu with
  | zero => intro a0 hm; exact absurd hm (Nat.not_lt_zero _)
  | succ fu ih =>
    intro a0 hm
    refine Fun.ofH 400 E_ok mixed Tryz.func95 (by kernel_rfl) (by kernel_rfl) ?_
    unfold F_impl_TurnI_r
    refine Run.bk (e := vB) (gv := vIv) (by kernel_rfl) (by kernel_rfl) (ok_impl_within _ _ _) (fun _ => rfl) fun r1 hr1 => ?_
    refine Run.jk (gv := vIv) (by kernel_rfl) (fun h2 => ?_) (fun h2 => ?_)
    · refine Run.bk (e := vIv) (gv := vIv) (by kernel_rfl) (by kernel_rfl) (ok_impl_Whole) (fun _ => rfl) fun r3 hr3 => ?_
      exact Run.rh (k := 0) (by kernel_rfl) (by kernel_rfl)
    · refine Run.jk (gv := vIv) (by kernel_rfl) (fun h4 => ?_) (fun h4 => ?_)
      · refine Run.bk (e := vIv) (gv := vIv) (by kernel_rfl) (by kernel_rfl) (ih (w64 (0 - a0.val)) (by rw [hr1] at h2; simp [F_impl_within, c64_val] at h2; simp only [w64_val, decide_eq_true_eq, decide_eq_false_iff_not] at *; omega)) (fun _ => rfl) fun r5 hr5 => ?_
        refine Run.bk (e := vIv) (gv := vIv) (by kernel_rfl) (by kernel_rfl) (ok_impl_NegI _) (fun _ => rfl) fun r6 hr6 => ?_
        exact Run.rh (k := 0) (by kernel_rfl) (by kernel_rfl)
      · refine Run.jk (gv := vIv) (by kernel_rfl) (fun h7 => ?_) (fun h7 => ?_)
        · exact Run.rh (k := 0) (by kernel_rfl) (by kernel_rfl)
        · refine Run.bk (e := vT_I_B) (gv := vIv) (by kernel_rfl) (by kernel_rfl) (ok_impl_MulFloor _ _ _) (fun _ => rfl) fun r8 hr8 => ?_
          exact Run.rh (k := 0) (by kernel_rfl) (by kernel_rfl)
theorem ok_impl_TurnI (a0 : I64) : Fun Tryz.prog 95 [] #[vI a0] (vIv (F_impl_TurnI a0)) [] := ok_impl_TurnI_r 2 a0 (by omega)

theorem ok_impl_halfCircle : Fun Tryz.prog 73 [] #[] (vIv (F_impl_halfCircle)) [] := by
  refine Fun.ofH 400 E_ok mixed Tryz.func73 (by kernel_rfl) (by kernel_rfl) ?_
  unfold F_impl_halfCircle
  refine Run.bH (e := vIv) (gv := vIv) (by kernel_rfl) (by kernel_rfl) (ok_impl_TurnI _) (fun _ => rfl) fun r1 => ?_
  refine Run.bH (e := vIv) (gv := vIv) (by kernel_rfl) (by kernel_rfl) (ok_impl_TurnI _) (fun _ => rfl) fun r2 => ?_
  exact Run.rh (k := 0) (by kernel_rfl) (by kernel_rfl)

theorem ok_impl_quarter : Fun Tryz.prog 75 [] #[] (vI (F_impl_quarter)) [] := by
  refine Fun.ofH 400 E_ok mixed Tryz.func75 (by kernel_rfl) (by kernel_rfl) ?_
  unfold F_impl_quarter
  refine Run.bH (e := vIv) (gv := vI) (by kernel_rfl) (by kernel_rfl) (ok_impl_TurnI _) (fun _ => rfl) fun r1 => ?_
  exact Run.rh (k := 0) (by kernel_rfl) (by kernel_rfl)

theorem ok_impl_at (a0 : I64) : Fun Tryz.prog 128 [] #[vI a0] (vIv (F_impl_at a0)) [] := by
  refine Fun.ofH 400 E_ok mixed Tryz.func128 (by kernel_rfl) (by kernel_rfl) ?_
  unfold F_impl_at
  exact Run.rh (k := 0) (by kernel_rfl) (by kernel_rfl)

theorem ok_impl_isAngle (a0 : I64) : Fun Tryz.prog 166 [] #[vI a0] (vB (F_impl_isAngle a0)) [] := by
  refine Fun.ofH 400 E_ok mixed Tryz.func166 (by kernel_rfl) (by kernel_rfl) ?_
  unfold F_impl_isAngle
  refine Run.bH (e := vB) (gv := vB) (by kernel_rfl) (by kernel_rfl) (ok_impl_within _ _ _) (fun _ => rfl) fun r1 => ?_
  exact Run.rh (k := 0) (by kernel_rfl) (by kernel_rfl)

theorem ok_impl_areAngles (a0 : Iv) : Fun Tryz.prog 140 [] #[vIv a0] (vB (F_impl_areAngles a0)) [] := by
  refine Fun.ofH 400 E_ok mixed Tryz.func140 (by kernel_rfl) (by kernel_rfl) ?_
  unfold F_impl_areAngles
  refine Run.bH (e := vB) (gv := vB) (by kernel_rfl) (by kernel_rfl) (ok_impl_ValidInterval _) (fun _ => rfl) fun r1 => ?_
  refine Run.jH (gv := vB) (by kernel_rfl) (?_) (?_)
  · refine Run.p [true, true] (by kernel_rfl) ?_
    refine Run.bH (e := vB) (gv := vB) (by kernel_rfl) (by kernel_rfl) (ok_impl_isAngle _) (fun _ => rfl) fun r2 => ?_
    refine Run.p [true] (by kernel_rfl) ?_
    refine Run.jH (gv := vB) (by kernel_rfl) (?_) (?_)
    · refine Run.p [true, true] (by kernel_rfl) ?_
      refine Run.bH (e := vB) (gv := vB) (by kernel_rfl) (by kernel_rfl) (ok_impl_isAngle _) (fun _ => rfl) fun r3 => ?_
      refine Run.p [true] (by kernel_rfl) ?_
      exact Run.rh (k := 0) (by kernel_rfl) (by kernel_rfl)
    · refine Run.p [false, false, false] (by kernel_rfl) ?_
      exact Run.rh (k := 0) (by kernel_rfl) (by kernel_rfl)
  · refine Run.p [false, false, false, false, false, false, false] (by kernel_rfl) ?_
    exact Run.rh (k := 0) (by kernel_rfl) (by kernel_rfl)

theorem ok_impl_ring : Fun Tryz.prog 141 [] #[] (vIv (F_impl_ring)) [] := by
  refine Fun.ofH 400 E_ok mixed Tryz.func141 (by kernel_rfl) (by kernel_rfl) ?_
  unfold F_impl_ring
  exact Run.rh (k := 0) (by kernel_rfl) (by kernel_rfl)

theorem ok_impl_QuarterOf (a0 : I64) : Fun Tryz.prog 167 [] #[vI a0] (vI (F_impl_QuarterOf a0)) [] := by
  refine Fun.ofH 400 E_ok mixed Tryz.func167 (by kernel_rfl) (by kernel_rfl) ?_
  unfold F_impl_QuarterOf
  refine Run.bH (e := vB) (gv := vI) (by kernel_rfl) (by kernel_rfl) (ok_impl_isAngle _) (fun _ => rfl) fun r1 => ?_
  refine Run.jH (gv := vI) (by kernel_rfl) (?_) (?_)
  · exact Run.rh (k := 0) (by kernel_rfl) (by kernel_rfl)
  · refine Run.p [true] (by kernel_rfl) ?_
    refine Run.jH (gv := vI) (by kernel_rfl) (?_) (?_)
    · exact Run.rh (k := 0) (by kernel_rfl) (by kernel_rfl)
    · exact Run.rh (k := 0) (by kernel_rfl) (by kernel_rfl)

theorem ok_impl_areBounded (a0 : Iv) (a1 : Iv) : Fun Tryz.prog 89 [] #[vIv a0, vIv a1] (vB (F_impl_areBounded a0 a1)) [] := by
  refine Fun.ofH 400 E_ok mixed Tryz.func89 (by kernel_rfl) (by kernel_rfl) ?_
  unfold F_impl_areBounded
  refine Run.bH (e := vB) (gv := vB) (by kernel_rfl) (by kernel_rfl) (ok_impl_ValidInterval _) (fun _ => rfl) fun r1 => ?_
  refine Run.jH (gv := vB) (by kernel_rfl) (?_) (?_)
  · refine Run.p [true] (by kernel_rfl) ?_
    refine Run.bH (e := vB) (gv := vB) (by kernel_rfl) (by kernel_rfl) (ok_impl_ValidInterval _) (fun _ => rfl) fun r2 => ?_
    refine Run.p [true] (by kernel_rfl) ?_
    exact Run.rh (k := 0) (by kernel_rfl) (by kernel_rfl)
  · refine Run.p [false, false] (by kernel_rfl) ?_
    exact Run.rh (k := 0) (by kernel_rfl) (by kernel_rfl)

theorem ok_impl_bounded (a0 : I64) (a1 : I64) (a2 : Bool) : Fun Tryz.prog 115 [] #[vI a0, vI a1, vB a2] (vIv (F_impl_bounded a0 a1 a2)) [] := by
  refine Fun.ofH 400 E_ok mixed Tryz.func115 (by kernel_rfl) (by kernel_rfl) ?_
  unfold F_impl_bounded
  refine Run.jH (gv := vIv) (by kernel_rfl) (?_) (?_)
  · refine Run.p [true] (by kernel_rfl) ?_
    refine Run.bH (e := vB) (gv := vIv) (by kernel_rfl) (by kernel_rfl) (ok_impl_ValidInterval _) (fun _ => rfl) fun r1 => ?_
    refine Run.p [true] (by kernel_rfl) ?_
    refine Run.jH (gv := vIv) (by kernel_rfl) (?_) (?_)
    · exact Run.rh (k := 0) (by kernel_rfl) (by kernel_rfl)
    · refine Run.bH (e := vIv) (gv := vIv) (by kernel_rfl) (by kernel_rfl) (ok_impl_Whole) (fun _ => rfl) fun r2 => ?_
      exact Run.rh (k := 0) (by kernel_rfl) (by kernel_rfl)
  · refine Run.p [false, false, false] (by kernel_rfl) ?_
    refine Run.bH (e := vIv) (gv := vIv) (by kernel_rfl) (by kernel_rfl) (ok_impl_Whole) (fun _ => rfl) fun r3 => ?_
    exact Run.rh (k := 0) (by kernel_rfl) (by kernel_rfl)

theorem ok_impl_AddI (a0 : Iv) (a1 : Iv) : Fun Tryz.prog 94 [] #[vIv a0, vIv a1] (vIv (F_impl_AddI a0 a1)) [] := by
  refine Fun.ofH 400 E_ok mixed Tryz.func94 (by kernel_rfl) (by kernel_rfl) ?_
  unfold F_impl_AddI
  refine Run.bH (e := vB) (gv := vIv) (by kernel_rfl) (by kernel_rfl) (ok_impl_areBounded _ _) (fun _ => rfl) fun r1 => ?_
  refine Run.jH (gv := vIv) (by kernel_rfl) (?_) (?_)
  · refine Run.bH (e := vIv) (gv := vIv) (by kernel_rfl) (by kernel_rfl) (ok_impl_Whole) (fun _ => rfl) fun r2 => ?_
    exact Run.rh (k := 0) (by kernel_rfl) (by kernel_rfl)
  · refine Run.bH (e := vIv) (gv := vIv) (by kernel_rfl) (by kernel_rfl) (ok_impl_bounded _ _ _) (fun _ => rfl) fun r3 => ?_
    exact Run.rh (k := 0) (by kernel_rfl) (by kernel_rfl)

theorem ok_impl_SubI (a0 : Iv) (a1 : Iv) : Fun Tryz.prog 118 [] #[vIv a0, vIv a1] (vIv (F_impl_SubI a0 a1)) [] := by
  refine Fun.ofH 400 E_ok mixed Tryz.func118 (by kernel_rfl) (by kernel_rfl) ?_
  unfold F_impl_SubI
  refine Run.bH (e := vIv) (gv := vIv) (by kernel_rfl) (by kernel_rfl) (ok_impl_NegI _) (fun _ => rfl) fun r1 => ?_
  refine Run.bH (e := vIv) (gv := vIv) (by kernel_rfl) (by kernel_rfl) (ok_impl_AddI _ _) (fun _ => rfl) fun r2 => ?_
  exact Run.rh (k := 0) (by kernel_rfl) (by kernel_rfl)

theorem ok_impl_InsideI (a0 : Iv) (a1 : Iv) : Fun Tryz.prog 188 [] #[vIv a0, vIv a1] (vB (F_impl_InsideI a0 a1)) [] := by
  refine Fun.ofH 400 E_ok mixed Tryz.func188 (by kernel_rfl) (by kernel_rfl) ?_
  unfold F_impl_InsideI
  refine Run.bH (e := vB) (gv := vB) (by kernel_rfl) (by kernel_rfl) (ok_impl_IsWhole _) (fun _ => rfl) fun r1 => ?_
  refine Run.jH (gv := vB) (by kernel_rfl) (?_) (?_)
  · refine Run.p [true, true, true] (by kernel_rfl) ?_
    refine Run.bH (e := vB) (gv := vB) (by kernel_rfl) (by kernel_rfl) (ok_impl_IsWhole _) (fun _ => rfl) fun r2 => ?_
    exact Run.rh (k := 0) (by kernel_rfl) (by kernel_rfl)
  · refine Run.p [false] (by kernel_rfl) ?_
    refine Run.bH (e := vB) (gv := vB) (by kernel_rfl) (by kernel_rfl) (ok_impl_IsWhole _) (fun _ => rfl) fun r3 => ?_
    refine Run.p [false] (by kernel_rfl) ?_
    refine Run.jH (gv := vB) (by kernel_rfl) (?_) (?_)
    · refine Run.bH (e := vB) (gv := vB) (by kernel_rfl) (by kernel_rfl) (ok_impl_IsWhole _) (fun _ => rfl) fun r4 => ?_
      exact Run.rh (k := 0) (by kernel_rfl) (by kernel_rfl)
    · refine Run.jH (gv := vB) (by kernel_rfl) (?_) (?_)
      · refine Run.p [true, true, true, true, true] (by kernel_rfl) ?_
        exact Run.rh (k := 0) (by kernel_rfl) (by kernel_rfl)
      · refine Run.p [false, false, false, false, false] (by kernel_rfl) ?_
        exact Run.rh (k := 0) (by kernel_rfl) (by kernel_rfl)

theorem ok_impl_abs (a0 : I64) : Fun Tryz.prog 108 [] #[vI a0] (vI (F_impl_abs a0)) [] := by
  refine Fun.ofH 400 E_ok mixed Tryz.func108 (by kernel_rfl) (by kernel_rfl) ?_
  unfold F_impl_abs
  exact Run.rh (k := 0) (by kernel_rfl) (by kernel_rfl)

theorem ok_impl_HasI (a0 : Iv) (a1 : I64) : Fun Tryz.prog 112 [] #[vIv a0, vI a1] (vB (F_impl_HasI a0 a1)) [] := by
  refine Fun.ofH 400 E_ok mixed Tryz.func112 (by kernel_rfl) (by kernel_rfl) ?_
  unfold F_impl_HasI
  refine Run.bH (e := vB) (gv := vB) (by kernel_rfl) (by kernel_rfl) (ok_impl_IsWhole _) (fun _ => rfl) fun r1 => ?_
  refine Run.jH (gv := vB) (by kernel_rfl) (?_) (?_)
  · refine Run.p [true, true, true, true, true, true] (by kernel_rfl) ?_
    exact Run.rh (k := 0) (by kernel_rfl) (by kernel_rfl)
  · refine Run.p [false, false, false, false, false] (by kernel_rfl) ?_
    refine Run.bH (e := vB) (gv := vB) (by kernel_rfl) (by kernel_rfl) (ok_impl_within _ _ _) (fun _ => rfl) fun r2 => ?_
    refine Run.p [false] (by kernel_rfl) ?_
    exact Run.rh (k := 0) (by kernel_rfl) (by kernel_rfl)

theorem ok_impl_AbsI (a0 : Iv) : Fun Tryz.prog 119 [] #[vIv a0] (vIv (F_impl_AbsI a0)) [] := by
  refine Fun.ofH 400 E_ok mixed Tryz.func119 (by kernel_rfl) (by kernel_rfl) ?_
  unfold F_impl_AbsI
  refine Run.bH (e := vB) (gv := vIv) (by kernel_rfl) (by kernel_rfl) (ok_impl_IsWhole _) (fun _ => rfl) fun r1 => ?_
  refine Run.jH (gv := vIv) (by kernel_rfl) (?_) (?_)
  · refine Run.bH (e := vIv) (gv := vIv) (by kernel_rfl) (by kernel_rfl) (ok_impl_Whole) (fun _ => rfl) fun r2 => ?_
    exact Run.rh (k := 0) (by kernel_rfl) (by kernel_rfl)
  · refine Run.bH (e := vI) (gv := vIv) (by kernel_rfl) (by kernel_rfl) (ok_impl_abs _) (fun _ => rfl) fun r3 => ?_
    refine Run.bH (e := vI) (gv := vIv) (by kernel_rfl) (by kernel_rfl) (ok_impl_abs _) (fun _ => rfl) fun r4 => ?_
    refine Run.bH (e := vI) (gv := vIv) (by kernel_rfl) (by kernel_rfl) (ok_impl_abs _) (fun _ => rfl) fun r5 => ?_
    refine Run.bH (e := vI) (gv := vIv) (by kernel_rfl) (by kernel_rfl) (ok_impl_abs _) (fun _ => rfl) fun r6 => ?_
    refine Run.bH (e := vB) (gv := vIv) (by kernel_rfl) (by kernel_rfl) (ok_impl_HasI _ _) (fun _ => rfl) fun r7 => ?_
    refine Run.jH (gv := vIv) (by kernel_rfl) (?_) (?_)
    · exact Run.rh (k := 0) (by kernel_rfl) (by kernel_rfl)
    · exact Run.rh (k := 0) (by kernel_rfl) (by kernel_rfl)

theorem ok_impl_fixed (a0 : I64) (a1 : Bool) : Fun Tryz.prog 138 [] #[vI a0, vB a1] (vT_I_B (F_impl_fixed a0 a1)) [] := by
  refine Fun.ofH 400 E_ok mixed Tryz.func138 (by kernel_rfl) (by kernel_rfl) ?_
  unfold F_impl_fixed
  refine Run.jH (gv := vT_I_B) (by kernel_rfl) (?_) (?_)
  · refine Run.p [true, true, true, true] (by kernel_rfl) ?_
    exact Run.rh (k := 0) (by kernel_rfl) (by kernel_rfl)
  · refine Run.p [false] (by kernel_rfl) ?_
    refine Run.bH (e := vB) (gv := vT_I_B) (by kernel_rfl) (by kernel_rfl) (ok_impl_ValidFix _) (fun _ => rfl) fun r1 => ?_
    refine Run.p [false, false] (by kernel_rfl) ?_
    refine Run.jH (gv := vT_I_B) (by kernel_rfl) (?_) (?_)
    · exact Run.rh (k := 0) (by kernel_rfl) (by kernel_rfl)
    · exact Run.rh (k := 0) (by kernel_rfl) (by kernel_rfl)

theorem ok_impl_MulDown (a0 : I64) (a1 : I64) : Fun Tryz.prog 91 [] #[vI a0, vI a1] (vT_I_B (F_impl_MulDown a0 a1)) [] := by
  refine Fun.ofH 400 E_ok mixed Tryz.func91 (by kernel_rfl) (by kernel_rfl) ?_
  unfold F_impl_MulDown
  refine Run.bH (e := vB) (gv := vT_I_B) (by kernel_rfl) (by kernel_rfl) (ok_impl_ValidFix _) (fun _ => rfl) fun r1 => ?_
  refine Run.jH (gv := vT_I_B) (by kernel_rfl) (?_) (?_)
  · refine Run.p [true, true, true, true] (by kernel_rfl) ?_
    exact Run.rh (k := 0) (by kernel_rfl) (by kernel_rfl)
  · refine Run.p [false] (by kernel_rfl) ?_
    refine Run.bH (e := vB) (gv := vT_I_B) (by kernel_rfl) (by kernel_rfl) (ok_impl_ValidFix _) (fun _ => rfl) fun r2 => ?_
    refine Run.p [false, false] (by kernel_rfl) ?_
    refine Run.jH (gv := vT_I_B) (by kernel_rfl) (?_) (?_)
    · exact Run.rh (k := 0) (by kernel_rfl) (by kernel_rfl)
    · refine Run.bH (e := vT_I_B) (gv := vT_I_B) (by kernel_rfl) (by kernel_rfl) (ok_impl_MulFloor _ _ _) (fun _ => rfl) fun r3 => ?_
      refine Run.bH (e := vT_I_B) (gv := vT_I_B) (by kernel_rfl) (by kernel_rfl) (ok_impl_fixed _ _) (fun _ => rfl) fun r4 => ?_
      exact Run.rh (k := 0) (by kernel_rfl) (by kernel_rfl)

theorem ok_impl_MulUp (a0 : I64) (a1 : I64) : Fun Tryz.prog 92 [] #[vI a0, vI a1] (vT_I_B (F_impl_MulUp a0 a1)) [] := by
  refine Fun.ofH 400 E_ok mixed Tryz.func92 (by kernel_rfl) (by kernel_rfl) ?_
  unfold F_impl_MulUp
  refine Run.bH (e := vB) (gv := vT_I_B) (by kernel_rfl) (by kernel_rfl) (ok_impl_ValidFix _) (fun _ => rfl) fun r1 => ?_
  refine Run.jH (gv := vT_I_B) (by kernel_rfl) (?_) (?_)
  · refine Run.p [true, true, true, true] (by kernel_rfl) ?_
    exact Run.rh (k := 0) (by kernel_rfl) (by kernel_rfl)
  · refine Run.p [false] (by kernel_rfl) ?_
    refine Run.bH (e := vB) (gv := vT_I_B) (by kernel_rfl) (by kernel_rfl) (ok_impl_ValidFix _) (fun _ => rfl) fun r2 => ?_
    refine Run.p [false, false] (by kernel_rfl) ?_
    refine Run.jH (gv := vT_I_B) (by kernel_rfl) (?_) (?_)
    · exact Run.rh (k := 0) (by kernel_rfl) (by kernel_rfl)
    · refine Run.bH (e := vT_I_B) (gv := vT_I_B) (by kernel_rfl) (by kernel_rfl) (ok_impl_MulDown _ _) (fun _ => rfl) fun r3 => ?_
      exact Run.rh (k := 0) (by kernel_rfl) (by kernel_rfl)

theorem ok_impl_SqrI (a0 : Iv) : Fun Tryz.prog 55 [] #[vIv a0] (vIv (F_impl_SqrI a0)) [] := by
  refine Fun.ofH 400 E_ok mixed Tryz.func55 (by kernel_rfl) (by kernel_rfl) ?_
  unfold F_impl_SqrI
  refine Run.bH (e := vB) (gv := vIv) (by kernel_rfl) (by kernel_rfl) (ok_impl_IsWhole _) (fun _ => rfl) fun r1 => ?_
  refine Run.jH (gv := vIv) (by kernel_rfl) (?_) (?_)
  · refine Run.bH (e := vIv) (gv := vIv) (by kernel_rfl) (by kernel_rfl) (ok_impl_Whole) (fun _ => rfl) fun r2 => ?_
    exact Run.rh (k := 0) (by kernel_rfl) (by kernel_rfl)
  · refine Run.bH (e := vIv) (gv := vIv) (by kernel_rfl) (by kernel_rfl) (ok_impl_AbsI _) (fun _ => rfl) fun r3 => ?_
    refine Run.bH (e := vT_I_B) (gv := vIv) (by kernel_rfl) (by kernel_rfl) (ok_impl_MulDown _ _) (fun _ => rfl) fun r4 => ?_
    refine Run.bH (e := vT_I_B) (gv := vIv) (by kernel_rfl) (by kernel_rfl) (ok_impl_MulUp _ _) (fun _ => rfl) fun r5 => ?_
    refine Run.jH (gv := vIv) (by kernel_rfl) (?_) (?_)
    · refine Run.p [true] (by kernel_rfl) ?_
      refine Run.bH (e := vIv) (gv := vIv) (by kernel_rfl) (by kernel_rfl) (ok_impl_bounded _ _ _) (fun _ => rfl) fun r6 => ?_
      exact Run.rh (k := 0) (by kernel_rfl) (by kernel_rfl)
    · refine Run.p [false] (by kernel_rfl) ?_
      refine Run.bH (e := vIv) (gv := vIv) (by kernel_rfl) (by kernel_rfl) (ok_impl_bounded _ _ _) (fun _ => rfl) fun r7 => ?_
      exact Run.rh (k := 0) (by kernel_rfl) (by kernel_rfl)

theorem ok_impl_Integer (a0 : I64) : Fun Tryz.prog 52 [] #[vI a0] (vIv (F_impl_Integer a0)) [] := by
  refine Fun.ofH 400 E_ok mixed Tryz.func52 (by kernel_rfl) (by kernel_rfl) ?_
  unfold F_impl_Integer
  refine Run.bH (e := vB) (gv := vIv) (by kernel_rfl) (by kernel_rfl) (ok_impl_within _ _ _) (fun _ => rfl) fun r1 => ?_
  refine Run.jH (gv := vIv) (by kernel_rfl) (?_) (?_)
  · refine Run.bH (e := vIv) (gv := vIv) (by kernel_rfl) (by kernel_rfl) (ok_impl_Whole) (fun _ => rfl) fun r2 => ?_
    exact Run.rh (k := 0) (by kernel_rfl) (by kernel_rfl)
  · refine Run.bH (e := vIv) (gv := vIv) (by kernel_rfl) (by kernel_rfl) (ok_impl_bounded _ _ _) (fun _ => rfl) fun r3 => ?_
    exact Run.rh (k := 0) (by kernel_rfl) (by kernel_rfl)

def ren : Shelf.Ren := ⟨fun n => if n = 129 then 197 else if n = 134 then 196 else 0, fun n => if n = 3 then 3 else if n = 4 then 4 else if n = 5 then 5 else if n = 9 then 9 else if n = 46 then 68 else if n = 53 then 85 else 0, fun n => n⟩
theorem lays134 : Lays.n134 Tryz.prog ren := { mixed := mixed, f129 := by kernel_rfl, f134 := by kernel_rfl, t3 := by kernel_rfl, a3 := fun w => by kernel_rfl, z3 := fun w => by kernel_rfl, v3 := fun w => by kernel_rfl, t4 := by kernel_rfl, a4 := fun w => by kernel_rfl, z4 := fun w => by kernel_rfl, v4 := fun w => by kernel_rfl, t5 := by kernel_rfl, a5 := fun w => by kernel_rfl, z5 := fun w => by kernel_rfl, v5 := fun w => by kernel_rfl, t9 := by kernel_rfl, a9 := fun w => by kernel_rfl, z9 := fun w => by kernel_rfl, v9 := fun w => by kernel_rfl, t46 := by kernel_rfl, a46 := fun w => by kernel_rfl, z46 := fun w => by kernel_rfl, v46 := fun w => by kernel_rfl, t53 := by kernel_rfl, a53 := fun w => by kernel_rfl, z53 := fun w => by kernel_rfl, v53 := fun w => by kernel_rfl }
theorem ok_bits_LeadingZeros64 (a0 : U64) : Fun Tryz.prog 196 [] #[vU a0] (vI (F_bits_LeadingZeros64 a0)) [] := by
  refine Fun.ofCalls Tryz.func196 (by kernel_rfl) (by kernel_rfl) (by kernel_rfl) (by kernel_rfl) fun w => ?_
  refine (Any.bits_LeadingZeros64 lays134 a0.val w a0.lo a0.hi).mono ?_
  rintro e w' ⟨rfl, rfl⟩
  have h := Lib.bitLen_le a0.val.toNat 64 (by have q0 := U64.lo a0; have q1 := U64.hi a0; omega) (by have q0 := U64.lo a0; have q1 := U64.hi a0; omega)
  have e : vI (F_bits_LeadingZeros64 a0) = .int .i64 (64 - (Lib.bitLen a0.val.toNat : Int)) := by
    show Value.int .i64 (w64 (64 - (Lib.bitLen a0.val.toNat : Int))).val = _
    rw [w64_val]
    congr 1
    omega
  exact ⟨by rw [e], rfl⟩

theorem ok_bits_Div64_L1 : ∀ (fu : Nat) (x_y : U64) (x_s : U64) (x_yn1 : U64) (x_yn0 : U64) (x_un0 : U64) (x_q1 : U64) (x_un21 : U64) (x_rhat : U64) (x_q0 : U64) (q0 : x_rhat.val < 4294967296) (q1 : 1 ≤ x_yn1.val ∧ x_yn1.val ≤ 4294967295) (hm : (4294967296 - x_rhat.val).toNat < fu) (t : Array Value) (ht : maskA t [0, 1, 3, 4, 5, 11, 12, 13, 19, 20, 21, 22, 23, 24, 25, 26, 27, 28, 29, 30, 31, 32, 33, 34, 35, 36, 37, 38, 39, 40, 41, 42, 43, 44, 45, 46, 47, 48, 49, 50, 51, 52, 53, 54, 55, 56, 57, 58, 59, 60, 61, 62, 63, 64, 65, 66, 67, 68, 69, 70, 71, 72, 73, 74, 75, 76, 77, 78, 79, 80, 81, 82, 83, 84, 85, 86, 87, 88, 89, 90, 91, 92, 93, 94, 95, 96, 97, 98, 99, 100, 101, 102, 103, 104, 105, 106, 107, 108, 109, 110, 111, 112, 113, 114, 115, 116, 117, 118, 119, 120, 121, 122, 123, 124, 125, 126, 127, 128, 129, 130, 131, 132, 133, 134] = #[undef, undef, .int .u64 x_y.val, undef, undef, undef, .int .u64 0, .int .u64 0, .int .u64 x_s.val, .int .u64 x_yn1.val, .int .u64 x_yn0.val, undef, undef, undef, .int .u64 x_un0.val, .int .u64 x_q1.val, .int .u64 x_rhat.val, .int .u64 x_un21.val, .int .u64 x_q0.val, undef, undef, undef, undef, undef, undef, undef, undef, undef, undef, undef, undef, undef, undef, undef, undef, undef, undef, undef, undef, undef, undef, undef, undef, undef, undef, undef, undef, undef, undef, undef, undef, undef, undef, undef, undef, undef, undef, undef, undef, undef, undef, undef, undef, undef, undef, undef, undef, undef, undef, undef, undef, undef, undef, undef, undef, undef, undef, undef, undef, undef, undef, undef, undef, undef, undef, undef, undef, undef, undef, undef, undef, undef, undef, undef, undef, undef, undef, undef, undef, undef, undef, undef, undef, undef, undef, undef, undef, undef, undef, undef, undef, undef, undef, undef, undef, undef, undef, undef, undef, undef, undef, undef, undef, undef, undef, undef, undef, undef, undef, undef, undef, undef, undef, undef, undef]), Cfg Tryz.prog 194 (loopAt Tryz.f194 1) t [] (RvH [] (vT_U_U (F_bits_Div64_L1 fu x_y x_s x_yn1 x_yn0 x_un0 x_q1 x_un21 x_rhat x_q0))) := by
  intro fu
  induction fu with
  | zero => intro x_y x_s x_yn1 x_yn0 x_un0 x_q1 x_un21 x_rhat x_q0 q0 q1 hm; exact absurd hm (Nat.not_lt_zero _)
  | succ fu ih =>
    intro x_y x_s x_yn1 x_yn0 x_un0 x_q1 x_un21 x_rhat x_q0 q0 q1 hm t ht
    refine Cfg.round E_ok mixed Tryz.func194 ht fun g => ?_
    unfold F_bits_Div64_L1
    refine Run.jk (gv := vT_U_U) (by kernel_rfl) (fun h5 => ?_) (fun h5 => ?_)
    · refine Run.p [true, true, true, true, true, true, true, true, true] (by kernel_rfl) ?_
      refine Run.jk (gv := vT_U_U) (by kernel_rfl) (fun h6 => ?_) (fun h6 => ?_)
      · refine Run.k (c := (decide (0 ≤ x_s.val))) (by kernel_rfl) (by first | (have n2 := norm_yn a2 (by have := a0.lo; omega); rw [← hr2] at n2; exact decide_eq_true (by omega)) | (have p1 := q1.1; exact decide_eq_true (by omega)) | exact decide_eq_true (U64.lo _) | exact decide_eq_true (by have := U64.lo a0; omega)) ?_
        exact Run.rh (k := 0) (by kernel_rfl) (by kernel_rfl)
      · exact Run.l (by kernel_rfl) (by kernel_rfl) (by kernel_rfl) (by kernel_rfl) (ih x_y x_s x_yn1 x_yn0 x_un0 x_q1 x_un21 (wu64 (x_rhat.val + x_yn1.val)) (wu64 (x_q0.val - 1)) (by first | exact q1 | (have p1 := q1.1; have p2 := q1.2; have p3 := x_rhat.lo; simp only [wu64_val, decide_eq_true_eq, decide_eq_false_iff_not] at *; omega)) (by first | exact q1 | (have p1 := q1.1; have p2 := q1.2; have p3 := x_rhat.lo; simp only [wu64_val, decide_eq_true_eq, decide_eq_false_iff_not] at *; omega)) (by first | exact q1 | (have p1 := q1.1; have p2 := q1.2; have p3 := x_rhat.lo; simp only [wu64_val, decide_eq_true_eq, decide_eq_false_iff_not] at *; omega)))
    · refine Run.p [false, false, false, false, false, false, false, false] (by kernel_rfl) ?_
      refine Run.jk (gv := vT_U_U) (by kernel_rfl) (fun h7 => ?_) (fun h7 => ?_)
      · refine Run.jk (gv := vT_U_U) (by kernel_rfl) (fun h8 => ?_) (fun h8 => ?_)
        · refine Run.k (c := (decide (0 ≤ x_s.val))) (by kernel_rfl) (by first | (have n2 := norm_yn a2 (by have := a0.lo; omega); rw [← hr2] at n2; exact decide_eq_true (by omega)) | (have p1 := q1.1; exact decide_eq_true (by omega)) | exact decide_eq_true (U64.lo _) | exact decide_eq_true (by have := U64.lo a0; omega)) ?_
          exact Run.rh (k := 0) (by kernel_rfl) (by kernel_rfl)
        · exact Run.l (by kernel_rfl) (by kernel_rfl) (by kernel_rfl) (by kernel_rfl) (ih x_y x_s x_yn1 x_yn0 x_un0 x_q1 x_un21 (wu64 (x_rhat.val + x_yn1.val)) (wu64 (x_q0.val - 1)) (by first | exact q1 | (have p1 := q1.1; have p2 := q1.2; have p3 := x_rhat.lo; simp only [wu64_val, decide_eq_true_eq, decide_eq_false_iff_not] at *; omega)) (by first | exact q1 | (have p1 := q1.1; have p2 := q1.2; have p3 := x_rhat.lo; simp only [wu64_val, decide_eq_true_eq, decide_eq_false_iff_not] at *; omega)) (by first | exact q1 | (have p1 := q1.1; have p2 := q1.2; have p3 := x_rhat.lo; simp only [wu64_val, decide_eq_true_eq, decide_eq_false_iff_not] at *; omega)))
      · refine Run.k (c := (decide (0 ≤ x_s.val))) (by kernel_rfl) (by first | (have n2 := norm_yn a2 (by have := a0.lo; omega); rw [← hr2] at n2; exact decide_eq_true (by omega)) | (have p1 := q1.1; exact decide_eq_true (by omega)) | exact decide_eq_true (U64.lo _) | exact decide_eq_true (by have := U64.lo a0; omega)) ?_
        exact Run.rh (k := 0) (by kernel_rfl) (by kernel_rfl)

theorem ok_bits_Div64_L0 : ∀ (fu : Nat) (x_y : U64) (x_s : U64) (x_yn1 : U64) (x_yn0 : U64) (x_un32 : U64) (x_un1 : U64) (x_un0 : U64) (x_q1 : U64) (x_rhat : U64) (q0 : x_rhat.val < 4294967296) (q1 : 1 ≤ x_yn1.val ∧ x_yn1.val ≤ 4294967295) (hm : (4294967296 - x_rhat.val).toNat < fu) (t : Array Value) (ht : maskA t [0, 1, 3, 4, 5, 12, 17, 18, 19, 20, 21, 22, 23, 24, 25, 26, 27, 28, 29, 30, 31, 32, 33, 34, 35, 36, 37, 38, 39, 40, 41, 42, 43, 44, 45, 46, 47, 48, 49, 50, 51, 52, 53, 54, 55, 56, 57, 58, 59, 60, 61, 62, 63, 64, 65, 66, 67, 68, 69, 70, 71, 72, 73, 74, 75, 76, 77, 78, 79, 80, 81, 82, 83, 84, 85, 86, 87, 88, 89, 90, 91, 92, 93, 94, 95, 96, 97, 98, 99, 100, 101, 102, 103, 104, 105, 106, 107, 108, 109, 110, 111, 112, 113, 114, 115, 116, 117, 118, 119, 120, 121, 122, 123, 124, 125, 126, 127, 128, 129, 130, 131, 132, 133, 134] = #[undef, undef, .int .u64 x_y.val, undef, undef, undef, .int .u64 0, .int .u64 0, .int .u64 x_s.val, .int .u64 x_yn1.val, .int .u64 x_yn0.val, .int .u64 x_un32.val, undef, .int .u64 x_un1.val, .int .u64 x_un0.val, .int .u64 x_q1.val, .int .u64 x_rhat.val, undef, undef, undef, undef, undef, undef, undef, undef, undef, undef, undef, undef, undef, undef, undef, undef, undef, undef, undef, undef, undef, undef, undef, undef, undef, undef, undef, undef, undef, undef, undef, undef, undef, undef, undef, undef, undef, undef, undef, undef, undef, undef, undef, undef, undef, undef, undef, undef, undef, undef, undef, undef, undef, undef, undef, undef, undef, undef, undef, undef, undef, undef, undef, undef, undef, undef, undef, undef, undef, undef, undef, undef, undef, undef, undef, undef, undef, undef, undef, undef, undef, undef, undef, undef, undef, undef, undef, undef, undef, undef, undef, undef, undef, undef, undef, undef, undef, undef, undef, undef, undef, undef, undef, undef, undef, undef, undef, undef, undef, undef, undef, undef, undef, undef, undef, undef, undef, undef]), Cfg Tryz.prog 194 (loopAt Tryz.f194 0) t [] (RvH [] (vT_U_U (F_bits_Div64_L0 fu x_y x_s x_yn1 x_yn0 x_un32 x_un1 x_un0 x_q1 x_rhat))) := by
  intro fu
  induction fu with
  | zero => intro x_y x_s x_yn1 x_yn0 x_un32 x_un1 x_un0 x_q1 x_rhat q0 q1 hm; exact absurd hm (Nat.not_lt_zero _)
  | succ fu ih =>
    intro x_y x_s x_yn1 x_yn0 x_un32 x_un1 x_un0 x_q1 x_rhat q0 q1 hm t ht
    refine Cfg.round E_ok mixed Tryz.func194 ht fun g => ?_
    unfold F_bits_Div64_L0
    refine Run.jk (gv := vT_U_U) (by kernel_rfl) (fun h3 => ?_) (fun h3 => ?_)
    · refine Run.p [true, true, true, true, true, true, true, true, true] (by kernel_rfl) ?_
      refine Run.jk (gv := vT_U_U) (by kernel_rfl) (fun h4 => ?_) (fun h4 => ?_)
      · refine Run.k (c := (decide (x_yn1.val ≠ 0))) (by kernel_rfl) (by first | (have n2 := norm_yn a2 (by have := a0.lo; omega); rw [← hr2] at n2; exact decide_eq_true (by omega)) | (have p1 := q1.1; exact decide_eq_true (by omega)) | exact decide_eq_true (U64.lo _) | exact decide_eq_true (by have := U64.lo a0; omega)) ?_
        exact Run.l (by kernel_rfl) (by kernel_rfl) (by kernel_rfl) (by kernel_rfl) (ok_bits_Div64_L1 ((4294967296 - (wu64 ((wu64 ((wu64 ((wu64 (x_un32.val * 4294967296)).val + x_un1.val)).val - (wu64 ((wu64 (x_q1.val - 1)).val * x_y.val)).val)).val - (wu64 ((wu64 (Int.tdiv (wu64 ((wu64 ((wu64 (x_un32.val * 4294967296)).val + x_un1.val)).val - (wu64 ((wu64 (x_q1.val - 1)).val * x_y.val)).val)).val x_yn1.val)).val * x_yn1.val)).val)).val).toNat + 1) x_y x_s x_yn1 x_yn0 x_un0 (wu64 (x_q1.val - 1)) (wu64 ((wu64 ((wu64 (x_un32.val * 4294967296)).val + x_un1.val)).val - (wu64 ((wu64 (x_q1.val - 1)).val * x_y.val)).val)) (wu64 ((wu64 ((wu64 ((wu64 (x_un32.val * 4294967296)).val + x_un1.val)).val - (wu64 ((wu64 (x_q1.val - 1)).val * x_y.val)).val)).val - (wu64 ((wu64 (Int.tdiv (wu64 ((wu64 ((wu64 (x_un32.val * 4294967296)).val + x_un1.val)).val - (wu64 ((wu64 (x_q1.val - 1)).val * x_y.val)).val)).val x_yn1.val)).val * x_yn1.val)).val)) (wu64 (Int.tdiv (wu64 ((wu64 ((wu64 (x_un32.val * 4294967296)).val + x_un1.val)).val - (wu64 ((wu64 (x_q1.val - 1)).val * x_y.val)).val)).val x_yn1.val)) (by first | exact rem_lt _ _ q1.1 q1.2 | exact q1 | exact Nat.lt_succ_self _) (by first | exact rem_lt _ _ q1.1 q1.2 | exact q1 | exact Nat.lt_succ_self _) (by first | exact rem_lt _ _ q1.1 q1.2 | exact q1 | exact Nat.lt_succ_self _))
      · exact Run.l (by kernel_rfl) (by kernel_rfl) (by kernel_rfl) (by kernel_rfl) (ih x_y x_s x_yn1 x_yn0 x_un32 x_un1 x_un0 (wu64 (x_q1.val - 1)) (wu64 (x_rhat.val + x_yn1.val)) (by first | exact q1 | (have p1 := q1.1; have p2 := q1.2; have p3 := x_rhat.lo; simp only [wu64_val, decide_eq_true_eq, decide_eq_false_iff_not] at *; omega)) (by first | exact q1 | (have p1 := q1.1; have p2 := q1.2; have p3 := x_rhat.lo; simp only [wu64_val, decide_eq_true_eq, decide_eq_false_iff_not] at *; omega)) (by first | exact q1 | (have p1 := q1.1; have p2 := q1.2; have p3 := x_rhat.lo; simp only [wu64_val, decide_eq_true_eq, decide_eq_false_iff_not] at *; omega)))
    · refine Run.p [false, false, false, false, false, false, false, false] (by kernel_rfl) ?_
      refine Run.jk (gv := vT_U_U) (by kernel_rfl) (fun h9 => ?_) (fun h9 => ?_)
      · refine Run.jk (gv := vT_U_U) (by kernel_rfl) (fun h10 => ?_) (fun h10 => ?_)
        · refine Run.k (c := (decide (x_yn1.val ≠ 0))) (by kernel_rfl) (by first | (have n2 := norm_yn a2 (by have := a0.lo; omega); rw [← hr2] at n2; exact decide_eq_true (by omega)) | (have p1 := q1.1; exact decide_eq_true (by omega)) | exact decide_eq_true (U64.lo _) | exact decide_eq_true (by have := U64.lo a0; omega)) ?_
          exact Run.l (by kernel_rfl) (by kernel_rfl) (by kernel_rfl) (by kernel_rfl) (ok_bits_Div64_L1 ((4294967296 - (wu64 ((wu64 ((wu64 ((wu64 (x_un32.val * 4294967296)).val + x_un1.val)).val - (wu64 ((wu64 (x_q1.val - 1)).val * x_y.val)).val)).val - (wu64 ((wu64 (Int.tdiv (wu64 ((wu64 ((wu64 (x_un32.val * 4294967296)).val + x_un1.val)).val - (wu64 ((wu64 (x_q1.val - 1)).val * x_y.val)).val)).val x_yn1.val)).val * x_yn1.val)).val)).val).toNat + 1) x_y x_s x_yn1 x_yn0 x_un0 (wu64 (x_q1.val - 1)) (wu64 ((wu64 ((wu64 (x_un32.val * 4294967296)).val + x_un1.val)).val - (wu64 ((wu64 (x_q1.val - 1)).val * x_y.val)).val)) (wu64 ((wu64 ((wu64 ((wu64 (x_un32.val * 4294967296)).val + x_un1.val)).val - (wu64 ((wu64 (x_q1.val - 1)).val * x_y.val)).val)).val - (wu64 ((wu64 (Int.tdiv (wu64 ((wu64 ((wu64 (x_un32.val * 4294967296)).val + x_un1.val)).val - (wu64 ((wu64 (x_q1.val - 1)).val * x_y.val)).val)).val x_yn1.val)).val * x_yn1.val)).val)) (wu64 (Int.tdiv (wu64 ((wu64 ((wu64 (x_un32.val * 4294967296)).val + x_un1.val)).val - (wu64 ((wu64 (x_q1.val - 1)).val * x_y.val)).val)).val x_yn1.val)) (by first | exact rem_lt _ _ q1.1 q1.2 | exact q1 | exact Nat.lt_succ_self _) (by first | exact rem_lt _ _ q1.1 q1.2 | exact q1 | exact Nat.lt_succ_self _) (by first | exact rem_lt _ _ q1.1 q1.2 | exact q1 | exact Nat.lt_succ_self _))
        · exact Run.l (by kernel_rfl) (by kernel_rfl) (by kernel_rfl) (by kernel_rfl) (ih x_y x_s x_yn1 x_yn0 x_un32 x_un1 x_un0 (wu64 (x_q1.val - 1)) (wu64 (x_rhat.val + x_yn1.val)) (by first | exact q1 | (have p1 := q1.1; have p2 := q1.2; have p3 := x_rhat.lo; simp only [wu64_val, decide_eq_true_eq, decide_eq_false_iff_not] at *; omega)) (by first | exact q1 | (have p1 := q1.1; have p2 := q1.2; have p3 := x_rhat.lo; simp only [wu64_val, decide_eq_true_eq, decide_eq_false_iff_not] at *; omega)) (by first | exact q1 | (have p1 := q1.1; have p2 := q1.2; have p3 := x_rhat.lo; simp only [wu64_val, decide_eq_true_eq, decide_eq_false_iff_not] at *; omega)))
      · refine Run.k (c := (decide (x_yn1.val ≠ 0))) (by kernel_rfl) (by first | (have n2 := norm_yn a2 (by have := a0.lo; omega); rw [← hr2] at n2; exact decide_eq_true (by omega)) | (have p1 := q1.1; exact decide_eq_true (by omega)) | exact decide_eq_true (U64.lo _) | exact decide_eq_true (by have := U64.lo a0; omega)) ?_
        exact Run.l (by kernel_rfl) (by kernel_rfl) (by kernel_rfl) (by kernel_rfl) (ok_bits_Div64_L1 ((4294967296 - (wu64 ((wu64 ((wu64 ((wu64 (x_un32.val * 4294967296)).val + x_un1.val)).val - (wu64 (x_q1.val * x_y.val)).val)).val - (wu64 ((wu64 (Int.tdiv (wu64 ((wu64 ((wu64 (x_un32.val * 4294967296)).val + x_un1.val)).val - (wu64 (x_q1.val * x_y.val)).val)).val x_yn1.val)).val * x_yn1.val)).val)).val).toNat + 1) x_y x_s x_yn1 x_yn0 x_un0 x_q1 (wu64 ((wu64 ((wu64 (x_un32.val * 4294967296)).val + x_un1.val)).val - (wu64 (x_q1.val * x_y.val)).val)) (wu64 ((wu64 ((wu64 ((wu64 (x_un32.val * 4294967296)).val + x_un1.val)).val - (wu64 (x_q1.val * x_y.val)).val)).val - (wu64 ((wu64 (Int.tdiv (wu64 ((wu64 ((wu64 (x_un32.val * 4294967296)).val + x_un1.val)).val - (wu64 (x_q1.val * x_y.val)).val)).val x_yn1.val)).val * x_yn1.val)).val)) (wu64 (Int.tdiv (wu64 ((wu64 ((wu64 (x_un32.val * 4294967296)).val + x_un1.val)).val - (wu64 (x_q1.val * x_y.val)).val)).val x_yn1.val)) (by first | exact rem_lt _ _ q1.1 q1.2 | exact q1 | exact Nat.lt_succ_self _) (by first | exact rem_lt _ _ q1.1 q1.2 | exact q1 | exact Nat.lt_succ_self _) (by first | exact rem_lt _ _ q1.1 q1.2 | exact q1 | exact Nat.lt_succ_self _))

theorem ok_bits_Div64 (a0 : U64) (a1 : U64) (a2 : U64) (p0 : a0.val < a2.val) : Fun Tryz.prog 194 [] #[vU a0, vU a1, vU a2] (vT_U_U (F_bits_Div64 a0 a1 a2)) [] := by
  refine Fun.ofH 400 E_ok mixed Tryz.func194 (by kernel_rfl) (by kernel_rfl) ?_
  unfold F_bits_Div64
  refine Run.kn (c := (a2.val == 0)) (by kernel_rfl) (by have q := a0.lo; simp; omega) ?_
  refine Run.kn (c := (decide (a2.val ≤ a0.val))) (by kernel_rfl) (by simp; omega) ?_
  refine Run.jk (gv := vT_U_U) (by kernel_rfl) (fun h1 => ?_) (fun h1 => ?_)
  · refine Run.k (c := (decide (a2.val ≠ 0))) (by kernel_rfl) (by first | (have n2 := norm_yn a2 (by have := a0.lo; omega); rw [← hr2] at n2; exact decide_eq_true (by omega)) | (have p1 := q1.1; exact decide_eq_true (by omega)) | exact decide_eq_true (U64.lo _) | exact decide_eq_true (by have := U64.lo a0; omega)) ?_
    refine Run.k (c := (decide (a2.val ≠ 0))) (by kernel_rfl) (by first | (have n2 := norm_yn a2 (by have := a0.lo; omega); rw [← hr2] at n2; exact decide_eq_true (by omega)) | (have p1 := q1.1; exact decide_eq_true (by omega)) | exact decide_eq_true (U64.lo _) | exact decide_eq_true (by have := U64.lo a0; omega)) ?_
    exact Run.rh (k := 0) (by kernel_rfl) (by kernel_rfl)
  · refine Run.bk (e := vI) (gv := vT_U_U) (by kernel_rfl) (by kernel_rfl) (ok_bits_LeadingZeros64 _) (fun _ => rfl) fun r2 hr2 => ?_
    refine Run.k (c := (decide (0 ≤ (wu64 r2.val).val))) (by kernel_rfl) (by first | (have n2 := norm_yn a2 (by have := a0.lo; omega); rw [← hr2] at n2; exact decide_eq_true (by omega)) | (have p1 := q1.1; exact decide_eq_true (by omega)) | exact decide_eq_true (U64.lo _) | exact decide_eq_true (by have := U64.lo a0; omega)) ?_
    refine Run.p [true] (by kernel_rfl) ?_
    refine Run.k (c := (decide (0 ≤ (wu64 r2.val).val))) (by kernel_rfl) (by first | (have n2 := norm_yn a2 (by have := a0.lo; omega); rw [← hr2] at n2; exact decide_eq_true (by omega)) | (have p1 := q1.1; exact decide_eq_true (by omega)) | exact decide_eq_true (U64.lo _) | exact decide_eq_true (by have := U64.lo a0; omega)) ?_
    refine Run.k (c := (decide (0 ≤ (wu64 (64 - (wu64 r2.val).val)).val))) (by kernel_rfl) (by first | (have n2 := norm_yn a2 (by have := a0.lo; omega); rw [← hr2] at n2; exact decide_eq_true (by omega)) | (have p1 := q1.1; exact decide_eq_true (by omega)) | exact decide_eq_true (U64.lo _) | exact decide_eq_true (by have := U64.lo a0; omega)) ?_
    refine Run.k (c := (decide (0 ≤ (wu64 r2.val).val))) (by kernel_rfl) (by first | (have n2 := norm_yn a2 (by have := a0.lo; omega); rw [← hr2] at n2; exact decide_eq_true (by omega)) | (have p1 := q1.1; exact decide_eq_true (by omega)) | exact decide_eq_true (U64.lo _) | exact decide_eq_true (by have := U64.lo a0; omega)) ?_
    refine Run.p [true] (by kernel_rfl) ?_
    refine Run.k (c := (decide ((ishr (ishl .u64 a2.val (wu64 r2.val).val) 32).val ≠ 0))) (by kernel_rfl) (by first | (have n2 := norm_yn a2 (by have := a0.lo; omega); rw [← hr2] at n2; exact decide_eq_true (by omega)) | (have p1 := q1.1; exact decide_eq_true (by omega)) | exact decide_eq_true (U64.lo _) | exact decide_eq_true (by have := U64.lo a0; omega)) ?_
    exact Run.l (by kernel_rfl) (by kernel_rfl) (by kernel_rfl) (by kernel_rfl) (ok_bits_Div64_L0 ((4294967296 - (wu64 ((ior .u64 (ishl .u64 a0.val (wu64 r2.val).val).val (ishr a1 (wu64 (64 - (wu64 r2.val).val)).val).val).val - (wu64 ((wu64 (Int.tdiv (ior .u64 (ishl .u64 a0.val (wu64 r2.val).val).val (ishr a1 (wu64 (64 - (wu64 r2.val).val)).val).val).val (ishr (ishl .u64 a2.val (wu64 r2.val).val) 32).val)).val * (ishr (ishl .u64 a2.val (wu64 r2.val).val) 32).val)).val)).val).toNat + 1) (ishl .u64 a2.val (wu64 r2.val).val) (wu64 r2.val) (ishr (ishl .u64 a2.val (wu64 r2.val).val) 32) (iand .u64 (ishl .u64 a2.val (wu64 r2.val).val).val 4294967295) (ior .u64 (ishl .u64 a0.val (wu64 r2.val).val).val (ishr a1 (wu64 (64 - (wu64 r2.val).val)).val).val) (ishr (ishl .u64 a1.val (wu64 r2.val).val) 32) (iand .u64 (ishl .u64 a1.val (wu64 r2.val).val).val 4294967295) (wu64 (Int.tdiv (ior .u64 (ishl .u64 a0.val (wu64 r2.val).val).val (ishr a1 (wu64 (64 - (wu64 r2.val).val)).val).val).val (ishr (ishl .u64 a2.val (wu64 r2.val).val) 32).val)) (wu64 ((ior .u64 (ishl .u64 a0.val (wu64 r2.val).val).val (ishr a1 (wu64 (64 - (wu64 r2.val).val)).val).val).val - (wu64 ((wu64 (Int.tdiv (ior .u64 (ishl .u64 a0.val (wu64 r2.val).val).val (ishr a1 (wu64 (64 - (wu64 r2.val).val)).val).val).val (ishr (ishl .u64 a2.val (wu64 r2.val).val) 32).val)).val * (ishr (ishl .u64 a2.val (wu64 r2.val).val) 32).val)).val)) (by have n2 := norm_yn a2 (by have := a0.lo; omega); rw [← hr2] at n2; first | exact rem_lt _ _ n2.1 n2.2 | exact n2 | exact Nat.lt_succ_self _) (by have n2 := norm_yn a2 (by have := a0.lo; omega); rw [← hr2] at n2; first | exact rem_lt _ _ n2.1 n2.2 | exact n2 | exact Nat.lt_succ_self _) (by have n2 := norm_yn a2 (by have := a0.lo; omega); rw [← hr2] at n2; first | exact rem_lt _ _ n2.1 n2.2 | exact n2 | exact Nat.lt_succ_self _))

theorem ok_impl_divided (a0 : U64) (a1 : U64) (a2 : U64) (p0 : a2.val ≠ 0) : Fun Tryz.prog 191 [] #[vU a0, vU a1, vU a2] (vT_U_U_U (F_impl_divided a0 a1 a2)) [] := by
  refine Fun.ofH 400 E_ok mixed Tryz.func191 (by kernel_rfl) (by kernel_rfl) ?_
  unfold F_impl_divided
  refine Run.k (c := (decide (a2.val ≠ 0))) (by kernel_rfl) (by first | exact decide_eq_true p0 | exact imod_lt _ _ p0) ?_
  refine Run.k (c := (decide (a2.val ≠ 0))) (by kernel_rfl) (by first | exact decide_eq_true p0 | exact imod_lt _ _ p0) ?_
  refine Run.bk (e := vT_U_U) (gv := vT_U_U_U) (by kernel_rfl) (by kernel_rfl) (ok_bits_Div64 _ _ _ (by first | exact decide_eq_true p0 | exact imod_lt _ _ p0)) (fun _ => rfl) fun r1 hr1 => ?_
  exact Run.rh (k := 0) (by kernel_rfl) (by kernel_rfl)

theorem ok_impl_Wide_negative (a0 : Wd) : Fun Tryz.prog 192 [] #[vWd a0] (vWd (F_impl_Wide_negative a0)) [] := by
  refine Fun.ofH 400 E_ok mixed Tryz.func192 (by kernel_rfl) (by kernel_rfl) ?_
  unfold F_impl_Wide_negative
  refine Run.k (c := (decide (0 ≤ (0 : Int)) && (decide (0 ≤ (a0.lo.val : Int)) && (decide ((a0.lo.val : Int) ≤ 18446744073709551615) && (decide (0 ≤ (0 : Int)) && decide ((0 : Int) ≤ 1)))))) (by kernel_rfl) (by simp only [Bool.and_eq_true, decide_eq_true_eq]; exact ⟨U64.lo (cu64 0), U64.lo a0.lo, U64.hi a0.lo, U64.lo (cu64 0), (by decide)⟩) ?_
  refine Run.k (c := (decide (0 ≤ (0 : Int)) && (decide (0 ≤ ((wu64 a0.hi.val).val : Int)) && (decide (((wu64 a0.hi.val).val : Int) ≤ 18446744073709551615) && (decide (0 ≤ ((sbb_hi (cu64 0) a0.lo (cu64 0)).val : Int)) && decide (((sbb_hi (cu64 0) a0.lo (cu64 0)).val : Int) ≤ 1)))))) (by kernel_rfl) (by simp only [Bool.and_eq_true, decide_eq_true_eq]; exact ⟨U64.lo (cu64 0), U64.lo (wu64 a0.hi.val), U64.hi (wu64 a0.hi.val), U64.lo (sbb_hi (cu64 0) a0.lo (cu64 0)), (sbb_hi_le _ _ _)⟩) ?_
  exact Run.rh (k := 0) (by kernel_rfl) (by kernel_rfl)

theorem ok_impl_WideDiv (a0 : Wd) (a1 : I64) : Fun Tryz.prog 174 [] #[vWd a0, vI a1] (vT_Wd_I_B (F_impl_WideDiv a0 a1)) [] := by
  refine Fun.ofH 400 E_ok mixed Tryz.func174 (by kernel_rfl) (by kernel_rfl) ?_
  unfold F_impl_WideDiv
  refine Run.jk (gv := vT_Wd_I_B) (by kernel_rfl) (fun h1 => ?_) (fun h1 => ?_)
  · exact Run.rh (k := 0) (by kernel_rfl) (by kernel_rfl)
  · refine Run.jk (gv := vT_Wd_I_B) (by kernel_rfl) (fun h2 => ?_) (fun h2 => ?_)
    · refine Run.bk (e := vT_U_U_U) (gv := vT_Wd_I_B) (by kernel_rfl) (by kernel_rfl) (ok_impl_divided _ _ _ (by have q := a1.hi; simp only [wu64_val, decide_eq_true_eq, decide_eq_false_iff_not] at *; omega)) (fun _ => rfl) fun r3 hr3 => ?_
      exact Run.rh (k := 0) (by kernel_rfl) (by kernel_rfl)
    · refine Run.bk (e := vWd) (gv := vT_Wd_I_B) (by kernel_rfl) (by kernel_rfl) (ok_impl_Wide_negative _) (fun _ => rfl) fun r4 hr4 => ?_
      refine Run.bk (e := vT_U_U_U) (gv := vT_Wd_I_B) (by kernel_rfl) (by kernel_rfl) (ok_impl_divided _ _ _ (by have q := a1.hi; simp only [wu64_val, decide_eq_true_eq, decide_eq_false_iff_not] at *; omega)) (fun _ => rfl) fun r5 hr5 => ?_
      refine Run.jk (gv := vT_Wd_I_B) (by kernel_rfl) (fun h6 => ?_) (fun h6 => ?_)
      · refine Run.bk (e := vWd) (gv := vT_Wd_I_B) (by kernel_rfl) (by kernel_rfl) (ok_impl_Wide_negative _) (fun _ => rfl) fun r7 hr7 => ?_
        exact Run.rh (k := 0) (by kernel_rfl) (by kernel_rfl)
      · refine Run.k (c := (decide (0 ≤ (r5.2.1.val : Int)) && (decide (0 ≤ (1 : Int)) && (decide (0 ≤ (0 : Int)) && decide ((0 : Int) ≤ 1))))) (by kernel_rfl) (by simp only [Bool.and_eq_true, decide_eq_true_eq]; exact ⟨U64.lo r5.2.1, U64.lo (cu64 1), U64.lo (cu64 0), (by decide)⟩) ?_
        refine Run.bk (e := vWd) (gv := vT_Wd_I_B) (by kernel_rfl) (by kernel_rfl) (ok_impl_Wide_negative _) (fun _ => rfl) fun r8 hr8 => ?_
        exact Run.rh (k := 0) (by kernel_rfl) (by kernel_rfl)

theorem ok_impl_MulDivFloor (a0 : I64) (a1 : I64) (a2 : I64) : Fun Tryz.prog 146 [] #[vI a0, vI a1, vI a2] (vT_I_B (F_impl_MulDivFloor a0 a1 a2)) [] := by
  refine Fun.ofH 400 E_ok mixed Tryz.func146 (by kernel_rfl) (by kernel_rfl) ?_
  unfold F_impl_MulDivFloor
  refine Run.bH (e := vWd) (gv := vT_I_B) (by kernel_rfl) (by kernel_rfl) (ok_impl_WideMul _ _) (fun _ => rfl) fun r1 => ?_
  refine Run.bH (e := vT_Wd_I_B) (gv := vT_I_B) (by kernel_rfl) (by kernel_rfl) (ok_impl_WideDiv _ _) (fun _ => rfl) fun r2 => ?_
  refine Run.jH (gv := vT_I_B) (by kernel_rfl) (?_) (?_)
  · exact Run.rh (k := 0) (by kernel_rfl) (by kernel_rfl)
  · refine Run.bH (e := vT_I_B) (gv := vT_I_B) (by kernel_rfl) (by kernel_rfl) (ok_impl_WideInt _) (fun _ => rfl) fun r3 => ?_
    exact Run.rh (k := 0) (by kernel_rfl) (by kernel_rfl)

theorem ok_impl_DivDown (a0 : I64) (a1 : I64) : Fun Tryz.prog 113 [] #[vI a0, vI a1] (vT_I_B (F_impl_DivDown a0 a1)) [] := by
  refine Fun.ofH 400 E_ok mixed Tryz.func113 (by kernel_rfl) (by kernel_rfl) ?_
  unfold F_impl_DivDown
  refine Run.bH (e := vB) (gv := vT_I_B) (by kernel_rfl) (by kernel_rfl) (ok_impl_ValidFix _) (fun _ => rfl) fun r1 => ?_
  refine Run.jH (gv := vT_I_B) (by kernel_rfl) (?_) (?_)
  · refine Run.p [true, true, true, true] (by kernel_rfl) ?_
    exact Run.rh (k := 0) (by kernel_rfl) (by kernel_rfl)
  · refine Run.p [false] (by kernel_rfl) ?_
    refine Run.bH (e := vB) (gv := vT_I_B) (by kernel_rfl) (by kernel_rfl) (ok_impl_ValidFix _) (fun _ => rfl) fun r2 => ?_
    refine Run.p [false, false] (by kernel_rfl) ?_
    refine Run.jH (gv := vT_I_B) (by kernel_rfl) (?_) (?_)
    · exact Run.rh (k := 0) (by kernel_rfl) (by kernel_rfl)
    · refine Run.jH (gv := vT_I_B) (by kernel_rfl) (?_) (?_)
      · refine Run.bH (e := vT_I_B) (gv := vT_I_B) (by kernel_rfl) (by kernel_rfl) (ok_impl_MulDivFloor _ _ _) (fun _ => rfl) fun r3 => ?_
        refine Run.bH (e := vT_I_B) (gv := vT_I_B) (by kernel_rfl) (by kernel_rfl) (ok_impl_fixed _ _) (fun _ => rfl) fun r4 => ?_
        exact Run.rh (k := 0) (by kernel_rfl) (by kernel_rfl)
      · refine Run.bH (e := vT_I_B) (gv := vT_I_B) (by kernel_rfl) (by kernel_rfl) (ok_impl_MulDivFloor _ _ _) (fun _ => rfl) fun r5 => ?_
        refine Run.bH (e := vT_I_B) (gv := vT_I_B) (by kernel_rfl) (by kernel_rfl) (ok_impl_fixed _ _) (fun _ => rfl) fun r6 => ?_
        exact Run.rh (k := 0) (by kernel_rfl) (by kernel_rfl)

theorem ok_impl_DivUp (a0 : I64) (a1 : I64) : Fun Tryz.prog 114 [] #[vI a0, vI a1] (vT_I_B (F_impl_DivUp a0 a1)) [] := by
  refine Fun.ofH 400 E_ok mixed Tryz.func114 (by kernel_rfl) (by kernel_rfl) ?_
  unfold F_impl_DivUp
  refine Run.bH (e := vB) (gv := vT_I_B) (by kernel_rfl) (by kernel_rfl) (ok_impl_ValidFix _) (fun _ => rfl) fun r1 => ?_
  refine Run.jH (gv := vT_I_B) (by kernel_rfl) (?_) (?_)
  · refine Run.p [true, true, true, true] (by kernel_rfl) ?_
    exact Run.rh (k := 0) (by kernel_rfl) (by kernel_rfl)
  · refine Run.p [false] (by kernel_rfl) ?_
    refine Run.bH (e := vB) (gv := vT_I_B) (by kernel_rfl) (by kernel_rfl) (ok_impl_ValidFix _) (fun _ => rfl) fun r2 => ?_
    refine Run.p [false, false] (by kernel_rfl) ?_
    refine Run.jH (gv := vT_I_B) (by kernel_rfl) (?_) (?_)
    · exact Run.rh (k := 0) (by kernel_rfl) (by kernel_rfl)
    · refine Run.bH (e := vT_I_B) (gv := vT_I_B) (by kernel_rfl) (by kernel_rfl) (ok_impl_DivDown _ _) (fun _ => rfl) fun r3 => ?_
      exact Run.rh (k := 0) (by kernel_rfl) (by kernel_rfl)

theorem ok_impl_combine__impl_DivDown__impl_DivUp (a0 : Iv) (a1 : Iv) : Fun Tryz.prog 90 [] #[vIv a0, vIv a1, .func (.func 113) #[] #[], .func (.func 114) #[] #[]] (vIv (F_impl_combine__impl_DivDown__impl_DivUp a0 a1)) [] := by
  refine Fun.ofH 400 E_ok mixed Tryz.func90 (by kernel_rfl) (by kernel_rfl) ?_
  unfold F_impl_combine__impl_DivDown__impl_DivUp
  refine Run.u 400 E_ok mixed Tryz.func90 ?_
  refine Run.p [true] (by kernel_rfl) ?_
  refine Run.u 400 E_ok mixed Tryz.func90 ?_
  refine Run.p [true] (by kernel_rfl) ?_
  refine Run.bH (e := vT_I_B) (gv := vIv) (by kernel_rfl) (by kernel_rfl) (ok_impl_DivDown _ _) (fun _ => rfl) fun r1 => ?_
  refine Run.bH (e := vT_I_B) (gv := vIv) (by kernel_rfl) (by kernel_rfl) (ok_impl_DivUp _ _) (fun _ => rfl) fun r2 => ?_
  refine Run.jH (gv := vIv) (by kernel_rfl) (?_) (?_)
  · refine Run.p [true, true, true] (by kernel_rfl) ?_
    refine Run.bH (e := vIv) (gv := vIv) (by kernel_rfl) (by kernel_rfl) (ok_impl_Whole) (fun _ => rfl) fun r3 => ?_
    exact Run.rh (k := 0) (by kernel_rfl) (by kernel_rfl)
  · refine Run.p [false, false] (by kernel_rfl) ?_
    refine Run.jH (gv := vIv) (by kernel_rfl) (?_) (?_)
    · refine Run.bH (e := vIv) (gv := vIv) (by kernel_rfl) (by kernel_rfl) (ok_impl_Whole) (fun _ => rfl) fun r4 => ?_
      exact Run.rh (k := 0) (by kernel_rfl) (by kernel_rfl)
    · refine Run.p [true] (by kernel_rfl) ?_
      refine Run.u 400 E_ok mixed Tryz.func90 ?_
      refine Run.p [true] (by kernel_rfl) ?_
      refine Run.bH (e := vT_I_B) (gv := vIv) (by kernel_rfl) (by kernel_rfl) (ok_impl_DivDown _ _) (fun _ => rfl) fun r5 => ?_
      refine Run.bH (e := vT_I_B) (gv := vIv) (by kernel_rfl) (by kernel_rfl) (ok_impl_DivUp _ _) (fun _ => rfl) fun r6 => ?_
      refine Run.jH (gv := vIv) (by kernel_rfl) (?_) (?_)
      · refine Run.p [true, true, true] (by kernel_rfl) ?_
        refine Run.bH (e := vIv) (gv := vIv) (by kernel_rfl) (by kernel_rfl) (ok_impl_Whole) (fun _ => rfl) fun r7 => ?_
        exact Run.rh (k := 0) (by kernel_rfl) (by kernel_rfl)
      · refine Run.p [false, false] (by kernel_rfl) ?_
        refine Run.jH (gv := vIv) (by kernel_rfl) (?_) (?_)
        · refine Run.bH (e := vIv) (gv := vIv) (by kernel_rfl) (by kernel_rfl) (ok_impl_Whole) (fun _ => rfl) fun r8 => ?_
          exact Run.rh (k := 0) (by kernel_rfl) (by kernel_rfl)
        · refine Run.p [false] (by kernel_rfl) ?_
          refine Run.u 400 E_ok mixed Tryz.func90 ?_
          refine Run.p [false] (by kernel_rfl) ?_
          refine Run.u 400 E_ok mixed Tryz.func90 ?_
          refine Run.p [true] (by kernel_rfl) ?_
          refine Run.u 400 E_ok mixed Tryz.func90 ?_
          refine Run.p [true] (by kernel_rfl) ?_
          refine Run.bH (e := vT_I_B) (gv := vIv) (by kernel_rfl) (by kernel_rfl) (ok_impl_DivDown _ _) (fun _ => rfl) fun r9 => ?_
          refine Run.bH (e := vT_I_B) (gv := vIv) (by kernel_rfl) (by kernel_rfl) (ok_impl_DivUp _ _) (fun _ => rfl) fun r10 => ?_
          refine Run.jH (gv := vIv) (by kernel_rfl) (?_) (?_)
          · refine Run.p [true, true, true] (by kernel_rfl) ?_
            refine Run.bH (e := vIv) (gv := vIv) (by kernel_rfl) (by kernel_rfl) (ok_impl_Whole) (fun _ => rfl) fun r11 => ?_
            exact Run.rh (k := 0) (by kernel_rfl) (by kernel_rfl)
          · refine Run.p [false, false] (by kernel_rfl) ?_
            refine Run.jH (gv := vIv) (by kernel_rfl) (?_) (?_)
            · refine Run.bH (e := vIv) (gv := vIv) (by kernel_rfl) (by kernel_rfl) (ok_impl_Whole) (fun _ => rfl) fun r12 => ?_
              exact Run.rh (k := 0) (by kernel_rfl) (by kernel_rfl)
            · refine Run.p [false] (by kernel_rfl) ?_
              refine Run.u 400 E_ok mixed Tryz.func90 ?_
              refine Run.p [true] (by kernel_rfl) ?_
              refine Run.bH (e := vT_I_B) (gv := vIv) (by kernel_rfl) (by kernel_rfl) (ok_impl_DivDown _ _) (fun _ => rfl) fun r13 => ?_
              refine Run.bH (e := vT_I_B) (gv := vIv) (by kernel_rfl) (by kernel_rfl) (ok_impl_DivUp _ _) (fun _ => rfl) fun r14 => ?_
              refine Run.jH (gv := vIv) (by kernel_rfl) (?_) (?_)
              · refine Run.p [true, true, true] (by kernel_rfl) ?_
                refine Run.bH (e := vIv) (gv := vIv) (by kernel_rfl) (by kernel_rfl) (ok_impl_Whole) (fun _ => rfl) fun r15 => ?_
                exact Run.rh (k := 0) (by kernel_rfl) (by kernel_rfl)
              · refine Run.p [false, false] (by kernel_rfl) ?_
                refine Run.jH (gv := vIv) (by kernel_rfl) (?_) (?_)
                · refine Run.bH (e := vIv) (gv := vIv) (by kernel_rfl) (by kernel_rfl) (ok_impl_Whole) (fun _ => rfl) fun r16 => ?_
                  exact Run.rh (k := 0) (by kernel_rfl) (by kernel_rfl)
                · refine Run.p [false] (by kernel_rfl) ?_
                  refine Run.u 400 E_ok mixed Tryz.func90 ?_
                  refine Run.p [false] (by kernel_rfl) ?_
                  refine Run.u 400 E_ok mixed Tryz.func90 ?_
                  refine Run.p [false] (by kernel_rfl) ?_
                  refine Run.bH (e := vIv) (gv := vIv) (by kernel_rfl) (by kernel_rfl) (ok_impl_bounded _ _ _) (fun _ => rfl) fun r17 => ?_
                  exact Run.rh (k := 0) (by kernel_rfl) (by kernel_rfl)

theorem ok_impl_DivI (a0 : Iv) (a1 : Iv) : Fun Tryz.prog 51 [] #[vIv a0, vIv a1] (vIv (F_impl_DivI a0 a1)) [] := by
  refine Fun.ofH 400 E_ok mixed Tryz.func51 (by kernel_rfl) (by kernel_rfl) ?_
  unfold F_impl_DivI
  refine Run.bH (e := vB) (gv := vIv) (by kernel_rfl) (by kernel_rfl) (ok_impl_areBounded _ _) (fun _ => rfl) fun r1 => ?_
  refine Run.jH (gv := vIv) (by kernel_rfl) (?_) (?_)
  · refine Run.p [true, true, true] (by kernel_rfl) ?_
    refine Run.bH (e := vIv) (gv := vIv) (by kernel_rfl) (by kernel_rfl) (ok_impl_Whole) (fun _ => rfl) fun r2 => ?_
    exact Run.rh (k := 0) (by kernel_rfl) (by kernel_rfl)
  · refine Run.p [false] (by kernel_rfl) ?_
    refine Run.bH (e := vB) (gv := vIv) (by kernel_rfl) (by kernel_rfl) (ok_impl_HasI _ _) (fun _ => rfl) fun r3 => ?_
    refine Run.p [false] (by kernel_rfl) ?_
    refine Run.jH (gv := vIv) (by kernel_rfl) (?_) (?_)
    · refine Run.bH (e := vIv) (gv := vIv) (by kernel_rfl) (by kernel_rfl) (ok_impl_Whole) (fun _ => rfl) fun r4 => ?_
      exact Run.rh (k := 0) (by kernel_rfl) (by kernel_rfl)
    · refine Run.bH (e := vIv) (gv := vIv) (by kernel_rfl) (by kernel_rfl) (ok_impl_combine__impl_DivDown__impl_DivUp _ _) (fun _ => rfl) fun r5 => ?_
      exact Run.rh (k := 0) (by kernel_rfl) (by kernel_rfl)

theorem ok_impl_combine__impl_MulDown__impl_MulUp (a0 : Iv) (a1 : Iv) : Fun Tryz.prog 90 [] #[vIv a0, vIv a1, .func (.func 91) #[] #[], .func (.func 92) #[] #[]] (vIv (F_impl_combine__impl_MulDown__impl_MulUp a0 a1)) [] := by
  refine Fun.ofH 400 E_ok mixed Tryz.func90 (by kernel_rfl) (by kernel_rfl) ?_
  unfold F_impl_combine__impl_MulDown__impl_MulUp
  refine Run.u 400 E_ok mixed Tryz.func90 ?_
  refine Run.p [true] (by kernel_rfl) ?_
  refine Run.u 400 E_ok mixed Tryz.func90 ?_
  refine Run.p [true] (by kernel_rfl) ?_
  refine Run.bH (e := vT_I_B) (gv := vIv) (by kernel_rfl) (by kernel_rfl) (ok_impl_MulDown _ _) (fun _ => rfl) fun r1 => ?_
  refine Run.bH (e := vT_I_B) (gv := vIv) (by kernel_rfl) (by kernel_rfl) (ok_impl_MulUp _ _) (fun _ => rfl) fun r2 => ?_
  refine Run.jH (gv := vIv) (by kernel_rfl) (?_) (?_)
  · refine Run.p [true, true, true] (by kernel_rfl) ?_
    refine Run.bH (e := vIv) (gv := vIv) (by kernel_rfl) (by kernel_rfl) (ok_impl_Whole) (fun _ => rfl) fun r3 => ?_
    exact Run.rh (k := 0) (by kernel_rfl) (by kernel_rfl)
  · refine Run.p [false, false] (by kernel_rfl) ?_
    refine Run.jH (gv := vIv) (by kernel_rfl) (?_) (?_)
    · refine Run.bH (e := vIv) (gv := vIv) (by kernel_rfl) (by kernel_rfl) (ok_impl_Whole) (fun _ => rfl) fun r4 => ?_
      exact Run.rh (k := 0) (by kernel_rfl) (by kernel_rfl)
    · refine Run.p [true] (by kernel_rfl) ?_
      refine Run.u 400 E_ok mixed Tryz.func90 ?_
      refine Run.p [true] (by kernel_rfl) ?_
      refine Run.bH (e := vT_I_B) (gv := vIv) (by kernel_rfl) (by kernel_rfl) (ok_impl_MulDown _ _) (fun _ => rfl) fun r5 => ?_
      refine Run.bH (e := vT_I_B) (gv := vIv) (by kernel_rfl) (by kernel_rfl) (ok_impl_MulUp _ _) (fun _ => rfl) fun r6 => ?_
      refine Run.jH (gv := vIv) (by kernel_rfl) (?_) (?_)
      · refine Run.p [true, true, true] (by kernel_rfl) ?_
        refine Run.bH (e := vIv) (gv := vIv) (by kernel_rfl) (by kernel_rfl) (ok_impl_Whole) (fun _ => rfl) fun r7 => ?_
        exact Run.rh (k := 0) (by kernel_rfl) (by kernel_rfl)
      · refine Run.p [false, false] (by kernel_rfl) ?_
        refine Run.jH (gv := vIv) (by kernel_rfl) (?_) (?_)
        · refine Run.bH (e := vIv) (gv := vIv) (by kernel_rfl) (by kernel_rfl) (ok_impl_Whole) (fun _ => rfl) fun r8 => ?_
          exact Run.rh (k := 0) (by kernel_rfl) (by kernel_rfl)
        · refine Run.p [false] (by kernel_rfl) ?_
          refine Run.u 400 E_ok mixed Tryz.func90 ?_
          refine Run.p [false] (by kernel_rfl) ?_
          refine Run.u 400 E_ok mixed Tryz.func90 ?_
          refine Run.p [true] (by kernel_rfl) ?_
          refine Run.u 400 E_ok mixed Tryz.func90 ?_
          refine Run.p [true] (by kernel_rfl) ?_
          refine Run.bH (e := vT_I_B) (gv := vIv) (by kernel_rfl) (by kernel_rfl) (ok_impl_MulDown _ _) (fun _ => rfl) fun r9 => ?_
          refine Run.bH (e := vT_I_B) (gv := vIv) (by kernel_rfl) (by kernel_rfl) (ok_impl_MulUp _ _) (fun _ => rfl) fun r10 => ?_
          refine Run.jH (gv := vIv) (by kernel_rfl) (?_) (?_)
          · refine Run.p [true, true, true] (by kernel_rfl) ?_
            refine Run.bH (e := vIv) (gv := vIv) (by kernel_rfl) (by kernel_rfl) (ok_impl_Whole) (fun _ => rfl) fun r11 => ?_
            exact Run.rh (k := 0) (by kernel_rfl) (by kernel_rfl)
          · refine Run.p [false, false] (by kernel_rfl) ?_
            refine Run.jH (gv := vIv) (by kernel_rfl) (?_) (?_)
            · refine Run.bH (e := vIv) (gv := vIv) (by kernel_rfl) (by kernel_rfl) (ok_impl_Whole) (fun _ => rfl) fun r12 => ?_
              exact Run.rh (k := 0) (by kernel_rfl) (by kernel_rfl)
            · refine Run.p [false] (by kernel_rfl) ?_
              refine Run.u 400 E_ok mixed Tryz.func90 ?_
              refine Run.p [true] (by kernel_rfl) ?_
              refine Run.bH (e := vT_I_B) (gv := vIv) (by kernel_rfl) (by kernel_rfl) (ok_impl_MulDown _ _) (fun _ => rfl) fun r13 => ?_
              refine Run.bH (e := vT_I_B) (gv := vIv) (by kernel_rfl) (by kernel_rfl) (ok_impl_MulUp _ _) (fun _ => rfl) fun r14 => ?_
              refine Run.jH (gv := vIv) (by kernel_rfl) (?_) (?_)
              · refine Run.p [true, true, true] (by kernel_rfl) ?_
                refine Run.bH (e := vIv) (gv := vIv) (by kernel_rfl) (by kernel_rfl) (ok_impl_Whole) (fun _ => rfl) fun r15 => ?_
                exact Run.rh (k := 0) (by kernel_rfl) (by kernel_rfl)
              · refine Run.p [false, false] (by kernel_rfl) ?_
                refine Run.jH (gv := vIv) (by kernel_rfl) (?_) (?_)
                · refine Run.bH (e := vIv) (gv := vIv) (by kernel_rfl) (by kernel_rfl) (ok_impl_Whole) (fun _ => rfl) fun r16 => ?_
                  exact Run.rh (k := 0) (by kernel_rfl) (by kernel_rfl)
                · refine Run.p [false] (by kernel_rfl) ?_
                  refine Run.u 400 E_ok mixed Tryz.func90 ?_
                  refine Run.p [false] (by kernel_rfl) ?_
                  refine Run.u 400 E_ok mixed Tryz.func90 ?_
                  refine Run.p [false] (by kernel_rfl) ?_
                  refine Run.bH (e := vIv) (gv := vIv) (by kernel_rfl) (by kernel_rfl) (ok_impl_bounded _ _ _) (fun _ => rfl) fun r17 => ?_
                  exact Run.rh (k := 0) (by kernel_rfl) (by kernel_rfl)

theorem ok_impl_MulI (a0 : Iv) (a1 : Iv) : Fun Tryz.prog 35 [] #[vIv a0, vIv a1] (vIv (F_impl_MulI a0 a1)) [] := by
  refine Fun.ofH 400 E_ok mixed Tryz.func35 (by kernel_rfl) (by kernel_rfl) ?_
  unfold F_impl_MulI
  refine Run.bH (e := vB) (gv := vIv) (by kernel_rfl) (by kernel_rfl) (ok_impl_areBounded _ _) (fun _ => rfl) fun r1 => ?_
  refine Run.jH (gv := vIv) (by kernel_rfl) (?_) (?_)
  · refine Run.bH (e := vIv) (gv := vIv) (by kernel_rfl) (by kernel_rfl) (ok_impl_Whole) (fun _ => rfl) fun r2 => ?_
    exact Run.rh (k := 0) (by kernel_rfl) (by kernel_rfl)
  · refine Run.bH (e := vIv) (gv := vIv) (by kernel_rfl) (by kernel_rfl) (ok_impl_combine__impl_MulDown__impl_MulUp _ _) (fun _ => rfl) fun r3 => ?_
    exact Run.rh (k := 0) (by kernel_rfl) (by kernel_rfl)

theorem ok_impl_series (a0 : Iv) (a1 : I64) : Fun Tryz.prog 189 [] #[vIv a0, vI a1] (vIv (F_impl_series a0 a1)) [] := by
  refine Fun.ofH 400 E_ok mixed Tryz.func189 (by kernel_rfl) (by kernel_rfl) ?_
  unfold F_impl_series
  refine Run.bH (e := vIv) (gv := vIv) (by kernel_rfl) (by kernel_rfl) (ok_impl_Integer _) (fun _ => rfl) fun r1 => ?_
  refine Run.u 400 E_ok mixed Tryz.func189 ?_
  refine Run.p [true] (by kernel_rfl) ?_
  refine Run.bH (e := vIv) (gv := vIv) (by kernel_rfl) (by kernel_rfl) (ok_impl_Integer _) (fun _ => rfl) fun r2 => ?_
  refine Run.bH (e := vIv) (gv := vIv) (by kernel_rfl) (by kernel_rfl) (ok_impl_Integer _) (fun _ => rfl) fun r3 => ?_
  refine Run.bH (e := vIv) (gv := vIv) (by kernel_rfl) (by kernel_rfl) (ok_impl_DivI _ _) (fun _ => rfl) fun r4 => ?_
  refine Run.bH (e := vIv) (gv := vIv) (by kernel_rfl) (by kernel_rfl) (ok_impl_MulI _ _) (fun _ => rfl) fun r5 => ?_
  refine Run.bH (e := vIv) (gv := vIv) (by kernel_rfl) (by kernel_rfl) (ok_impl_SubI _ _) (fun _ => rfl) fun r6 => ?_
  refine Run.u 400 E_ok mixed Tryz.func189 ?_
  refine Run.p [true] (by kernel_rfl) ?_
  refine Run.bH (e := vIv) (gv := vIv) (by kernel_rfl) (by kernel_rfl) (ok_impl_Integer _) (fun _ => rfl) fun r7 => ?_
  refine Run.bH (e := vIv) (gv := vIv) (by kernel_rfl) (by kernel_rfl) (ok_impl_Integer _) (fun _ => rfl) fun r8 => ?_
  refine Run.bH (e := vIv) (gv := vIv) (by kernel_rfl) (by kernel_rfl) (ok_impl_DivI _ _) (fun _ => rfl) fun r9 => ?_
  refine Run.bH (e := vIv) (gv := vIv) (by kernel_rfl) (by kernel_rfl) (ok_impl_MulI _ _) (fun _ => rfl) fun r10 => ?_
  refine Run.bH (e := vIv) (gv := vIv) (by kernel_rfl) (by kernel_rfl) (ok_impl_SubI _ _) (fun _ => rfl) fun r11 => ?_
  refine Run.u 400 E_ok mixed Tryz.func189 ?_
  refine Run.p [true] (by kernel_rfl) ?_
  refine Run.bH (e := vIv) (gv := vIv) (by kernel_rfl) (by kernel_rfl) (ok_impl_Integer _) (fun _ => rfl) fun r12 => ?_
  refine Run.bH (e := vIv) (gv := vIv) (by kernel_rfl) (by kernel_rfl) (ok_impl_Integer _) (fun _ => rfl) fun r13 => ?_
  refine Run.bH (e := vIv) (gv := vIv) (by kernel_rfl) (by kernel_rfl) (ok_impl_DivI _ _) (fun _ => rfl) fun r14 => ?_
  refine Run.bH (e := vIv) (gv := vIv) (by kernel_rfl) (by kernel_rfl) (ok_impl_MulI _ _) (fun _ => rfl) fun r15 => ?_
  refine Run.bH (e := vIv) (gv := vIv) (by kernel_rfl) (by kernel_rfl) (ok_impl_SubI _ _) (fun _ => rfl) fun r16 => ?_
  refine Run.u 400 E_ok mixed Tryz.func189 ?_
  refine Run.p [true] (by kernel_rfl) ?_
  refine Run.bH (e := vIv) (gv := vIv) (by kernel_rfl) (by kernel_rfl) (ok_impl_Integer _) (fun _ => rfl) fun r17 => ?_
  refine Run.bH (e := vIv) (gv := vIv) (by kernel_rfl) (by kernel_rfl) (ok_impl_Integer _) (fun _ => rfl) fun r18 => ?_
  refine Run.bH (e := vIv) (gv := vIv) (by kernel_rfl) (by kernel_rfl) (ok_impl_DivI _ _) (fun _ => rfl) fun r19 => ?_
  refine Run.bH (e := vIv) (gv := vIv) (by kernel_rfl) (by kernel_rfl) (ok_impl_MulI _ _) (fun _ => rfl) fun r20 => ?_
  refine Run.bH (e := vIv) (gv := vIv) (by kernel_rfl) (by kernel_rfl) (ok_impl_SubI _ _) (fun _ => rfl) fun r21 => ?_
  refine Run.u 400 E_ok mixed Tryz.func189 ?_
  refine Run.p [true] (by kernel_rfl) ?_
  refine Run.bH (e := vIv) (gv := vIv) (by kernel_rfl) (by kernel_rfl) (ok_impl_Integer _) (fun _ => rfl) fun r22 => ?_
  refine Run.bH (e := vIv) (gv := vIv) (by kernel_rfl) (by kernel_rfl) (ok_impl_Integer _) (fun _ => rfl) fun r23 => ?_
  refine Run.bH (e := vIv) (gv := vIv) (by kernel_rfl) (by kernel_rfl) (ok_impl_DivI _ _) (fun _ => rfl) fun r24 => ?_
  refine Run.bH (e := vIv) (gv := vIv) (by kernel_rfl) (by kernel_rfl) (ok_impl_MulI _ _) (fun _ => rfl) fun r25 => ?_
  refine Run.bH (e := vIv) (gv := vIv) (by kernel_rfl) (by kernel_rfl) (ok_impl_SubI _ _) (fun _ => rfl) fun r26 => ?_
  refine Run.u 400 E_ok mixed Tryz.func189 ?_
  refine Run.p [true] (by kernel_rfl) ?_
  refine Run.bH (e := vIv) (gv := vIv) (by kernel_rfl) (by kernel_rfl) (ok_impl_Integer _) (fun _ => rfl) fun r27 => ?_
  refine Run.bH (e := vIv) (gv := vIv) (by kernel_rfl) (by kernel_rfl) (ok_impl_Integer _) (fun _ => rfl) fun r28 => ?_
  refine Run.bH (e := vIv) (gv := vIv) (by kernel_rfl) (by kernel_rfl) (ok_impl_DivI _ _) (fun _ => rfl) fun r29 => ?_
  refine Run.bH (e := vIv) (gv := vIv) (by kernel_rfl) (by kernel_rfl) (ok_impl_MulI _ _) (fun _ => rfl) fun r30 => ?_
  refine Run.bH (e := vIv) (gv := vIv) (by kernel_rfl) (by kernel_rfl) (ok_impl_SubI _ _) (fun _ => rfl) fun r31 => ?_
  refine Run.u 400 E_ok mixed Tryz.func189 ?_
  refine Run.p [true] (by kernel_rfl) ?_
  refine Run.bH (e := vIv) (gv := vIv) (by kernel_rfl) (by kernel_rfl) (ok_impl_Integer _) (fun _ => rfl) fun r32 => ?_
  refine Run.bH (e := vIv) (gv := vIv) (by kernel_rfl) (by kernel_rfl) (ok_impl_Integer _) (fun _ => rfl) fun r33 => ?_
  refine Run.bH (e := vIv) (gv := vIv) (by kernel_rfl) (by kernel_rfl) (ok_impl_DivI _ _) (fun _ => rfl) fun r34 => ?_
  refine Run.bH (e := vIv) (gv := vIv) (by kernel_rfl) (by kernel_rfl) (ok_impl_MulI _ _) (fun _ => rfl) fun r35 => ?_
  refine Run.bH (e := vIv) (gv := vIv) (by kernel_rfl) (by kernel_rfl) (ok_impl_SubI _ _) (fun _ => rfl) fun r36 => ?_
  refine Run.u 400 E_ok mixed Tryz.func189 ?_
  refine Run.p [true] (by kernel_rfl) ?_
  refine Run.bH (e := vIv) (gv := vIv) (by kernel_rfl) (by kernel_rfl) (ok_impl_Integer _) (fun _ => rfl) fun r37 => ?_
  refine Run.bH (e := vIv) (gv := vIv) (by kernel_rfl) (by kernel_rfl) (ok_impl_Integer _) (fun _ => rfl) fun r38 => ?_
  refine Run.bH (e := vIv) (gv := vIv) (by kernel_rfl) (by kernel_rfl) (ok_impl_DivI _ _) (fun _ => rfl) fun r39 => ?_
  refine Run.bH (e := vIv) (gv := vIv) (by kernel_rfl) (by kernel_rfl) (ok_impl_MulI _ _) (fun _ => rfl) fun r40 => ?_
  refine Run.bH (e := vIv) (gv := vIv) (by kernel_rfl) (by kernel_rfl) (ok_impl_SubI _ _) (fun _ => rfl) fun r41 => ?_
  refine Run.u 400 E_ok mixed Tryz.func189 ?_
  refine Run.p [false] (by kernel_rfl) ?_
  exact Run.rh (k := 0) (by kernel_rfl) (by kernel_rfl)

theorem ok_impl_tiny : Fun Tryz.prog 190 [] #[] (vIv (F_impl_tiny)) [] := by
  refine Fun.ofH 400 E_ok mixed Tryz.func190 (by kernel_rfl) (by kernel_rfl) ?_
  unfold F_impl_tiny
  exact Run.rh (k := 0) (by kernel_rfl) (by kernel_rfl)

theorem ok_impl_SinSeries (a0 : Iv) : Fun Tryz.prog 169 [] #[vIv a0] (vIv (F_impl_SinSeries a0)) [] := by
  refine Fun.ofH 400 E_ok mixed Tryz.func169 (by kernel_rfl) (by kernel_rfl) ?_
  unfold F_impl_SinSeries
  refine Run.bH (e := vIv) (gv := vIv) (by kernel_rfl) (by kernel_rfl) (ok_impl_ring) (fun _ => rfl) fun r1 => ?_
  refine Run.bH (e := vB) (gv := vIv) (by kernel_rfl) (by kernel_rfl) (ok_impl_InsideI _ _) (fun _ => rfl) fun r2 => ?_
  refine Run.jH (gv := vIv) (by kernel_rfl) (?_) (?_)
  · refine Run.bH (e := vIv) (gv := vIv) (by kernel_rfl) (by kernel_rfl) (ok_impl_Whole) (fun _ => rfl) fun r3 => ?_
    exact Run.rh (k := 0) (by kernel_rfl) (by kernel_rfl)
  · refine Run.bH (e := vIv) (gv := vIv) (by kernel_rfl) (by kernel_rfl) (ok_impl_SqrI _) (fun _ => rfl) fun r4 => ?_
    refine Run.bH (e := vIv) (gv := vIv) (by kernel_rfl) (by kernel_rfl) (ok_impl_series _ _) (fun _ => rfl) fun r5 => ?_
    refine Run.bH (e := vIv) (gv := vIv) (by kernel_rfl) (by kernel_rfl) (ok_impl_MulI _ _) (fun _ => rfl) fun r6 => ?_
    refine Run.bH (e := vIv) (gv := vIv) (by kernel_rfl) (by kernel_rfl) (ok_impl_tiny) (fun _ => rfl) fun r7 => ?_
    refine Run.bH (e := vIv) (gv := vIv) (by kernel_rfl) (by kernel_rfl) (ok_impl_AddI _ _) (fun _ => rfl) fun r8 => ?_
    exact Run.rh (k := 0) (by kernel_rfl) (by kernel_rfl)

theorem ok_impl_MeetI (a0 : Iv) (a1 : Iv) : Fun Tryz.prog 187 [] #[vIv a0, vIv a1] (vT_Iv_B (F_impl_MeetI a0 a1)) [] := by
  refine Fun.ofH 400 E_ok mixed Tryz.func187 (by kernel_rfl) (by kernel_rfl) ?_
  unfold F_impl_MeetI
  refine Run.bH (e := vB) (gv := vT_Iv_B) (by kernel_rfl) (by kernel_rfl) (ok_impl_IsWhole _) (fun _ => rfl) fun r1 => ?_
  refine Run.jH (gv := vT_Iv_B) (by kernel_rfl) (?_) (?_)
  · refine Run.p [true] (by kernel_rfl) ?_
    refine Run.bH (e := vB) (gv := vT_Iv_B) (by kernel_rfl) (by kernel_rfl) (ok_impl_IsWhole _) (fun _ => rfl) fun r2 => ?_
    refine Run.p [true] (by kernel_rfl) ?_
    refine Run.jH (gv := vT_Iv_B) (by kernel_rfl) (?_) (?_)
    · refine Run.bH (e := vIv) (gv := vT_Iv_B) (by kernel_rfl) (by kernel_rfl) (ok_impl_Whole) (fun _ => rfl) fun r3 => ?_
      exact Run.rh (k := 0) (by kernel_rfl) (by kernel_rfl)
    · refine Run.bH (e := vB) (gv := vT_Iv_B) (by kernel_rfl) (by kernel_rfl) (ok_impl_IsWhole _) (fun _ => rfl) fun r4 => ?_
      refine Run.jH (gv := vT_Iv_B) (by kernel_rfl) (?_) (?_)
      · exact Run.rh (k := 0) (by kernel_rfl) (by kernel_rfl)
      · refine Run.bH (e := vB) (gv := vT_Iv_B) (by kernel_rfl) (by kernel_rfl) (ok_impl_IsWhole _) (fun _ => rfl) fun r5 => ?_
        refine Run.jH (gv := vT_Iv_B) (by kernel_rfl) (?_) (?_)
        · exact Run.rh (k := 0) (by kernel_rfl) (by kernel_rfl)
        · refine Run.jH (gv := vT_Iv_B) (by kernel_rfl) (?_) (?_)
          · exact Run.rh (k := 0) (by kernel_rfl) (by kernel_rfl)
          · exact Run.rh (k := 0) (by kernel_rfl) (by kernel_rfl)
  · refine Run.p [false, false, false] (by kernel_rfl) ?_
    refine Run.bH (e := vB) (gv := vT_Iv_B) (by kernel_rfl) (by kernel_rfl) (ok_impl_IsWhole _) (fun _ => rfl) fun r6 => ?_
    refine Run.jH (gv := vT_Iv_B) (by kernel_rfl) (?_) (?_)
    · exact Run.rh (k := 0) (by kernel_rfl) (by kernel_rfl)
    · refine Run.bH (e := vB) (gv := vT_Iv_B) (by kernel_rfl) (by kernel_rfl) (ok_impl_IsWhole _) (fun _ => rfl) fun r7 => ?_
      refine Run.jH (gv := vT_Iv_B) (by kernel_rfl) (?_) (?_)
      · exact Run.rh (k := 0) (by kernel_rfl) (by kernel_rfl)
      · refine Run.jH (gv := vT_Iv_B) (by kernel_rfl) (?_) (?_)
        · exact Run.rh (k := 0) (by kernel_rfl) (by kernel_rfl)
        · exact Run.rh (k := 0) (by kernel_rfl) (by kernel_rfl)

theorem ok_impl_inRing (a0 : Iv) : Fun Tryz.prog 168 [] #[vIv a0] (vIv (F_impl_inRing a0)) [] := by
  refine Fun.ofH 400 E_ok mixed Tryz.func168 (by kernel_rfl) (by kernel_rfl) ?_
  unfold F_impl_inRing
  refine Run.bH (e := vIv) (gv := vIv) (by kernel_rfl) (by kernel_rfl) (ok_impl_ring) (fun _ => rfl) fun r1 => ?_
  refine Run.bH (e := vT_Iv_B) (gv := vIv) (by kernel_rfl) (by kernel_rfl) (ok_impl_MeetI _ _) (fun _ => rfl) fun r2 => ?_
  exact Run.rh (k := 0) (by kernel_rfl) (by kernel_rfl)

theorem ok_impl_CosSeries (a0 : Iv) : Fun Tryz.prog 170 [] #[vIv a0] (vIv (F_impl_CosSeries a0)) [] := by
  refine Fun.ofH 400 E_ok mixed Tryz.func170 (by kernel_rfl) (by kernel_rfl) ?_
  unfold F_impl_CosSeries
  refine Run.bH (e := vIv) (gv := vIv) (by kernel_rfl) (by kernel_rfl) (ok_impl_ring) (fun _ => rfl) fun r1 => ?_
  refine Run.bH (e := vB) (gv := vIv) (by kernel_rfl) (by kernel_rfl) (ok_impl_InsideI _ _) (fun _ => rfl) fun r2 => ?_
  refine Run.jH (gv := vIv) (by kernel_rfl) (?_) (?_)
  · refine Run.bH (e := vIv) (gv := vIv) (by kernel_rfl) (by kernel_rfl) (ok_impl_Whole) (fun _ => rfl) fun r3 => ?_
    exact Run.rh (k := 0) (by kernel_rfl) (by kernel_rfl)
  · refine Run.bH (e := vIv) (gv := vIv) (by kernel_rfl) (by kernel_rfl) (ok_impl_SqrI _) (fun _ => rfl) fun r4 => ?_
    refine Run.bH (e := vIv) (gv := vIv) (by kernel_rfl) (by kernel_rfl) (ok_impl_series _ _) (fun _ => rfl) fun r5 => ?_
    refine Run.bH (e := vIv) (gv := vIv) (by kernel_rfl) (by kernel_rfl) (ok_impl_tiny) (fun _ => rfl) fun r6 => ?_
    refine Run.bH (e := vIv) (gv := vIv) (by kernel_rfl) (by kernel_rfl) (ok_impl_AddI _ _) (fun _ => rfl) fun r7 => ?_
    exact Run.rh (k := 0) (by kernel_rfl) (by kernel_rfl)

theorem ok_impl_circleValue (a0 : I64) (a1 : I64) : Fun Tryz.prog 142 [] #[vI a0, vI a1] (vIv (F_impl_circleValue a0 a1)) [] := by
  refine Fun.ofH 400 E_ok mixed Tryz.func142 (by kernel_rfl) (by kernel_rfl) ?_
  unfold F_impl_circleValue
  refine Run.bH (e := vB) (gv := vIv) (by kernel_rfl) (by kernel_rfl) (ok_impl_isAngle _) (fun _ => rfl) fun r1 => ?_
  refine Run.jH (gv := vIv) (by kernel_rfl) (?_) (?_)
  · refine Run.bH (e := vIv) (gv := vIv) (by kernel_rfl) (by kernel_rfl) (ok_impl_ring) (fun _ => rfl) fun r2 => ?_
    exact Run.rh (k := 0) (by kernel_rfl) (by kernel_rfl)
  · refine Run.bH (e := vI) (gv := vIv) (by kernel_rfl) (by kernel_rfl) (ok_impl_QuarterOf _) (fun _ => rfl) fun r3 => ?_
    refine Run.bH (e := vIv) (gv := vIv) (by kernel_rfl) (by kernel_rfl) (ok_impl_at _) (fun _ => rfl) fun r4 => ?_
    refine Run.bH (e := vIv) (gv := vIv) (by kernel_rfl) (by kernel_rfl) (ok_impl_TurnI _) (fun _ => rfl) fun r5 => ?_
    refine Run.bH (e := vIv) (gv := vIv) (by kernel_rfl) (by kernel_rfl) (ok_impl_SubI _ _) (fun _ => rfl) fun r6 => ?_
    refine Run.jH (gv := vIv) (by kernel_rfl) (?_) (?_)
    · refine Run.bH (e := vIv) (gv := vIv) (by kernel_rfl) (by kernel_rfl) (ok_impl_SinSeries _) (fun _ => rfl) fun r7 => ?_
      refine Run.bH (e := vIv) (gv := vIv) (by kernel_rfl) (by kernel_rfl) (ok_impl_inRing _) (fun _ => rfl) fun r8 => ?_
      exact Run.rh (k := 0) (by kernel_rfl) (by kernel_rfl)
    · refine Run.jH (gv := vIv) (by kernel_rfl) (?_) (?_)
      · refine Run.bH (e := vIv) (gv := vIv) (by kernel_rfl) (by kernel_rfl) (ok_impl_CosSeries _) (fun _ => rfl) fun r9 => ?_
        refine Run.bH (e := vIv) (gv := vIv) (by kernel_rfl) (by kernel_rfl) (ok_impl_inRing _) (fun _ => rfl) fun r10 => ?_
        exact Run.rh (k := 0) (by kernel_rfl) (by kernel_rfl)
      · refine Run.jH (gv := vIv) (by kernel_rfl) (?_) (?_)
        · refine Run.bH (e := vIv) (gv := vIv) (by kernel_rfl) (by kernel_rfl) (ok_impl_SinSeries _) (fun _ => rfl) fun r11 => ?_
          refine Run.bH (e := vIv) (gv := vIv) (by kernel_rfl) (by kernel_rfl) (ok_impl_NegI _) (fun _ => rfl) fun r12 => ?_
          refine Run.bH (e := vIv) (gv := vIv) (by kernel_rfl) (by kernel_rfl) (ok_impl_inRing _) (fun _ => rfl) fun r13 => ?_
          exact Run.rh (k := 0) (by kernel_rfl) (by kernel_rfl)
        · refine Run.bH (e := vIv) (gv := vIv) (by kernel_rfl) (by kernel_rfl) (ok_impl_CosSeries _) (fun _ => rfl) fun r14 => ?_
          refine Run.bH (e := vIv) (gv := vIv) (by kernel_rfl) (by kernel_rfl) (ok_impl_NegI _) (fun _ => rfl) fun r15 => ?_
          refine Run.bH (e := vIv) (gv := vIv) (by kernel_rfl) (by kernel_rfl) (ok_impl_inRing _) (fun _ => rfl) fun r16 => ?_
          exact Run.rh (k := 0) (by kernel_rfl) (by kernel_rfl)

theorem ok_impl_HullI (a0 : Iv) (a1 : Iv) : Fun Tryz.prog 38 [] #[vIv a0, vIv a1] (vIv (F_impl_HullI a0 a1)) [] := by
  refine Fun.ofH 400 E_ok mixed Tryz.func38 (by kernel_rfl) (by kernel_rfl) ?_
  unfold F_impl_HullI
  refine Run.bH (e := vB) (gv := vIv) (by kernel_rfl) (by kernel_rfl) (ok_impl_areBounded _ _) (fun _ => rfl) fun r1 => ?_
  refine Run.jH (gv := vIv) (by kernel_rfl) (?_) (?_)
  · refine Run.bH (e := vIv) (gv := vIv) (by kernel_rfl) (by kernel_rfl) (ok_impl_Whole) (fun _ => rfl) fun r2 => ?_
    exact Run.rh (k := 0) (by kernel_rfl) (by kernel_rfl)
  · exact Run.rh (k := 0) (by kernel_rfl) (by kernel_rfl)

theorem ok_impl_OverlapI (a0 : Iv) (a1 : Iv) : Fun Tryz.prog 171 [] #[vIv a0, vIv a1] (vB (F_impl_OverlapI a0 a1)) [] := by
  refine Fun.ofH 400 E_ok mixed Tryz.func171 (by kernel_rfl) (by kernel_rfl) ?_
  unfold F_impl_OverlapI
  refine Run.bH (e := vT_Iv_B) (gv := vB) (by kernel_rfl) (by kernel_rfl) (ok_impl_MeetI _ _) (fun _ => rfl) fun r1 => ?_
  exact Run.rh (k := 0) (by kernel_rfl) (by kernel_rfl)

end Go.Proofs.YtmkiegnnaabmaaaGreat.Abs
