/- The program's functions are these; part 2 (written by w.py). -/
import Derived.Test.YtgofhiehdpggkaaGreatK1
import Derived.Test.YtgofhiehdpggkaaGreatF5
set_option linter.unusedVariables false
set_option linter.unusedSimpArgs false
namespace Go.Proofs.YtgofhiehdpggkaaGreat.Abs
open Go Go.RowKit

theorem ok_impl_WideInt (a0 : Wd) : Fun Tryz.prog 206 [] #[vWd a0] (vT_I_B (F_impl_WideInt a0)) [] := by
  refine Fun.ofH 400 E_ok mixed Tryz.func206 (by kernel_rfl) (by kernel_rfl) ?_
  unfold F_impl_WideInt
  refine Run.q (e := vWd) (gv := vT_I_B) (ok_impl_WideOf _) fun r1 _ => ?_
  refine Run.y (gv := vT_I_B) (fun _ => ?_) (fun _ => ?_)
  · exact Run.x 0
  · exact Run.x 0

theorem ok_impl_MulDivFloor (a0 : I64) (a1 : I64) (a2 : I64) : Fun Tryz.prog 132 [] #[vI a0, vI a1, vI a2] (vT_I_B (F_impl_MulDivFloor a0 a1 a2)) [] := by
  refine Fun.ofH 400 E_ok mixed Tryz.func132 (by kernel_rfl) (by kernel_rfl) ?_
  unfold F_impl_MulDivFloor
  refine Run.q (e := vWd) (gv := vT_I_B) (ok_impl_WideMul _ _) fun r1 _ => ?_
  refine Run.q (e := vT_Wd_I_B) (gv := vT_I_B) (ok_impl_WideDiv _ _) fun r2 _ => ?_
  refine Run.y (gv := vT_I_B) (fun _ => ?_) (fun _ => ?_)
  · exact Run.x 0
  · refine Run.q (e := vT_I_B) (gv := vT_I_B) (ok_impl_WideInt _) fun r3 _ => ?_
    exact Run.x 0

theorem ok_impl_RadiansOf_r : ∀ (fu : Nat) (a0 : I64) (hm : min (0 - a0.val).toNat 1 < fu), Fun Tryz.prog 52 [] #[vI a0] (vIv (F_impl_RadiansOf_r fu a0)) [] := by
  intro fu
  induction fu with
  | zero => intro a0 hm; exact absurd hm (Nat.not_lt_zero _)
  | succ fu ih =>
    intro a0 hm
    refine Fun.ofH 400 E_ok mixed Tryz.func52 (by kernel_rfl) (by kernel_rfl) ?_
    unfold F_impl_RadiansOf_r
    refine Run.q (e := vB) (gv := vIv) (ok_impl_within _ _ _) fun r1 hr1 => ?_
    refine Run.y (gv := vIv) (fun h2 => ?_) (fun h2 => ?_)
    · refine Run.q (e := vIv) (gv := vIv) (ok_impl_Whole) fun r3 hr3 => ?_
      exact Run.x 0
    · refine Run.y (gv := vIv) (fun h4 => ?_) (fun h4 => ?_)
      · refine Run.q (e := vIv) (gv := vIv) (ih (w64 (0 - a0.val)) (by rw [hr1] at h2; simp [F_impl_within, c64_val] at h2; simp only [w64_val, decide_eq_true_eq, decide_eq_false_iff_not] at *; omega)) fun r5 hr5 => ?_
        refine Run.q (e := vIv) (gv := vIv) (ok_impl_NegI _) fun r6 hr6 => ?_
        exact Run.x 0
      · refine Run.y (gv := vIv) (fun h7 => ?_) (fun h7 => ?_)
        · exact Run.x 0
        · refine Run.q (e := vT_I_B) (gv := vIv) (ok_impl_MulDivFloor _ _ _) fun r8 hr8 => ?_
          refine Run.q (e := vT_I_B) (gv := vIv) (ok_impl_MulDivFloor _ _ _) fun r9 hr9 => ?_
          exact Run.x 0
theorem ok_impl_RadiansOf (a0 : I64) : Fun Tryz.prog 52 [] #[vI a0] (vIv (F_impl_RadiansOf a0)) [] := ok_impl_RadiansOf_r 2 a0 (by omega)

theorem ok_impl_isAngle (a0 : I64) : Fun Tryz.prog 262 [] #[vI a0] (vB (F_impl_isAngle a0)) [] := by
  refine Fun.ofH 400 E_ok mixed Tryz.func262 (by kernel_rfl) (by kernel_rfl) ?_
  unfold F_impl_isAngle
  refine Run.q (e := vB) (gv := vB) (ok_impl_within _ _ _) fun r1 _ => ?_
  exact Run.x 0

theorem ok_impl_areAngles (a0 : Iv) : Fun Tryz.prog 209 [] #[vIv a0] (vB (F_impl_areAngles a0)) [] := by
  refine Fun.ofH 400 E_ok mixed Tryz.func209 (by kernel_rfl) (by kernel_rfl) ?_
  unfold F_impl_areAngles
  refine Run.q (e := vB) (gv := vB) (ok_impl_ValidInterval _) fun r1 _ => ?_
  refine Run.y (gv := vB) (fun _ => ?_) (fun _ => ?_)
  · refine Run.z [true, true] ?_
    refine Run.q (e := vB) (gv := vB) (ok_impl_isAngle _) fun r2 _ => ?_
    refine Run.z [true] ?_
    refine Run.y (gv := vB) (fun _ => ?_) (fun _ => ?_)
    · refine Run.z [true, true] ?_
      refine Run.q (e := vB) (gv := vB) (ok_impl_isAngle _) fun r3 _ => ?_
      refine Run.z [true] ?_
      exact Run.x 0
    · refine Run.z [false, false, false] ?_
      exact Run.x 0
  · refine Run.z [false, false, false, false, false, false, false] ?_
    exact Run.x 0

theorem ok_impl_ring : Fun Tryz.prog 144 [] #[] (vIv (F_impl_ring)) [] := by
  refine Fun.ofH 400 E_ok mixed Tryz.func144 (by kernel_rfl) (by kernel_rfl) ?_
  unfold F_impl_ring
  exact Run.x 0

theorem ok_impl_QuarterOf (a0 : I64) : Fun Tryz.prog 263 [] #[vI a0] (vI (F_impl_QuarterOf a0)) [] := by
  refine Fun.ofH 400 E_ok mixed Tryz.func263 (by kernel_rfl) (by kernel_rfl) ?_
  unfold F_impl_QuarterOf
  refine Run.q (e := vB) (gv := vI) (ok_impl_isAngle _) fun r1 _ => ?_
  refine Run.y (gv := vI) (fun _ => ?_) (fun _ => ?_)
  · exact Run.x 0
  · refine Run.z [true] ?_
    refine Run.y (gv := vI) (fun _ => ?_) (fun _ => ?_)
    · exact Run.x 0
    · exact Run.x 0

theorem ok_impl_at (a0 : I64) : Fun Tryz.prog 160 [] #[vI a0] (vIv (F_impl_at a0)) [] := by
  refine Fun.ofH 400 E_ok mixed Tryz.func160 (by kernel_rfl) (by kernel_rfl) ?_
  unfold F_impl_at
  exact Run.x 0

theorem ok_impl_WideShift (a0 : Wd) (a1 : I64) : Fun Tryz.prog 271 [] #[vWd a0, vI a1] (vWd (F_impl_WideShift a0 a1)) [] := by
  refine Fun.ofH 400 E_ok mixed Tryz.func271 (by kernel_rfl) (by kernel_rfl) ?_
  unfold F_impl_WideShift
  refine Run.q (e := vB) (gv := vWd) (ok_impl_within _ _ _) fun r1 hr1 => ?_
  refine Run.y (gv := vWd) (fun h2 => ?_) (fun h2 => ?_)
  · exact Run.x 0
  · refine Run.y (gv := vWd) (fun h3 => ?_) (fun h3 => ?_)
    · refine Run.z [true] ?_
      refine Run.k (c := (decide (0 ≤ (w64 (a1.val - 64)).val))) (by kernel_rfl) (by have q := a1.hi; rw [hr1] at h2; simp [F_impl_within, c64_val] at h2; simp only [w64_val, decide_eq_true_eq, decide_eq_false_iff_not] at *; omega) ?_
      exact Run.x 0
    · refine Run.k (c := (decide (0 ≤ a1.val))) (by kernel_rfl) (by have q := a1.hi; rw [hr1] at h2; simp [F_impl_within, c64_val] at h2; simp only [w64_val, decide_eq_true_eq, decide_eq_false_iff_not] at *; omega) ?_
      refine Run.k (c := (decide (0 ≤ a1.val))) (by kernel_rfl) (by have q := a1.hi; rw [hr1] at h2; simp [F_impl_within, c64_val] at h2; simp only [w64_val, decide_eq_true_eq, decide_eq_false_iff_not] at *; omega) ?_
      refine Run.k (c := (decide (0 ≤ (w64 (64 - a1.val)).val))) (by kernel_rfl) (by have q := a1.hi; rw [hr1] at h2; simp [F_impl_within, c64_val] at h2; simp only [w64_val, decide_eq_true_eq, decide_eq_false_iff_not] at *; omega) ?_
      exact Run.x 0

theorem ok_impl_MulFloor (a0 : I64) (a1 : I64) (a2 : I64) : Fun Tryz.prog 224 [] #[vI a0, vI a1, vI a2] (vT_I_B (F_impl_MulFloor a0 a1 a2)) [] := by
  refine Fun.ofH 400 E_ok mixed Tryz.func224 (by kernel_rfl) (by kernel_rfl) ?_
  unfold F_impl_MulFloor
  refine Run.q (e := vB) (gv := vT_I_B) (ok_impl_within _ _ _) fun r1 _ => ?_
  refine Run.y (gv := vT_I_B) (fun _ => ?_) (fun _ => ?_)
  · exact Run.x 0
  · refine Run.q (e := vWd) (gv := vT_I_B) (ok_impl_WideMul _ _) fun r2 _ => ?_
    refine Run.q (e := vWd) (gv := vT_I_B) (ok_impl_WideShift _ _) fun r3 _ => ?_
    refine Run.q (e := vT_I_B) (gv := vT_I_B) (ok_impl_WideInt _) fun r4 _ => ?_
    exact Run.x 0

theorem ok_impl_TurnI_r : ∀ (fu : Nat) (a0 : I64) (hm : min (0 - a0.val).toNat 1 < fu), Fun Tryz.prog 220 [] #[vI a0] (vIv (F_impl_TurnI_r fu a0)) [] := by
  intro fu
  induction fu with
  | zero => intro a0 hm; exact absurd hm (Nat.not_lt_zero _)
  | succ fu ih =>
    intro a0 hm
    refine Fun.ofH 400 E_ok mixed Tryz.func220 (by kernel_rfl) (by kernel_rfl) ?_
    unfold F_impl_TurnI_r
    refine Run.q (e := vB) (gv := vIv) (ok_impl_within _ _ _) fun r1 hr1 => ?_
    refine Run.y (gv := vIv) (fun h2 => ?_) (fun h2 => ?_)
    · refine Run.q (e := vIv) (gv := vIv) (ok_impl_Whole) fun r3 hr3 => ?_
      exact Run.x 0
    · refine Run.y (gv := vIv) (fun h4 => ?_) (fun h4 => ?_)
      · refine Run.q (e := vIv) (gv := vIv) (ih (w64 (0 - a0.val)) (by rw [hr1] at h2; simp [F_impl_within, c64_val] at h2; simp only [w64_val, decide_eq_true_eq, decide_eq_false_iff_not] at *; omega)) fun r5 hr5 => ?_
        refine Run.q (e := vIv) (gv := vIv) (ok_impl_NegI _) fun r6 hr6 => ?_
        exact Run.x 0
      · refine Run.y (gv := vIv) (fun h7 => ?_) (fun h7 => ?_)
        · exact Run.x 0
        · refine Run.q (e := vT_I_B) (gv := vIv) (ok_impl_MulFloor _ _ _) fun r8 hr8 => ?_
          exact Run.x 0
theorem ok_impl_TurnI (a0 : I64) : Fun Tryz.prog 220 [] #[vI a0] (vIv (F_impl_TurnI a0)) [] := ok_impl_TurnI_r 2 a0 (by omega)

theorem ok_impl_areBounded (a0 : Iv) (a1 : Iv) : Fun Tryz.prog 57 [] #[vIv a0, vIv a1] (vB (F_impl_areBounded a0 a1)) [] := by
  refine Fun.ofH 400 E_ok mixed Tryz.func57 (by kernel_rfl) (by kernel_rfl) ?_
  unfold F_impl_areBounded
  refine Run.q (e := vB) (gv := vB) (ok_impl_ValidInterval _) fun r1 _ => ?_
  refine Run.y (gv := vB) (fun _ => ?_) (fun _ => ?_)
  · refine Run.z [true] ?_
    refine Run.q (e := vB) (gv := vB) (ok_impl_ValidInterval _) fun r2 _ => ?_
    refine Run.z [true] ?_
    exact Run.x 0
  · refine Run.z [false, false] ?_
    exact Run.x 0

theorem ok_impl_bounded (a0 : I64) (a1 : I64) (a2 : Bool) : Fun Tryz.prog 130 [] #[vI a0, vI a1, vB a2] (vIv (F_impl_bounded a0 a1 a2)) [] := by
  refine Fun.ofH 400 E_ok mixed Tryz.func130 (by kernel_rfl) (by kernel_rfl) ?_
  unfold F_impl_bounded
  refine Run.y (gv := vIv) (fun _ => ?_) (fun _ => ?_)
  · refine Run.z [true] ?_
    refine Run.q (e := vB) (gv := vIv) (ok_impl_ValidInterval _) fun r1 _ => ?_
    refine Run.z [true] ?_
    refine Run.y (gv := vIv) (fun _ => ?_) (fun _ => ?_)
    · exact Run.x 0
    · refine Run.q (e := vIv) (gv := vIv) (ok_impl_Whole) fun r2 _ => ?_
      exact Run.x 0
  · refine Run.z [false, false, false] ?_
    refine Run.q (e := vIv) (gv := vIv) (ok_impl_Whole) fun r3 _ => ?_
    exact Run.x 0

theorem ok_impl_AddI (a0 : Iv) (a1 : Iv) : Fun Tryz.prog 51 [] #[vIv a0, vIv a1] (vIv (F_impl_AddI a0 a1)) [] := by
  refine Fun.ofH 400 E_ok mixed Tryz.func51 (by kernel_rfl) (by kernel_rfl) ?_
  unfold F_impl_AddI
  refine Run.q (e := vB) (gv := vIv) (ok_impl_areBounded _ _) fun r1 _ => ?_
  refine Run.y (gv := vIv) (fun _ => ?_) (fun _ => ?_)
  · refine Run.q (e := vIv) (gv := vIv) (ok_impl_Whole) fun r2 _ => ?_
    exact Run.x 0
  · refine Run.q (e := vIv) (gv := vIv) (ok_impl_bounded _ _ _) fun r3 _ => ?_
    exact Run.x 0

theorem ok_impl_SubI (a0 : Iv) (a1 : Iv) : Fun Tryz.prog 74 [] #[vIv a0, vIv a1] (vIv (F_impl_SubI a0 a1)) [] := by
  refine Fun.ofH 400 E_ok mixed Tryz.func74 (by kernel_rfl) (by kernel_rfl) ?_
  unfold F_impl_SubI
  refine Run.q (e := vIv) (gv := vIv) (ok_impl_NegI _) fun r1 _ => ?_
  refine Run.q (e := vIv) (gv := vIv) (ok_impl_AddI _ _) fun r2 _ => ?_
  exact Run.x 0

theorem ok_impl_InsideI (a0 : Iv) (a1 : Iv) : Fun Tryz.prog 286 [] #[vIv a0, vIv a1] (vB (F_impl_InsideI a0 a1)) [] := by
  refine Fun.ofH 400 E_ok mixed Tryz.func286 (by kernel_rfl) (by kernel_rfl) ?_
  unfold F_impl_InsideI
  refine Run.q (e := vB) (gv := vB) (ok_impl_IsWhole _) fun r1 _ => ?_
  refine Run.y (gv := vB) (fun _ => ?_) (fun _ => ?_)
  · refine Run.z [true, true, true] ?_
    refine Run.q (e := vB) (gv := vB) (ok_impl_IsWhole _) fun r2 _ => ?_
    exact Run.x 0
  · refine Run.z [false] ?_
    refine Run.q (e := vB) (gv := vB) (ok_impl_IsWhole _) fun r3 _ => ?_
    refine Run.z [false] ?_
    refine Run.y (gv := vB) (fun _ => ?_) (fun _ => ?_)
    · refine Run.q (e := vB) (gv := vB) (ok_impl_IsWhole _) fun r4 _ => ?_
      exact Run.x 0
    · refine Run.y (gv := vB) (fun _ => ?_) (fun _ => ?_)
      · refine Run.z [true, true, true, true, true] ?_
        exact Run.x 0
      · refine Run.z [false, false, false, false, false] ?_
        exact Run.x 0

theorem ok_impl_HasI (a0 : Iv) (a1 : I64) : Fun Tryz.prog 133 [] #[vIv a0, vI a1] (vB (F_impl_HasI a0 a1)) [] := by
  refine Fun.ofH 400 E_ok mixed Tryz.func133 (by kernel_rfl) (by kernel_rfl) ?_
  unfold F_impl_HasI
  refine Run.q (e := vB) (gv := vB) (ok_impl_IsWhole _) fun r1 _ => ?_
  refine Run.y (gv := vB) (fun _ => ?_) (fun _ => ?_)
  · refine Run.z [true, true, true, true, true, true] ?_
    exact Run.x 0
  · refine Run.z [false, false, false, false, false] ?_
    refine Run.q (e := vB) (gv := vB) (ok_impl_within _ _ _) fun r2 _ => ?_
    refine Run.z [false] ?_
    exact Run.x 0

theorem ok_impl_AbsI (a0 : Iv) : Fun Tryz.prog 139 [] #[vIv a0] (vIv (F_impl_AbsI a0)) [] := by
  refine Fun.ofH 400 E_ok mixed Tryz.func139 (by kernel_rfl) (by kernel_rfl) ?_
  unfold F_impl_AbsI
  refine Run.q (e := vB) (gv := vIv) (ok_impl_IsWhole _) fun r1 _ => ?_
  refine Run.y (gv := vIv) (fun _ => ?_) (fun _ => ?_)
  · refine Run.q (e := vIv) (gv := vIv) (ok_impl_Whole) fun r2 _ => ?_
    exact Run.x 0
  · refine Run.q (e := vI) (gv := vIv) (ok_impl_abs _) fun r3 _ => ?_
    refine Run.q (e := vI) (gv := vIv) (ok_impl_abs _) fun r4 _ => ?_
    refine Run.q (e := vI) (gv := vIv) (ok_impl_abs _) fun r5 _ => ?_
    refine Run.q (e := vI) (gv := vIv) (ok_impl_abs _) fun r6 _ => ?_
    refine Run.q (e := vB) (gv := vIv) (ok_impl_HasI _ _) fun r7 _ => ?_
    refine Run.y (gv := vIv) (fun _ => ?_) (fun _ => ?_)
    · exact Run.x 0
    · exact Run.x 0

theorem ok_impl_ValidFix (a0 : I64) : Fun Tryz.prog 207 [] #[vI a0] (vB (F_impl_ValidFix a0)) [] := by
  refine Fun.ofH 400 E_ok mixed Tryz.func207 (by kernel_rfl) (by kernel_rfl) ?_
  unfold F_impl_ValidFix
  refine Run.q (e := vB) (gv := vB) (ok_impl_within _ _ _) fun r1 _ => ?_
  exact Run.x 0

theorem ok_impl_fixed (a0 : I64) (a1 : Bool) : Fun Tryz.prog 208 [] #[vI a0, vB a1] (vT_I_B (F_impl_fixed a0 a1)) [] := by
  refine Fun.ofH 400 E_ok mixed Tryz.func208 (by kernel_rfl) (by kernel_rfl) ?_
  unfold F_impl_fixed
  refine Run.y (gv := vT_I_B) (fun _ => ?_) (fun _ => ?_)
  · refine Run.z [true, true, true, true] ?_
    exact Run.x 0
  · refine Run.z [false] ?_
    refine Run.q (e := vB) (gv := vT_I_B) (ok_impl_ValidFix _) fun r1 _ => ?_
    refine Run.z [false, false] ?_
    refine Run.y (gv := vT_I_B) (fun _ => ?_) (fun _ => ?_)
    · exact Run.x 0
    · exact Run.x 0

theorem ok_impl_MulDown (a0 : I64) (a1 : I64) : Fun Tryz.prog 161 [] #[vI a0, vI a1] (vT_I_B (F_impl_MulDown a0 a1)) [] := by
  refine Fun.ofH 400 E_ok mixed Tryz.func161 (by kernel_rfl) (by kernel_rfl) ?_
  unfold F_impl_MulDown
  refine Run.q (e := vB) (gv := vT_I_B) (ok_impl_ValidFix _) fun r1 _ => ?_
  refine Run.y (gv := vT_I_B) (fun _ => ?_) (fun _ => ?_)
  · refine Run.z [true, true, true, true] ?_
    exact Run.x 0
  · refine Run.z [false] ?_
    refine Run.q (e := vB) (gv := vT_I_B) (ok_impl_ValidFix _) fun r2 _ => ?_
    refine Run.z [false, false] ?_
    refine Run.y (gv := vT_I_B) (fun _ => ?_) (fun _ => ?_)
    · exact Run.x 0
    · refine Run.q (e := vT_I_B) (gv := vT_I_B) (ok_impl_MulFloor _ _ _) fun r3 _ => ?_
      refine Run.q (e := vT_I_B) (gv := vT_I_B) (ok_impl_fixed _ _) fun r4 _ => ?_
      exact Run.x 0

theorem ok_impl_MulUp (a0 : I64) (a1 : I64) : Fun Tryz.prog 162 [] #[vI a0, vI a1] (vT_I_B (F_impl_MulUp a0 a1)) [] := by
  refine Fun.ofH 400 E_ok mixed Tryz.func162 (by kernel_rfl) (by kernel_rfl) ?_
  unfold F_impl_MulUp
  refine Run.q (e := vB) (gv := vT_I_B) (ok_impl_ValidFix _) fun r1 _ => ?_
  refine Run.y (gv := vT_I_B) (fun _ => ?_) (fun _ => ?_)
  · refine Run.z [true, true, true, true] ?_
    exact Run.x 0
  · refine Run.z [false] ?_
    refine Run.q (e := vB) (gv := vT_I_B) (ok_impl_ValidFix _) fun r2 _ => ?_
    refine Run.z [false, false] ?_
    refine Run.y (gv := vT_I_B) (fun _ => ?_) (fun _ => ?_)
    · exact Run.x 0
    · refine Run.q (e := vT_I_B) (gv := vT_I_B) (ok_impl_MulDown _ _) fun r3 _ => ?_
      exact Run.x 0

theorem ok_impl_SqrI (a0 : Iv) : Fun Tryz.prog 179 [] #[vIv a0] (vIv (F_impl_SqrI a0)) [] := by
  refine Fun.ofH 400 E_ok mixed Tryz.func179 (by kernel_rfl) (by kernel_rfl) ?_
  unfold F_impl_SqrI
  refine Run.q (e := vB) (gv := vIv) (ok_impl_IsWhole _) fun r1 _ => ?_
  refine Run.y (gv := vIv) (fun _ => ?_) (fun _ => ?_)
  · refine Run.q (e := vIv) (gv := vIv) (ok_impl_Whole) fun r2 _ => ?_
    exact Run.x 0
  · refine Run.q (e := vIv) (gv := vIv) (ok_impl_AbsI _) fun r3 _ => ?_
    refine Run.q (e := vT_I_B) (gv := vIv) (ok_impl_MulDown _ _) fun r4 _ => ?_
    refine Run.q (e := vT_I_B) (gv := vIv) (ok_impl_MulUp _ _) fun r5 _ => ?_
    refine Run.y (gv := vIv) (fun _ => ?_) (fun _ => ?_)
    · refine Run.z [true] ?_
      refine Run.q (e := vIv) (gv := vIv) (ok_impl_bounded _ _ _) fun r6 _ => ?_
      exact Run.x 0
    · refine Run.z [false] ?_
      refine Run.q (e := vIv) (gv := vIv) (ok_impl_bounded _ _ _) fun r7 _ => ?_
      exact Run.x 0

theorem ok_impl_Integer (a0 : I64) : Fun Tryz.prog 69 [] #[vI a0] (vIv (F_impl_Integer a0)) [] := by
  refine Fun.ofH 400 E_ok mixed Tryz.func69 (by kernel_rfl) (by kernel_rfl) ?_
  unfold F_impl_Integer
  refine Run.q (e := vB) (gv := vIv) (ok_impl_within _ _ _) fun r1 _ => ?_
  refine Run.y (gv := vIv) (fun _ => ?_) (fun _ => ?_)
  · refine Run.q (e := vIv) (gv := vIv) (ok_impl_Whole) fun r2 _ => ?_
    exact Run.x 0
  · refine Run.q (e := vIv) (gv := vIv) (ok_impl_bounded _ _ _) fun r3 _ => ?_
    exact Run.x 0

theorem ok_impl_DivDown (a0 : I64) (a1 : I64) : Fun Tryz.prog 135 [] #[vI a0, vI a1] (vT_I_B (F_impl_DivDown a0 a1)) [] := by
  refine Fun.ofH 400 E_ok mixed Tryz.func135 (by kernel_rfl) (by kernel_rfl) ?_
  unfold F_impl_DivDown
  refine Run.q (e := vB) (gv := vT_I_B) (ok_impl_ValidFix _) fun r1 _ => ?_
  refine Run.y (gv := vT_I_B) (fun _ => ?_) (fun _ => ?_)
  · refine Run.z [true, true, true, true] ?_
    exact Run.x 0
  · refine Run.z [false] ?_
    refine Run.q (e := vB) (gv := vT_I_B) (ok_impl_ValidFix _) fun r2 _ => ?_
    refine Run.z [false, false] ?_
    refine Run.y (gv := vT_I_B) (fun _ => ?_) (fun _ => ?_)
    · exact Run.x 0
    · refine Run.y (gv := vT_I_B) (fun _ => ?_) (fun _ => ?_)
      · refine Run.q (e := vT_I_B) (gv := vT_I_B) (ok_impl_MulDivFloor _ _ _) fun r3 _ => ?_
        refine Run.q (e := vT_I_B) (gv := vT_I_B) (ok_impl_fixed _ _) fun r4 _ => ?_
        exact Run.x 0
      · refine Run.q (e := vT_I_B) (gv := vT_I_B) (ok_impl_MulDivFloor _ _ _) fun r5 _ => ?_
        refine Run.q (e := vT_I_B) (gv := vT_I_B) (ok_impl_fixed _ _) fun r6 _ => ?_
        exact Run.x 0

theorem ok_impl_DivUp (a0 : I64) (a1 : I64) : Fun Tryz.prog 136 [] #[vI a0, vI a1] (vT_I_B (F_impl_DivUp a0 a1)) [] := by
  refine Fun.ofH 400 E_ok mixed Tryz.func136 (by kernel_rfl) (by kernel_rfl) ?_
  unfold F_impl_DivUp
  refine Run.q (e := vB) (gv := vT_I_B) (ok_impl_ValidFix _) fun r1 _ => ?_
  refine Run.y (gv := vT_I_B) (fun _ => ?_) (fun _ => ?_)
  · refine Run.z [true, true, true, true] ?_
    exact Run.x 0
  · refine Run.z [false] ?_
    refine Run.q (e := vB) (gv := vT_I_B) (ok_impl_ValidFix _) fun r2 _ => ?_
    refine Run.z [false, false] ?_
    refine Run.y (gv := vT_I_B) (fun _ => ?_) (fun _ => ?_)
    · exact Run.x 0
    · refine Run.q (e := vT_I_B) (gv := vT_I_B) (ok_impl_DivDown _ _) fun r3 _ => ?_
      exact Run.x 0

theorem ok_impl_combine__impl_DivDown__impl_DivUp (a0 : Iv) (a1 : Iv) : Fun Tryz.prog 134 [] #[vIv a0, vIv a1, .func (.func 135) #[] #[], .func (.func 136) #[] #[]] (vIv (F_impl_combine__impl_DivDown__impl_DivUp a0 a1)) [] := by
  refine Fun.ofH 400 E_ok mixed Tryz.func134 (by kernel_rfl) (by kernel_rfl) ?_
  unfold F_impl_combine__impl_DivDown__impl_DivUp
  refine Run.u 400 E_ok mixed Tryz.func134 ?_
  refine Run.z [true] ?_
  refine Run.u 400 E_ok mixed Tryz.func134 ?_
  refine Run.z [true] ?_
  refine Run.q (e := vT_I_B) (gv := vIv) (ok_impl_DivDown _ _) fun r1 _ => ?_
  refine Run.q (e := vT_I_B) (gv := vIv) (ok_impl_DivUp _ _) fun r2 _ => ?_
  refine Run.y (gv := vIv) (fun _ => ?_) (fun _ => ?_)
  · refine Run.z [true, true, true] ?_
    refine Run.q (e := vIv) (gv := vIv) (ok_impl_Whole) fun r3 _ => ?_
    exact Run.x 0
  · refine Run.z [false, false] ?_
    refine Run.y (gv := vIv) (fun _ => ?_) (fun _ => ?_)
    · refine Run.q (e := vIv) (gv := vIv) (ok_impl_Whole) fun r4 _ => ?_
      exact Run.x 0
    · refine Run.z [true] ?_
      refine Run.u 400 E_ok mixed Tryz.func134 ?_
      refine Run.z [true] ?_
      refine Run.q (e := vT_I_B) (gv := vIv) (ok_impl_DivDown _ _) fun r5 _ => ?_
      refine Run.q (e := vT_I_B) (gv := vIv) (ok_impl_DivUp _ _) fun r6 _ => ?_
      refine Run.y (gv := vIv) (fun _ => ?_) (fun _ => ?_)
      · refine Run.z [true, true, true] ?_
        refine Run.q (e := vIv) (gv := vIv) (ok_impl_Whole) fun r7 _ => ?_
        exact Run.x 0
      · refine Run.z [false, false] ?_
        refine Run.y (gv := vIv) (fun _ => ?_) (fun _ => ?_)
        · refine Run.q (e := vIv) (gv := vIv) (ok_impl_Whole) fun r8 _ => ?_
          exact Run.x 0
        · refine Run.z [false] ?_
          refine Run.u 400 E_ok mixed Tryz.func134 ?_
          refine Run.z [false] ?_
          refine Run.u 400 E_ok mixed Tryz.func134 ?_
          refine Run.z [true] ?_
          refine Run.u 400 E_ok mixed Tryz.func134 ?_
          refine Run.z [true] ?_
          refine Run.q (e := vT_I_B) (gv := vIv) (ok_impl_DivDown _ _) fun r9 _ => ?_
          refine Run.q (e := vT_I_B) (gv := vIv) (ok_impl_DivUp _ _) fun r10 _ => ?_
          refine Run.y (gv := vIv) (fun _ => ?_) (fun _ => ?_)
          · refine Run.z [true, true, true] ?_
            refine Run.q (e := vIv) (gv := vIv) (ok_impl_Whole) fun r11 _ => ?_
            exact Run.x 0
          · refine Run.z [false, false] ?_
            refine Run.y (gv := vIv) (fun _ => ?_) (fun _ => ?_)
            · refine Run.q (e := vIv) (gv := vIv) (ok_impl_Whole) fun r12 _ => ?_
              exact Run.x 0
            · refine Run.z [false] ?_
              refine Run.u 400 E_ok mixed Tryz.func134 ?_
              refine Run.z [true] ?_
              refine Run.q (e := vT_I_B) (gv := vIv) (ok_impl_DivDown _ _) fun r13 _ => ?_
              refine Run.q (e := vT_I_B) (gv := vIv) (ok_impl_DivUp _ _) fun r14 _ => ?_
              refine Run.y (gv := vIv) (fun _ => ?_) (fun _ => ?_)
              · refine Run.z [true, true, true] ?_
                refine Run.q (e := vIv) (gv := vIv) (ok_impl_Whole) fun r15 _ => ?_
                exact Run.x 0
              · refine Run.z [false, false] ?_
                refine Run.y (gv := vIv) (fun _ => ?_) (fun _ => ?_)
                · refine Run.q (e := vIv) (gv := vIv) (ok_impl_Whole) fun r16 _ => ?_
                  exact Run.x 0
                · refine Run.z [false] ?_
                  refine Run.u 400 E_ok mixed Tryz.func134 ?_
                  refine Run.z [false] ?_
                  refine Run.u 400 E_ok mixed Tryz.func134 ?_
                  refine Run.z [false] ?_
                  refine Run.q (e := vIv) (gv := vIv) (ok_impl_bounded _ _ _) fun r17 _ => ?_
                  exact Run.x 0

theorem ok_impl_DivI (a0 : Iv) (a1 : Iv) : Fun Tryz.prog 53 [] #[vIv a0, vIv a1] (vIv (F_impl_DivI a0 a1)) [] := by
  refine Fun.ofH 400 E_ok mixed Tryz.func53 (by kernel_rfl) (by kernel_rfl) ?_
  unfold F_impl_DivI
  refine Run.q (e := vB) (gv := vIv) (ok_impl_areBounded _ _) fun r1 _ => ?_
  refine Run.y (gv := vIv) (fun _ => ?_) (fun _ => ?_)
  · refine Run.z [true, true, true] ?_
    refine Run.q (e := vIv) (gv := vIv) (ok_impl_Whole) fun r2 _ => ?_
    exact Run.x 0
  · refine Run.z [false] ?_
    refine Run.q (e := vB) (gv := vIv) (ok_impl_HasI _ _) fun r3 _ => ?_
    refine Run.z [false] ?_
    refine Run.y (gv := vIv) (fun _ => ?_) (fun _ => ?_)
    · refine Run.q (e := vIv) (gv := vIv) (ok_impl_Whole) fun r4 _ => ?_
      exact Run.x 0
    · refine Run.q (e := vIv) (gv := vIv) (ok_impl_combine__impl_DivDown__impl_DivUp _ _) fun r5 _ => ?_
      exact Run.x 0

theorem ok_impl_combine__impl_MulDown__impl_MulUp (a0 : Iv) (a1 : Iv) : Fun Tryz.prog 134 [] #[vIv a0, vIv a1, .func (.func 161) #[] #[], .func (.func 162) #[] #[]] (vIv (F_impl_combine__impl_MulDown__impl_MulUp a0 a1)) [] := by
  refine Fun.ofH 400 E_ok mixed Tryz.func134 (by kernel_rfl) (by kernel_rfl) ?_
  unfold F_impl_combine__impl_MulDown__impl_MulUp
  refine Run.u 400 E_ok mixed Tryz.func134 ?_
  refine Run.z [true] ?_
  refine Run.u 400 E_ok mixed Tryz.func134 ?_
  refine Run.z [true] ?_
  refine Run.q (e := vT_I_B) (gv := vIv) (ok_impl_MulDown _ _) fun r1 _ => ?_
  refine Run.q (e := vT_I_B) (gv := vIv) (ok_impl_MulUp _ _) fun r2 _ => ?_
  refine Run.y (gv := vIv) (fun _ => ?_) (fun _ => ?_)
  · refine Run.z [true, true, true] ?_
    refine Run.q (e := vIv) (gv := vIv) (ok_impl_Whole) fun r3 _ => ?_
    exact Run.x 0
  · refine Run.z [false, false] ?_
    refine Run.y (gv := vIv) (fun _ => ?_) (fun _ => ?_)
    · refine Run.q (e := vIv) (gv := vIv) (ok_impl_Whole) fun r4 _ => ?_
      exact Run.x 0
    · refine Run.z [true] ?_
      refine Run.u 400 E_ok mixed Tryz.func134 ?_
      refine Run.z [true] ?_
      refine Run.q (e := vT_I_B) (gv := vIv) (ok_impl_MulDown _ _) fun r5 _ => ?_
      refine Run.q (e := vT_I_B) (gv := vIv) (ok_impl_MulUp _ _) fun r6 _ => ?_
      refine Run.y (gv := vIv) (fun _ => ?_) (fun _ => ?_)
      · refine Run.z [true, true, true] ?_
        refine Run.q (e := vIv) (gv := vIv) (ok_impl_Whole) fun r7 _ => ?_
        exact Run.x 0
      · refine Run.z [false, false] ?_
        refine Run.y (gv := vIv) (fun _ => ?_) (fun _ => ?_)
        · refine Run.q (e := vIv) (gv := vIv) (ok_impl_Whole) fun r8 _ => ?_
          exact Run.x 0
        · refine Run.z [false] ?_
          refine Run.u 400 E_ok mixed Tryz.func134 ?_
          refine Run.z [false] ?_
          refine Run.u 400 E_ok mixed Tryz.func134 ?_
          refine Run.z [true] ?_
          refine Run.u 400 E_ok mixed Tryz.func134 ?_
          refine Run.z [true] ?_
          refine Run.q (e := vT_I_B) (gv := vIv) (ok_impl_MulDown _ _) fun r9 _ => ?_
          refine Run.q (e := vT_I_B) (gv := vIv) (ok_impl_MulUp _ _) fun r10 _ => ?_
          refine Run.y (gv := vIv) (fun _ => ?_) (fun _ => ?_)
          · refine Run.z [true, true, true] ?_
            refine Run.q (e := vIv) (gv := vIv) (ok_impl_Whole) fun r11 _ => ?_
            exact Run.x 0
          · refine Run.z [false, false] ?_
            refine Run.y (gv := vIv) (fun _ => ?_) (fun _ => ?_)
            · refine Run.q (e := vIv) (gv := vIv) (ok_impl_Whole) fun r12 _ => ?_
              exact Run.x 0
            · refine Run.z [false] ?_
              refine Run.u 400 E_ok mixed Tryz.func134 ?_
              refine Run.z [true] ?_
              refine Run.q (e := vT_I_B) (gv := vIv) (ok_impl_MulDown _ _) fun r13 _ => ?_
              refine Run.q (e := vT_I_B) (gv := vIv) (ok_impl_MulUp _ _) fun r14 _ => ?_
              refine Run.y (gv := vIv) (fun _ => ?_) (fun _ => ?_)
              · refine Run.z [true, true, true] ?_
                refine Run.q (e := vIv) (gv := vIv) (ok_impl_Whole) fun r15 _ => ?_
                exact Run.x 0
              · refine Run.z [false, false] ?_
                refine Run.y (gv := vIv) (fun _ => ?_) (fun _ => ?_)
                · refine Run.q (e := vIv) (gv := vIv) (ok_impl_Whole) fun r16 _ => ?_
                  exact Run.x 0
                · refine Run.z [false] ?_
                  refine Run.u 400 E_ok mixed Tryz.func134 ?_
                  refine Run.z [false] ?_
                  refine Run.u 400 E_ok mixed Tryz.func134 ?_
                  refine Run.z [false] ?_
                  refine Run.q (e := vIv) (gv := vIv) (ok_impl_bounded _ _ _) fun r17 _ => ?_
                  exact Run.x 0

theorem ok_impl_MulI (a0 : Iv) (a1 : Iv) : Fun Tryz.prog 75 [] #[vIv a0, vIv a1] (vIv (F_impl_MulI a0 a1)) [] := by
  refine Fun.ofH 400 E_ok mixed Tryz.func75 (by kernel_rfl) (by kernel_rfl) ?_
  unfold F_impl_MulI
  refine Run.q (e := vB) (gv := vIv) (ok_impl_areBounded _ _) fun r1 _ => ?_
  refine Run.y (gv := vIv) (fun _ => ?_) (fun _ => ?_)
  · refine Run.q (e := vIv) (gv := vIv) (ok_impl_Whole) fun r2 _ => ?_
    exact Run.x 0
  · refine Run.q (e := vIv) (gv := vIv) (ok_impl_combine__impl_MulDown__impl_MulUp _ _) fun r3 _ => ?_
    exact Run.x 0

theorem ok_impl_series (a0 : Iv) (a1 : I64) : Fun Tryz.prog 287 [] #[vIv a0, vI a1] (vIv (F_impl_series a0 a1)) [] := by
  refine Fun.ofH 400 E_ok mixed Tryz.func287 (by kernel_rfl) (by kernel_rfl) ?_
  unfold F_impl_series
  refine Run.q (e := vIv) (gv := vIv) (ok_impl_Integer _) fun r1 _ => ?_
  refine Run.u 400 E_ok mixed Tryz.func287 ?_
  refine Run.z [true] ?_
  refine Run.q (e := vIv) (gv := vIv) (ok_impl_Integer _) fun r2 _ => ?_
  refine Run.q (e := vIv) (gv := vIv) (ok_impl_Integer _) fun r3 _ => ?_
  refine Run.q (e := vIv) (gv := vIv) (ok_impl_DivI _ _) fun r4 _ => ?_
  refine Run.q (e := vIv) (gv := vIv) (ok_impl_MulI _ _) fun r5 _ => ?_
  refine Run.q (e := vIv) (gv := vIv) (ok_impl_SubI _ _) fun r6 _ => ?_
  refine Run.u 400 E_ok mixed Tryz.func287 ?_
  refine Run.z [true] ?_
  refine Run.q (e := vIv) (gv := vIv) (ok_impl_Integer _) fun r7 _ => ?_
  refine Run.q (e := vIv) (gv := vIv) (ok_impl_Integer _) fun r8 _ => ?_
  refine Run.q (e := vIv) (gv := vIv) (ok_impl_DivI _ _) fun r9 _ => ?_
  refine Run.q (e := vIv) (gv := vIv) (ok_impl_MulI _ _) fun r10 _ => ?_
  refine Run.q (e := vIv) (gv := vIv) (ok_impl_SubI _ _) fun r11 _ => ?_
  refine Run.u 400 E_ok mixed Tryz.func287 ?_
  refine Run.z [true] ?_
  refine Run.q (e := vIv) (gv := vIv) (ok_impl_Integer _) fun r12 _ => ?_
  refine Run.q (e := vIv) (gv := vIv) (ok_impl_Integer _) fun r13 _ => ?_
  refine Run.q (e := vIv) (gv := vIv) (ok_impl_DivI _ _) fun r14 _ => ?_
  refine Run.q (e := vIv) (gv := vIv) (ok_impl_MulI _ _) fun r15 _ => ?_
  refine Run.q (e := vIv) (gv := vIv) (ok_impl_SubI _ _) fun r16 _ => ?_
  refine Run.u 400 E_ok mixed Tryz.func287 ?_
  refine Run.z [true] ?_
  refine Run.q (e := vIv) (gv := vIv) (ok_impl_Integer _) fun r17 _ => ?_
  refine Run.q (e := vIv) (gv := vIv) (ok_impl_Integer _) fun r18 _ => ?_
  refine Run.q (e := vIv) (gv := vIv) (ok_impl_DivI _ _) fun r19 _ => ?_
  refine Run.q (e := vIv) (gv := vIv) (ok_impl_MulI _ _) fun r20 _ => ?_
  refine Run.q (e := vIv) (gv := vIv) (ok_impl_SubI _ _) fun r21 _ => ?_
  refine Run.u 400 E_ok mixed Tryz.func287 ?_
  refine Run.z [true] ?_
  refine Run.q (e := vIv) (gv := vIv) (ok_impl_Integer _) fun r22 _ => ?_
  refine Run.q (e := vIv) (gv := vIv) (ok_impl_Integer _) fun r23 _ => ?_
  refine Run.q (e := vIv) (gv := vIv) (ok_impl_DivI _ _) fun r24 _ => ?_
  refine Run.q (e := vIv) (gv := vIv) (ok_impl_MulI _ _) fun r25 _ => ?_
  refine Run.q (e := vIv) (gv := vIv) (ok_impl_SubI _ _) fun r26 _ => ?_
  refine Run.u 400 E_ok mixed Tryz.func287 ?_
  refine Run.z [true] ?_
  refine Run.q (e := vIv) (gv := vIv) (ok_impl_Integer _) fun r27 _ => ?_
  refine Run.q (e := vIv) (gv := vIv) (ok_impl_Integer _) fun r28 _ => ?_
  refine Run.q (e := vIv) (gv := vIv) (ok_impl_DivI _ _) fun r29 _ => ?_
  refine Run.q (e := vIv) (gv := vIv) (ok_impl_MulI _ _) fun r30 _ => ?_
  refine Run.q (e := vIv) (gv := vIv) (ok_impl_SubI _ _) fun r31 _ => ?_
  refine Run.u 400 E_ok mixed Tryz.func287 ?_
  refine Run.z [true] ?_
  refine Run.q (e := vIv) (gv := vIv) (ok_impl_Integer _) fun r32 _ => ?_
  refine Run.q (e := vIv) (gv := vIv) (ok_impl_Integer _) fun r33 _ => ?_
  refine Run.q (e := vIv) (gv := vIv) (ok_impl_DivI _ _) fun r34 _ => ?_
  refine Run.q (e := vIv) (gv := vIv) (ok_impl_MulI _ _) fun r35 _ => ?_
  refine Run.q (e := vIv) (gv := vIv) (ok_impl_SubI _ _) fun r36 _ => ?_
  refine Run.u 400 E_ok mixed Tryz.func287 ?_
  refine Run.z [true] ?_
  refine Run.q (e := vIv) (gv := vIv) (ok_impl_Integer _) fun r37 _ => ?_
  refine Run.q (e := vIv) (gv := vIv) (ok_impl_Integer _) fun r38 _ => ?_
  refine Run.q (e := vIv) (gv := vIv) (ok_impl_DivI _ _) fun r39 _ => ?_
  refine Run.q (e := vIv) (gv := vIv) (ok_impl_MulI _ _) fun r40 _ => ?_
  refine Run.q (e := vIv) (gv := vIv) (ok_impl_SubI _ _) fun r41 _ => ?_
  refine Run.u 400 E_ok mixed Tryz.func287 ?_
  refine Run.z [false] ?_
  exact Run.x 0

theorem ok_impl_tiny : Fun Tryz.prog 288 [] #[] (vIv (F_impl_tiny)) [] := by
  refine Fun.ofH 400 E_ok mixed Tryz.func288 (by kernel_rfl) (by kernel_rfl) ?_
  unfold F_impl_tiny
  exact Run.x 0

theorem ok_impl_SinSeries (a0 : Iv) : Fun Tryz.prog 265 [] #[vIv a0] (vIv (F_impl_SinSeries a0)) [] := by
  refine Fun.ofH 400 E_ok mixed Tryz.func265 (by kernel_rfl) (by kernel_rfl) ?_
  unfold F_impl_SinSeries
  refine Run.q (e := vIv) (gv := vIv) (ok_impl_ring) fun r1 _ => ?_
  refine Run.q (e := vB) (gv := vIv) (ok_impl_InsideI _ _) fun r2 _ => ?_
  refine Run.y (gv := vIv) (fun _ => ?_) (fun _ => ?_)
  · refine Run.q (e := vIv) (gv := vIv) (ok_impl_Whole) fun r3 _ => ?_
    exact Run.x 0
  · refine Run.q (e := vIv) (gv := vIv) (ok_impl_SqrI _) fun r4 _ => ?_
    refine Run.q (e := vIv) (gv := vIv) (ok_impl_series _ _) fun r5 _ => ?_
    refine Run.q (e := vIv) (gv := vIv) (ok_impl_MulI _ _) fun r6 _ => ?_
    refine Run.q (e := vIv) (gv := vIv) (ok_impl_tiny) fun r7 _ => ?_
    refine Run.q (e := vIv) (gv := vIv) (ok_impl_AddI _ _) fun r8 _ => ?_
    exact Run.x 0

theorem ok_impl_MeetI (a0 : Iv) (a1 : Iv) : Fun Tryz.prog 143 [] #[vIv a0, vIv a1] (vT_Iv_B (F_impl_MeetI a0 a1)) [] := by
  refine Fun.ofH 400 E_ok mixed Tryz.func143 (by kernel_rfl) (by kernel_rfl) ?_
  unfold F_impl_MeetI
  refine Run.q (e := vB) (gv := vT_Iv_B) (ok_impl_IsWhole _) fun r1 _ => ?_
  refine Run.y (gv := vT_Iv_B) (fun _ => ?_) (fun _ => ?_)
  · refine Run.z [true] ?_
    refine Run.q (e := vB) (gv := vT_Iv_B) (ok_impl_IsWhole _) fun r2 _ => ?_
    refine Run.z [true] ?_
    refine Run.y (gv := vT_Iv_B) (fun _ => ?_) (fun _ => ?_)
    · refine Run.q (e := vIv) (gv := vT_Iv_B) (ok_impl_Whole) fun r3 _ => ?_
      exact Run.x 0
    · refine Run.q (e := vB) (gv := vT_Iv_B) (ok_impl_IsWhole _) fun r4 _ => ?_
      refine Run.y (gv := vT_Iv_B) (fun _ => ?_) (fun _ => ?_)
      · exact Run.x 0
      · refine Run.q (e := vB) (gv := vT_Iv_B) (ok_impl_IsWhole _) fun r5 _ => ?_
        refine Run.y (gv := vT_Iv_B) (fun _ => ?_) (fun _ => ?_)
        · exact Run.x 0
        · refine Run.y (gv := vT_Iv_B) (fun _ => ?_) (fun _ => ?_)
          · exact Run.x 0
          · exact Run.x 0
  · refine Run.z [false, false, false] ?_
    refine Run.q (e := vB) (gv := vT_Iv_B) (ok_impl_IsWhole _) fun r6 _ => ?_
    refine Run.y (gv := vT_Iv_B) (fun _ => ?_) (fun _ => ?_)
    · exact Run.x 0
    · refine Run.q (e := vB) (gv := vT_Iv_B) (ok_impl_IsWhole _) fun r7 _ => ?_
      refine Run.y (gv := vT_Iv_B) (fun _ => ?_) (fun _ => ?_)
      · exact Run.x 0
      · refine Run.y (gv := vT_Iv_B) (fun _ => ?_) (fun _ => ?_)
        · exact Run.x 0
        · exact Run.x 0

theorem ok_impl_inRing (a0 : Iv) : Fun Tryz.prog 264 [] #[vIv a0] (vIv (F_impl_inRing a0)) [] := by
  refine Fun.ofH 400 E_ok mixed Tryz.func264 (by kernel_rfl) (by kernel_rfl) ?_
  unfold F_impl_inRing
  refine Run.q (e := vIv) (gv := vIv) (ok_impl_ring) fun r1 _ => ?_
  refine Run.q (e := vT_Iv_B) (gv := vIv) (ok_impl_MeetI _ _) fun r2 _ => ?_
  exact Run.x 0

theorem ok_impl_CosSeries (a0 : Iv) : Fun Tryz.prog 266 [] #[vIv a0] (vIv (F_impl_CosSeries a0)) [] := by
  refine Fun.ofH 400 E_ok mixed Tryz.func266 (by kernel_rfl) (by kernel_rfl) ?_
  unfold F_impl_CosSeries
  refine Run.q (e := vIv) (gv := vIv) (ok_impl_ring) fun r1 _ => ?_
  refine Run.q (e := vB) (gv := vIv) (ok_impl_InsideI _ _) fun r2 _ => ?_
  refine Run.y (gv := vIv) (fun _ => ?_) (fun _ => ?_)
  · refine Run.q (e := vIv) (gv := vIv) (ok_impl_Whole) fun r3 _ => ?_
    exact Run.x 0
  · refine Run.q (e := vIv) (gv := vIv) (ok_impl_SqrI _) fun r4 _ => ?_
    refine Run.q (e := vIv) (gv := vIv) (ok_impl_series _ _) fun r5 _ => ?_
    refine Run.q (e := vIv) (gv := vIv) (ok_impl_tiny) fun r6 _ => ?_
    refine Run.q (e := vIv) (gv := vIv) (ok_impl_AddI _ _) fun r7 _ => ?_
    exact Run.x 0

theorem ok_impl_circleValue (a0 : I64) (a1 : I64) : Fun Tryz.prog 210 [] #[vI a0, vI a1] (vIv (F_impl_circleValue a0 a1)) [] := by
  refine Fun.ofH 400 E_ok mixed Tryz.func210 (by kernel_rfl) (by kernel_rfl) ?_
  unfold F_impl_circleValue
  refine Run.q (e := vB) (gv := vIv) (ok_impl_isAngle _) fun r1 _ => ?_
  refine Run.y (gv := vIv) (fun _ => ?_) (fun _ => ?_)
  · refine Run.q (e := vIv) (gv := vIv) (ok_impl_ring) fun r2 _ => ?_
    exact Run.x 0
  · refine Run.q (e := vI) (gv := vIv) (ok_impl_QuarterOf _) fun r3 _ => ?_
    refine Run.q (e := vIv) (gv := vIv) (ok_impl_at _) fun r4 _ => ?_
    refine Run.q (e := vIv) (gv := vIv) (ok_impl_TurnI _) fun r5 _ => ?_
    refine Run.q (e := vIv) (gv := vIv) (ok_impl_SubI _ _) fun r6 _ => ?_
    refine Run.y (gv := vIv) (fun _ => ?_) (fun _ => ?_)
    · refine Run.q (e := vIv) (gv := vIv) (ok_impl_SinSeries _) fun r7 _ => ?_
      refine Run.q (e := vIv) (gv := vIv) (ok_impl_inRing _) fun r8 _ => ?_
      exact Run.x 0
    · refine Run.y (gv := vIv) (fun _ => ?_) (fun _ => ?_)
      · refine Run.q (e := vIv) (gv := vIv) (ok_impl_CosSeries _) fun r9 _ => ?_
        refine Run.q (e := vIv) (gv := vIv) (ok_impl_inRing _) fun r10 _ => ?_
        exact Run.x 0
      · refine Run.y (gv := vIv) (fun _ => ?_) (fun _ => ?_)
        · refine Run.q (e := vIv) (gv := vIv) (ok_impl_SinSeries _) fun r11 _ => ?_
          refine Run.q (e := vIv) (gv := vIv) (ok_impl_NegI _) fun r12 _ => ?_
          refine Run.q (e := vIv) (gv := vIv) (ok_impl_inRing _) fun r13 _ => ?_
          exact Run.x 0
        · refine Run.q (e := vIv) (gv := vIv) (ok_impl_CosSeries _) fun r14 _ => ?_
          refine Run.q (e := vIv) (gv := vIv) (ok_impl_NegI _) fun r15 _ => ?_
          refine Run.q (e := vIv) (gv := vIv) (ok_impl_inRing _) fun r16 _ => ?_
          exact Run.x 0

theorem ok_impl_HullI (a0 : Iv) (a1 : Iv) : Fun Tryz.prog 145 [] #[vIv a0, vIv a1] (vIv (F_impl_HullI a0 a1)) [] := by
  refine Fun.ofH 400 E_ok mixed Tryz.func145 (by kernel_rfl) (by kernel_rfl) ?_
  unfold F_impl_HullI
  refine Run.q (e := vB) (gv := vIv) (ok_impl_areBounded _ _) fun r1 _ => ?_
  refine Run.y (gv := vIv) (fun _ => ?_) (fun _ => ?_)
  · refine Run.q (e := vIv) (gv := vIv) (ok_impl_Whole) fun r2 _ => ?_
    exact Run.x 0
  · exact Run.x 0

theorem ok_impl_OverlapI (a0 : Iv) (a1 : Iv) : Fun Tryz.prog 267 [] #[vIv a0, vIv a1] (vB (F_impl_OverlapI a0 a1)) [] := by
  refine Fun.ofH 400 E_ok mixed Tryz.func267 (by kernel_rfl) (by kernel_rfl) ?_
  unfold F_impl_OverlapI
  refine Run.q (e := vT_Iv_B) (gv := vB) (ok_impl_MeetI _ _) fun r1 _ => ?_
  exact Run.x 0

theorem len_impl_turnsIn_L0 (a0 : Iv) : ∀ (fu : Nat) (x_k : I64) (acc : List I64), (F_impl_turnsIn_L0 fu a0 x_k acc).length ≤ acc.length + fu := by
  intro fu
  induction fu with
  | zero => intro x_k acc; exact Nat.le_refl _
  | succ fu ih =>
    intro x_k acc
    unfold F_impl_turnsIn_L0
    simp only [bindP]
    have h1 := ih (w64 (x_k.val + 1)) (acc ++ [x_k])
    have h2 := ih (w64 (x_k.val + 1)) acc
    rw [List.length_append] at h1
    simp only [List.length_cons, List.length_nil] at h1
    cases decide (x_k.val ≤ (w64 ((F_impl_QuarterOf a0.hi).val + 1)).val)
    · rw [cond_false]; omega
    · rw [cond_true]
      cases F_impl_OverlapI (F_impl_TurnI x_k) a0
      · rw [cond_false]; omega
      · rw [cond_true]; omega
theorem len_impl_turnsIn (a0 : Iv) : (F_impl_turnsIn a0).length ≤ 4000 := by
  have qb := impl_quarter_bounds a0.lo
  unfold F_impl_turnsIn
  simp only [bindP]
  have := len_impl_turnsIn_L0 a0 ((2000 - (w64 ((F_impl_QuarterOf a0.lo).val - 1)).val).toNat + 1) (w64 ((F_impl_QuarterOf a0.lo).val - 1)) []
  have e1 : (w64 ((F_impl_QuarterOf a0.lo).val - 1)).val = (F_impl_QuarterOf a0.lo).val - 1 := by rw [w64_val]; omega
  simp only [List.length_nil, Nat.zero_add] at this
  refine Nat.le_trans this ?_
  omega
theorem ok_impl_turnsIn_L0 (a0 : Iv) : ∀ (fu : Nat) (x_k : I64) (acc : List I64) (v : Value) (X : List Blk) (hv : LS 2 acc v ((#[.int .i64 a0.lo.val, .int .i64 a0.hi.val], 25) :: X)) (hm : (2000 - x_k.val).toNat < fu) (hk : -1100 ≤ x_k.val) (hlen : (acc.length : Int) ≤ x_k.val + 1100)
    (t : Array Value) (ht : maskA t [0, 2, 5, 6, 7, 8, 9, 10, 11, 12, 13, 14, 15, 16, 17, 18, 19, 20, 21, 22, 23, 24, 25] = #[undef, .pointer (some ⟨0, 0, none⟩), undef, v, .int .i64 x_k.val, undef, undef, undef, undef, undef, undef, undef, undef, undef, undef, undef, undef, undef, undef, undef, undef, undef, undef, undef, undef, undef]),
    Cfg Tryz.prog 211 (loopAt Tryz.f211 0) t ((#[.int .i64 a0.lo.val, .int .i64 a0.hi.val], 25) :: X) (LS 2 (F_impl_turnsIn_L0 fu a0 x_k acc)) := by
  intro fu
  induction fu with
  | zero => intro x_k acc v X hv hm; exact absurd hm (Nat.not_lt_zero _)
  | succ fu ih =>
    intro x_k acc v X hv hm hk hlen t ht
    refine Cfg.round E_ok mixed Tryz.func211 ht fun q => ?_
    unfold F_impl_turnsIn_L0
    have qb := impl_quarter_bounds a0.hi
    refine Run.c (by kernel_rfl) (by kernel_rfl) (ok_impl_QuarterOf a0.hi) rfl ?_
    simp only [bindP]
    generalize F_impl_QuarterOf a0.hi = r1 at *
    refine Run.i (c := decide (x_k.val ≤ (w64 (r1.val + 1)).val)) (by kernel_rfl) (fun h1 => ?_) (fun h1 => ?_)
    · rw [h1, cond_true]
      simp only [w64_val, decide_eq_true_eq] at h1
      refine Run.c (by kernel_rfl) (by kernel_rfl) (ok_impl_TurnI x_k) rfl ?_
      generalize F_impl_TurnI x_k = r2
      refine Run.c (by kernel_rfl) (by kernel_rfl) (ok_impl_OverlapI r2 a0) rfl ?_
      generalize F_impl_OverlapI r2 a0 = r3
      have e1 : (w64 (x_k.val + 1)).val = x_k.val + 1 := by rw [w64_val]; omega
      refine Run.i (c := r3) (by kernel_rfl) (fun h2 => ?_) (fun h2 => ?_)
      · rw [h2, cond_true]
        refine Run.h (td := appAt Tryz.f211 0) (H := (#[.int .i64 a0.lo.val, .int .i64 a0.hi.val], 25) :: X) (by kernel_rfl) (by kernel_rfl) rfl (by kernel_rfl) ?_
        refine Cfg.app (T := 99) (e := 2) (d1 := 21) (d2 := 22) (d3 := 23) (d4 := 24) (s := 3) (x := 4) (L := acc) (v := v) (z := x_k) (by kernel_rfl) (by kernel_rfl) (by kernel_rfl) (by kernel_rfl) (by decide) (by kernel_rfl) (by kernel_rfl) (by kernel_rfl) hv (by omega) fun v4 H4 hv4 hs4 => ?_
        obtain ⟨X4, rfl⟩ := head_same hs4 (show (25 : Nat) ≠ 2 by decide)
        refine exec_cfg E_ok mixed Tryz.func211 400 _ _ _ _ ?_
        exact Run.l (by kernel_rfl) (by kernel_rfl) (by kernel_rfl) (by kernel_rfl) (ih (w64 (x_k.val + 1)) (acc ++ [x_k]) v4 X4 hv4 (by omega) (by omega) (by rw [List.length_append]; simp only [List.length_cons, List.length_nil]; omega))
      · rw [h2, cond_false]
        exact Run.l (by kernel_rfl) (by kernel_rfl) (by kernel_rfl) (by kernel_rfl) (ih (w64 (x_k.val + 1)) acc v X hv (by omega) (by omega) (by omega))
    · rw [h1, cond_false]
      exact Run.rl (v := v) (by kernel_rfl) (by kernel_rfl) hv
theorem ok_impl_turnsIn (a0 : Iv) : FunR Tryz.prog 211 [] #[vIv a0] (Lone 2 (F_impl_turnsIn a0)) := by
  refine FunR.lone (FunR.of 400 E_ok mixed Tryz.func211 (by kernel_rfl) ?_)
  unfold F_impl_turnsIn
  have qb := impl_quarter_bounds a0.lo
  refine Run.c (by kernel_rfl) (by kernel_rfl) (ok_impl_QuarterOf a0.lo) rfl ?_
  simp only [bindP]
  generalize F_impl_QuarterOf a0.lo = r1 at *
  have e1 : (w64 (r1.val - 1)).val = r1.val - 1 := by rw [w64_val]; omega
  exact Run.l (by kernel_rfl) (by kernel_rfl) (by kernel_rfl) (by kernel_rfl) (ok_impl_turnsIn_L0 a0 _ (w64 (r1.val - 1)) [] (.slice none 0 0) [] (.inl ⟨rfl, rfl⟩) (by omega) (by omega) (by simp only [List.length_nil]; omega))

theorem ok_impl_circleHull_L0 : ∀ (fu : Nat) (cp_r7 : Nat) (pd_r7 : List Value) (a1 : I64) (r7 : List I64) (a0 : Iv) (x_24 : I64) (y_2 : Iv) (q0 : 0 ≤ x_24.val) (q1 : ((r7.length : Nat) : Int) ≤ 4000) (hm : (((r7.length : Nat) : Int) - x_24.val).toNat < fu) (t : Array Value) (ht : maskA t [0, 2, 3, 6, 7, 8, 9, 10, 11, 12, 13, 14, 15, 16, 17, 18, 19, 20, 21, 25, 26, 27, 28, 29, 30, 31, 32, 33, 34, 35, 36, 37, 38, 39, 40, 41, 42, 43] = #[undef, .int .i64 a1.val, undef, undef, .pointer (some ⟨1, 0, none⟩), .pointer (some ⟨2, 0, none⟩), undef, undef, undef, undef, undef, undef, undef, undef, undef, undef, undef, undef, undef, undef, undef, undef, .slice (some ⟨3, 0, some 0⟩) r7.length cp_r7, .int .i64 (((r7.length : Nat) : Int)), .int .i64 x_24.val, undef, undef, undef, undef, undef, undef, undef, undef, undef, undef, undef, undef, undef, undef, undef, undef, undef, undef, undef]), Cfg Tryz.prog 137 (loopAt Tryz.f137 0) t [(#[.int .i64 a0.lo.val, .int .i64 a0.hi.val], 25), (#[.int .i64 0, .int .i64 0], 25), (#[.int .i64 y_2.lo.val, .int .i64 y_2.hi.val], 25), (rowOf r7 pd_r7, 2)] (RvH [] (vIv (F_impl_circleHull_L0 fu a1 r7 a0 x_24 y_2))) := by
  intro fu
  induction fu with
  | zero => intro cp_r7 pd_r7 a1 r7 a0 x_24 y_2 q0 q1 hm; exact absurd hm (Nat.not_lt_zero _)
  | succ fu ih =>
    intro cp_r7 pd_r7 a1 r7 a0 x_24 y_2 q0 q1 hm t ht
    refine Cfg.round E_ok mixed Tryz.func137 ht fun g => ?_
    unfold F_impl_circleHull_L0
    refine Run.y (gv := vIv) (fun h8 => ?_) (fun h8 => ?_)
    · refine Run.k (c := (decide (0 ≤ x_24.val ∧ x_24.val < ((r7.length : Nat) : Int)))) (by kernel_rfl) (by simp only [w64_val, wu64_val, c64_val, cu64_val, decide_eq_true_eq, decide_eq_false_iff_not, cond_true, cond_false] at *; omega) ?_
      refine Run.ld (by kernel_rfl) (listAt_ok (L := r7) (pad := pd_r7) (i := x_24) (by simp only [w64_val, wu64_val, c64_val, cu64_val, decide_eq_true_eq, decide_eq_false_iff_not, cond_true, cond_false] at *; omega)) ?_
      refine Run.y (gv := vIv) (fun h9 => ?_) (fun h9 => ?_)
      · refine Run.q (e := vIv) (gv := vIv) (ok_impl_Integer _) fun r10 hr10 => ?_
        refine Run.q (e := vIv) (gv := vIv) (ok_impl_HullI _ _) fun r11 hr11 => ?_
        exact Run.l (by kernel_rfl) (by kernel_rfl) (by kernel_rfl) (by kernel_rfl) (ih cp_r7 pd_r7 a1 r7 a0 (w64 (x_24.val + 1)) r11 (by first | omega | (simp only [w64_val, wu64_val, c64_val, cu64_val, decide_eq_true_eq, decide_eq_false_iff_not, cond_true, cond_false] at *; omega)) (by first | omega | (simp only [w64_val, wu64_val, c64_val, cu64_val, decide_eq_true_eq, decide_eq_false_iff_not, cond_true, cond_false] at *; omega)) (by first | omega | (simp only [w64_val, wu64_val, c64_val, cu64_val, decide_eq_true_eq, decide_eq_false_iff_not, cond_true, cond_false] at *; omega)))
      · refine Run.y (gv := vIv) (fun h12 => ?_) (fun h12 => ?_)
        · refine Run.q (e := vIv) (gv := vIv) (ok_impl_Integer _) fun r13 hr13 => ?_
          refine Run.q (e := vIv) (gv := vIv) (ok_impl_HullI _ _) fun r14 hr14 => ?_
          exact Run.l (by kernel_rfl) (by kernel_rfl) (by kernel_rfl) (by kernel_rfl) (ih cp_r7 pd_r7 a1 r7 a0 (w64 (x_24.val + 1)) r14 (by first | omega | (simp only [w64_val, wu64_val, c64_val, cu64_val, decide_eq_true_eq, decide_eq_false_iff_not, cond_true, cond_false] at *; omega)) (by first | omega | (simp only [w64_val, wu64_val, c64_val, cu64_val, decide_eq_true_eq, decide_eq_false_iff_not, cond_true, cond_false] at *; omega)) (by first | omega | (simp only [w64_val, wu64_val, c64_val, cu64_val, decide_eq_true_eq, decide_eq_false_iff_not, cond_true, cond_false] at *; omega)))
        · exact Run.l (by kernel_rfl) (by kernel_rfl) (by kernel_rfl) (by kernel_rfl) (ih cp_r7 pd_r7 a1 r7 a0 (w64 (x_24.val + 1)) y_2 (by first | omega | (simp only [w64_val, wu64_val, c64_val, cu64_val, decide_eq_true_eq, decide_eq_false_iff_not, cond_true, cond_false] at *; omega)) (by first | omega | (simp only [w64_val, wu64_val, c64_val, cu64_val, decide_eq_true_eq, decide_eq_false_iff_not, cond_true, cond_false] at *; omega)) (by first | omega | (simp only [w64_val, wu64_val, c64_val, cu64_val, decide_eq_true_eq, decide_eq_false_iff_not, cond_true, cond_false] at *; omega)))
    · exact Run.x 0

theorem ok_impl_circleHull (a0 : Iv) (a1 : I64) : Fun Tryz.prog 137 [] #[vIv a0, vI a1] (vIv (F_impl_circleHull a0 a1)) [] := by
  refine Fun.ofH 400 E_ok mixed Tryz.func137 (by kernel_rfl) (by kernel_rfl) ?_
  unfold F_impl_circleHull
  refine Run.q (e := vB) (gv := vIv) (ok_impl_areAngles _) fun r1 hr1 => ?_
  refine Run.y (gv := vIv) (fun h2 => ?_) (fun h2 => ?_)
  · refine Run.q (e := vIv) (gv := vIv) (ok_impl_ring) fun r3 hr3 => ?_
    exact Run.x 0
  · refine Run.q (e := vIv) (gv := vIv) (ok_impl_circleValue _ _) fun r4 hr4 => ?_
    refine Run.q (e := vIv) (gv := vIv) (ok_impl_circleValue _ _) fun r5 hr5 => ?_
    refine Run.q (e := vIv) (gv := vIv) (ok_impl_HullI _ _) fun r6 hr6 => ?_
    refine Run.bl (gv := vIv) (by kernel_rfl) (by kernel_rfl) (ok_impl_turnsIn _) (by kernel_rfl) (fun r7 hr7 nr7 => ?_) (fun r7 hr7 cp_r7 pd_r7 => ?_)
    · subst nr7
      have e0 : F_impl_circleHull_L0 (((([] : List I64).length : Nat) : Int).toNat + 1) a1 ([] : List I64) a0 (c64 0) r6 = r6 := by rw [F_impl_circleHull_L0]; exact cond_false _ _
      show Run _ _ (RvH [] (vIv (F_impl_circleHull_L0 (((([] : List I64).length : Nat) : Int).toNat + 1) a1 ([] : List I64) a0 (c64 0) r6))) _
      rw [e0]
      refine Run.u 400 E_ok mixed Tryz.func137 ?_
      refine Run.z [false] ?_
      exact Run.x 0
    · have hl_r7 : ((r7.length : Nat) : Int) ≤ 4000 := by rw [hr7]; exact Int.ofNat_le.2 (len_impl_turnsIn _)
      exact Run.l (by kernel_rfl) (by kernel_rfl) (by kernel_rfl) (by kernel_rfl) (ok_impl_circleHull_L0 (((r7.length : Nat) : Int).toNat + 1) cp_r7 pd_r7 a1 r7 a0 (c64 0) r6 (by first | omega | (simp only [w64_val, wu64_val, c64_val, cu64_val, decide_eq_true_eq, decide_eq_false_iff_not, cond_true, cond_false] at *; omega)) (by first | omega | (simp only [w64_val, wu64_val, c64_val, cu64_val, decide_eq_true_eq, decide_eq_false_iff_not, cond_true, cond_false] at *; omega)) (by first | omega | (simp only [w64_val, wu64_val, c64_val, cu64_val, decide_eq_true_eq, decide_eq_false_iff_not, cond_true, cond_false] at *; omega)))

theorem ok_impl_SinI (a0 : Iv) : Fun Tryz.prog 54 [] #[vIv a0] (vIv (F_impl_SinI a0)) [] := by
  refine Fun.ofH 400 E_ok mixed Tryz.func54 (by kernel_rfl) (by kernel_rfl) ?_
  unfold F_impl_SinI
  refine Run.q (e := vIv) (gv := vIv) (ok_impl_circleHull _ _) fun r1 _ => ?_
  exact Run.x 0

theorem ok_impl_HalfI (a0 : Iv) : Fun Tryz.prog 141 [] #[vIv a0] (vIv (F_impl_HalfI a0)) [] := by
  refine Fun.ofH 400 E_ok mixed Tryz.func141 (by kernel_rfl) (by kernel_rfl) ?_
  unfold F_impl_HalfI
  refine Run.q (e := vB) (gv := vIv) (ok_impl_IsWhole _) fun r1 _ => ?_
  refine Run.y (gv := vIv) (fun _ => ?_) (fun _ => ?_)
  · refine Run.q (e := vIv) (gv := vIv) (ok_impl_Whole) fun r2 _ => ?_
    exact Run.x 0
  · refine Run.z [true, true] ?_
    exact Run.x 0

theorem ok_impl_CosI (a0 : Iv) : Fun Tryz.prog 61 [] #[vIv a0] (vIv (F_impl_CosI a0)) [] := by
  refine Fun.ofH 400 E_ok mixed Tryz.func61 (by kernel_rfl) (by kernel_rfl) ?_
  unfold F_impl_CosI
  refine Run.q (e := vIv) (gv := vIv) (ok_impl_circleHull _ _) fun r1 _ => ?_
  exact Run.x 0

theorem ok_impl_twosOf_L1 : ∀ (fu : Nat) (a0 : I64) (x_e : I64) (q0 : 1 ≤ a0.val) (q1 : a0.val ≤ 1152921504606846976) (q2 : -1000 ≤ x_e.val) (q3 : x_e.val ≤ 0 → a0.val * 2 ^ (0 - x_e.val).toNat < 6442450944) (hm : (64 + x_e.val).toNat < fu) (t : Array Value) (ht : maskA t [1, 4, 5, 6, 7, 8, 9, 10, 11, 12, 13, 14, 15, 16, 17, 18, 19, 20, 21] = #[.int .i64 a0.val, undef, .int .i64 0, .int .i64 x_e.val, undef, undef, undef, undef, undef, undef, undef, undef, undef, undef, undef, undef, undef, undef, undef, undef, undef, undef]), Cfg Tryz.prog 269 (loopAt Tryz.f269 1) t [] (RvH [] (vI (F_impl_twosOf_L1 fu a0 x_e))) := by
  intro fu
  induction fu with
  | zero => intro a0 x_e q0 q1 q2 q3 hm; exact absurd hm (Nat.not_lt_zero _)
  | succ fu ih =>
    intro a0 x_e q0 q1 q2 q3 hm t ht
    refine Cfg.round E_ok mixed Tryz.func269 ht fun g => ?_
    unfold F_impl_twosOf_L1
    refine Run.y (gv := vI) (fun h2 => ?_) (fun h2 => ?_)
    · refine Run.z [true, true, true] ?_
      refine Run.k (c := (decide (0 ≤ (w64 (0 - x_e.val)).val))) (by kernel_rfl) (by first | exact decide_eq_true (by omega) | (simp only [w64_val, decide_eq_true_eq] at *; omega)) ?_
      refine Run.z [true, true] ?_
      refine Run.y (gv := vI) (fun h3 => ?_) (fun h3 => ?_)
      · exact Run.l (by kernel_rfl) (by kernel_rfl) (by kernel_rfl) (by kernel_rfl) (ih a0 (w64 (x_e.val - 1)) (by first | exact q0 | exact q1 | exact Nat.lt_succ_self _ | (have z := two_less a0 x_e q0 q3 h2 h3; first | exact z.2.2 | (simp only [w64_val]; omega))) (by first | exact q0 | exact q1 | exact Nat.lt_succ_self _ | (have z := two_less a0 x_e q0 q3 h2 h3; first | exact z.2.2 | (simp only [w64_val]; omega))) (by first | exact q0 | exact q1 | exact Nat.lt_succ_self _ | (have z := two_less a0 x_e q0 q3 h2 h3; first | exact z.2.2 | (simp only [w64_val]; omega))) (by first | exact q0 | exact q1 | exact Nat.lt_succ_self _ | (have z := two_less a0 x_e q0 q3 h2 h3; first | exact z.2.2 | (simp only [w64_val]; omega))) (by first | exact q0 | exact q1 | exact Nat.lt_succ_self _ | (have z := two_less a0 x_e q0 q3 h2 h3; first | exact z.2.2 | (simp only [w64_val]; omega))))
      · exact Run.x 0
    · refine Run.z [false, false, false, false, false, false] ?_
      exact Run.x 0

theorem ok_impl_twosOf_L0 : ∀ (fu : Nat) (a0 : I64) (x_e : I64) (q0 : 1 ≤ a0.val) (q1 : a0.val ≤ 1152921504606846976) (q2 : 0 ≤ x_e.val ∧ x_e.val ≤ 40) (hm : (64 - x_e.val).toNat < fu) (t : Array Value) (ht : maskA t [1, 4, 5, 6, 7, 8, 9, 10, 11, 12, 13, 14, 15, 16, 17, 18, 19, 20, 21] = #[.int .i64 a0.val, undef, .int .i64 0, .int .i64 x_e.val, undef, undef, undef, undef, undef, undef, undef, undef, undef, undef, undef, undef, undef, undef, undef, undef, undef, undef]), Cfg Tryz.prog 269 (loopAt Tryz.f269 0) t [] (RvH [] (vI (F_impl_twosOf_L0 fu a0 x_e))) := by
  intro fu
  induction fu with
  | zero => intro a0 x_e q0 q1 q2 hm; exact absurd hm (Nat.not_lt_zero _)
  | succ fu ih =>
    intro a0 x_e q0 q1 q2 hm t ht
    refine Cfg.round E_ok mixed Tryz.func269 ht fun g => ?_
    unfold F_impl_twosOf_L0
    refine Run.k (c := (decide (0 ≤ x_e.val))) (by kernel_rfl) (by first | exact decide_eq_true (by omega) | (simp only [w64_val, decide_eq_true_eq] at *; omega)) ?_
    refine Run.y (gv := vI) (fun h1 => ?_) (fun h1 => ?_)
    · exact Run.l (by kernel_rfl) (by kernel_rfl) (by kernel_rfl) (by kernel_rfl) (ih a0 (w64 (x_e.val + 1)) (by first | exact q0 | exact q1 | exact Nat.lt_succ_self _ | exact two_exit a0 x_e q2.1 h1 | (have z := shr_big a0 x_e q1 q2.1 h1; simp only [w64_val]; omega)) (by first | exact q0 | exact q1 | exact Nat.lt_succ_self _ | exact two_exit a0 x_e q2.1 h1 | (have z := shr_big a0 x_e q1 q2.1 h1; simp only [w64_val]; omega)) (by first | exact q0 | exact q1 | exact Nat.lt_succ_self _ | exact two_exit a0 x_e q2.1 h1 | (have z := shr_big a0 x_e q1 q2.1 h1; simp only [w64_val]; omega)) (by first | exact q0 | exact q1 | exact Nat.lt_succ_self _ | exact two_exit a0 x_e q2.1 h1 | (have z := shr_big a0 x_e q1 q2.1 h1; simp only [w64_val]; omega)))
    · exact Run.l (by kernel_rfl) (by kernel_rfl) (by kernel_rfl) (by kernel_rfl) (ok_impl_twosOf_L1 ((64 + x_e.val).toNat + 1) a0 x_e (by first | exact q0 | exact q1 | exact Nat.lt_succ_self _ | exact two_exit a0 x_e q2.1 h1 | omega) (by first | exact q0 | exact q1 | exact Nat.lt_succ_self _ | exact two_exit a0 x_e q2.1 h1 | omega) (by first | exact q0 | exact q1 | exact Nat.lt_succ_self _ | exact two_exit a0 x_e q2.1 h1 | omega) (by first | exact q0 | exact q1 | exact Nat.lt_succ_self _ | exact two_exit a0 x_e q2.1 h1 | omega) (by first | exact q0 | exact q1 | exact Nat.lt_succ_self _ | exact two_exit a0 x_e q2.1 h1 | omega))

theorem ok_impl_twosOf (a0 : I64) (p0 : 1 ≤ a0.val) (p1 : a0.val ≤ 1152921504606846976) : Fun Tryz.prog 269 [] #[vI a0] (vI (F_impl_twosOf a0)) [] := by
  refine Fun.ofH 400 E_ok mixed Tryz.func269 (by kernel_rfl) (by kernel_rfl) ?_
  unfold F_impl_twosOf
  exact Run.l (by kernel_rfl) (by kernel_rfl) (by kernel_rfl) (by kernel_rfl) (ok_impl_twosOf_L0 ((64 - (c64 0).val).toNat + 1) a0 (c64 0) (by first | exact p0 | exact p1 | exact ⟨by decide, by decide⟩ | exact Nat.lt_succ_self _) (by first | exact p0 | exact p1 | exact ⟨by decide, by decide⟩ | exact Nat.lt_succ_self _) (by first | exact p0 | exact p1 | exact ⟨by decide, by decide⟩ | exact Nat.lt_succ_self _) (by first | exact p0 | exact p1 | exact ⟨by decide, by decide⟩ | exact Nat.lt_succ_self _))

theorem ok_impl_FixFloor (a0 : I64) (a1 : I64) : Fun Tryz.prog 290 [] #[vI a0, vI a1] (vT_I_B (F_impl_FixFloor a0 a1)) [] := by
  refine Fun.ofH 400 E_ok mixed Tryz.func290 (by kernel_rfl) (by kernel_rfl) ?_
  unfold F_impl_FixFloor
  refine Run.q (e := vT_I_B) (gv := vT_I_B) (ok_impl_MulDivFloor _ _ _) fun r1 _ => ?_
  refine Run.q (e := vT_I_B) (gv := vT_I_B) (ok_impl_fixed _ _) fun r2 _ => ?_
  exact Run.x 0

theorem ok_impl_mulDivCeil (a0 : I64) (a1 : I64) (a2 : I64) : Fun Tryz.prog 298 [] #[vI a0, vI a1, vI a2] (vT_I_B (F_impl_mulDivCeil a0 a1 a2)) [] := by
  refine Fun.ofH 400 E_ok mixed Tryz.func298 (by kernel_rfl) (by kernel_rfl) ?_
  unfold F_impl_mulDivCeil
  refine Run.q (e := vWd) (gv := vT_I_B) (ok_impl_WideMul _ _) fun r1 _ => ?_
  refine Run.q (e := vT_Wd_I_B) (gv := vT_I_B) (ok_impl_WideDiv _ _) fun r2 _ => ?_
  refine Run.y (gv := vT_I_B) (fun _ => ?_) (fun _ => ?_)
  · exact Run.x 0
  · refine Run.q (e := vT_I_B) (gv := vT_I_B) (ok_impl_WideInt _) fun r3 _ => ?_
    refine Run.y (gv := vT_I_B) (fun _ => ?_) (fun _ => ?_)
    · refine Run.z [true, true, true, true, true] ?_
      exact Run.x 0
    · refine Run.z [false, false] ?_
      refine Run.y (gv := vT_I_B) (fun _ => ?_) (fun _ => ?_)
      · refine Run.z [true, false, true, false] ?_
        refine Run.y (gv := vT_I_B) (fun _ => ?_) (fun _ => ?_)
        · exact Run.x 0
        · refine Run.y (gv := vT_I_B) (fun _ => ?_) (fun _ => ?_)
          · exact Run.x 0
          · exact Run.x 0
      · refine Run.z [false, false, false, false, false] ?_
        refine Run.y (gv := vT_I_B) (fun _ => ?_) (fun _ => ?_)
        · exact Run.x 0
        · exact Run.x 0

theorem ok_impl_FixCeil (a0 : I64) (a1 : I64) : Fun Tryz.prog 291 [] #[vI a0, vI a1] (vT_I_B (F_impl_FixCeil a0 a1)) [] := by
  refine Fun.ofH 400 E_ok mixed Tryz.func291 (by kernel_rfl) (by kernel_rfl) ?_
  unfold F_impl_FixCeil
  refine Run.q (e := vT_I_B) (gv := vT_I_B) (ok_impl_mulDivCeil _ _ _) fun r1 _ => ?_
  refine Run.q (e := vT_I_B) (gv := vT_I_B) (ok_impl_fixed _ _) fun r2 _ => ?_
  exact Run.x 0

theorem ok_impl_Quotient (a0 : I64) (a1 : I64) : Fun Tryz.prog 270 [] #[vI a0, vI a1] (vIv (F_impl_Quotient a0 a1)) [] := by
  refine Fun.ofH 400 E_ok mixed Tryz.func270 (by kernel_rfl) (by kernel_rfl) ?_
  unfold F_impl_Quotient
  refine Run.y (gv := vIv) (fun _ => ?_) (fun _ => ?_)
  · refine Run.y (gv := vIv) (fun _ => ?_) (fun _ => ?_)
    · refine Run.z [true, true, true] ?_
      refine Run.q (e := vIv) (gv := vIv) (ok_impl_Whole) fun r1 _ => ?_
      exact Run.x 0
    · refine Run.z [false, false] ?_
      refine Run.y (gv := vIv) (fun _ => ?_) (fun _ => ?_)
      · refine Run.q (e := vIv) (gv := vIv) (ok_impl_Whole) fun r2 _ => ?_
        exact Run.x 0
      · refine Run.q (e := vT_I_B) (gv := vIv) (ok_impl_FixFloor _ _) fun r3 _ => ?_
        refine Run.q (e := vT_I_B) (gv := vIv) (ok_impl_FixCeil _ _) fun r4 _ => ?_
        refine Run.y (gv := vIv) (fun _ => ?_) (fun _ => ?_)
        · refine Run.z [true] ?_
          refine Run.q (e := vIv) (gv := vIv) (ok_impl_bounded _ _ _) fun r5 _ => ?_
          exact Run.x 0
        · refine Run.z [false] ?_
          refine Run.q (e := vIv) (gv := vIv) (ok_impl_bounded _ _ _) fun r6 _ => ?_
          exact Run.x 0
  · refine Run.q (e := vT_I_B) (gv := vIv) (ok_impl_FixFloor _ _) fun r7 _ => ?_
    refine Run.q (e := vT_I_B) (gv := vIv) (ok_impl_FixCeil _ _) fun r8 _ => ?_
    refine Run.y (gv := vIv) (fun _ => ?_) (fun _ => ?_)
    · refine Run.z [true] ?_
      refine Run.q (e := vIv) (gv := vIv) (ok_impl_bounded _ _ _) fun r9 _ => ?_
      exact Run.x 0
    · refine Run.z [false] ?_
      refine Run.q (e := vIv) (gv := vIv) (ok_impl_bounded _ _ _) fun r10 _ => ?_
      exact Run.x 0

theorem ok_impl_LogTwoI_r : ∀ (fu : Nat) (a0 : I64) (hm : min (0 - a0.val).toNat 1 < fu), Fun Tryz.prog 212 [] #[vI a0] (vIv (F_impl_LogTwoI_r fu a0)) [] := by
  intro fu
  induction fu with
  | zero => intro a0 hm; exact absurd hm (Nat.not_lt_zero _)
  | succ fu ih =>
    intro a0 hm
    refine Fun.ofH 400 E_ok mixed Tryz.func212 (by kernel_rfl) (by kernel_rfl) ?_
    unfold F_impl_LogTwoI_r
    unfold F_impl_LogTwoI_b
    refine Run.q (e := vB) (gv := vIv) (ok_impl_within _ _ _) fun r1 hr1 => ?_
    refine Run.y (gv := vIv) (fun h2 => ?_) (fun h2 => ?_)
    · refine Run.q (e := vIv) (gv := vIv) (ok_impl_Whole) fun r3 hr3 => ?_
      exact Run.x 0
    · refine Run.y (gv := vIv) (fun h4 => ?_) (fun h4 => ?_)
      · refine Run.q (e := vIv) (gv := vIv) (ih (w64 (0 - a0.val)) (by rw [hr1] at h2; simp [F_impl_within, c64_val] at h2; simp only [w64_val, decide_eq_true_eq, decide_eq_false_iff_not] at *; omega)) fun r5 hr5 => ?_
        refine Run.q (e := vIv) (gv := vIv) (ok_impl_NegI _) fun r6 hr6 => ?_
        exact Run.x 0
      · refine Run.q (e := vT_I_B) (gv := vIv) (ok_impl_MulFloor _ _ _) fun r7 hr7 => ?_
        refine Run.q (e := vT_I_B) (gv := vIv) (ok_impl_MulFloor _ _ _) fun r8 hr8 => ?_
        exact Run.x 0
theorem ok_impl_LogTwoI (a0 : I64) : Fun Tryz.prog 212 [] #[vI a0] (vIv (F_impl_LogTwoI a0)) [] := ok_impl_LogTwoI_r 2 a0 (by omega)

theorem ok_impl_widened (a0 : Iv) (a1 : I64) : Fun Tryz.prog 214 [] #[vIv a0, vI a1] (vIv (F_impl_widened a0 a1)) [] := by
  refine Fun.ofH 400 E_ok mixed Tryz.func214 (by kernel_rfl) (by kernel_rfl) ?_
  unfold F_impl_widened
  refine Run.q (e := vB) (gv := vIv) (ok_impl_ValidInterval _) fun r1 _ => ?_
  refine Run.q (e := vIv) (gv := vIv) (ok_impl_bounded _ _ _) fun r2 _ => ?_
  exact Run.x 0

theorem ok_impl_LogAt (a0 : I64) : Fun Tryz.prog 223 [] #[vI a0] (vIv (F_impl_LogAt a0)) [] := by
  refine Fun.ofH 400 E_ok mixed Tryz.func223 (by kernel_rfl) (by kernel_rfl) ?_
  unfold F_impl_LogAt
  refine Run.q (e := vB) (gv := vIv) (ok_impl_ValidFix _) fun r1 hr1 => ?_
  refine Run.y (gv := vIv) (fun h2 => ?_) (fun h2 => ?_)
  · refine Run.z [true, true, true] ?_
    refine Run.q (e := vIv) (gv := vIv) (ok_impl_Whole) fun r3 hr3 => ?_
    exact Run.x 0
  · refine Run.z [false, false] ?_
    refine Run.y (gv := vIv) (fun h4 => ?_) (fun h4 => ?_)
    · refine Run.q (e := vIv) (gv := vIv) (ok_impl_Whole) fun r5 hr5 => ?_
      exact Run.x 0
    · refine Run.q (e := vI) (gv := vIv) (ok_impl_twosOf _ (by first | (have z := validfix_p hr1 h2; simp only [decide_eq_false_iff_not] at h4; omega) | (simp only [decide_eq_true_eq] at h8 ⊢; omega) | (have z := twosOf_b a0; rw [← hr6] at z; simp only [decide_eq_false_iff_not] at h8; simp only [w64_val, decide_eq_true_eq]; omega)) (by first | (have z := validfix_p hr1 h2; simp only [decide_eq_false_iff_not] at h4; omega) | (simp only [decide_eq_true_eq] at h8 ⊢; omega) | (have z := twosOf_b a0; rw [← hr6] at z; simp only [decide_eq_false_iff_not] at h8; simp only [w64_val, decide_eq_true_eq]; omega))) fun r6 hr6 => ?_
      refine Run.q (e := vIv) (gv := vIv) (ok_impl_at _) fun r7 hr7 => ?_
      refine Run.y (gv := vIv) (fun h8 => ?_) (fun h8 => ?_)
      · refine Run.k (c := (decide (0 ≤ r6.val))) (by kernel_rfl) (by first | (have z := validfix_p hr1 h2; simp only [decide_eq_false_iff_not] at h4; omega) | (simp only [decide_eq_true_eq] at h8 ⊢; omega) | (have z := twosOf_b a0; rw [← hr6] at z; simp only [decide_eq_false_iff_not] at h8; simp only [w64_val, decide_eq_true_eq]; omega)) ?_
        refine Run.k (c := (decide (0 ≤ r6.val))) (by kernel_rfl) (by first | (have z := validfix_p hr1 h2; simp only [decide_eq_false_iff_not] at h4; omega) | (simp only [decide_eq_true_eq] at h8 ⊢; omega) | (have z := twosOf_b a0; rw [← hr6] at z; simp only [decide_eq_false_iff_not] at h8; simp only [w64_val, decide_eq_true_eq]; omega)) ?_
        refine Run.q (e := vIv) (gv := vIv) (ok_impl_Integer _) fun r9 hr9 => ?_
        refine Run.q (e := vIv) (gv := vIv) (ok_impl_SubI _ _) fun r10 hr10 => ?_
        refine Run.q (e := vIv) (gv := vIv) (ok_impl_Integer _) fun r11 hr11 => ?_
        refine Run.q (e := vIv) (gv := vIv) (ok_impl_AddI _ _) fun r12 hr12 => ?_
        refine Run.q (e := vIv) (gv := vIv) (ok_impl_DivI _ _) fun r13 hr13 => ?_
        refine Run.q (e := vIv) (gv := vIv) (ok_impl_SqrI _) fun r14 hr14 => ?_
        refine Run.q (e := vIv) (gv := vIv) (ok_impl_Quotient _ _) fun r15 hr15 => ?_
        refine Run.u 400 E_ok mixed Tryz.func223 ?_
        refine Run.z [true] ?_
        refine Run.q (e := vIv) (gv := vIv) (ok_impl_Quotient _ _) fun r16 hr16 => ?_
        refine Run.q (e := vIv) (gv := vIv) (ok_impl_MulI _ _) fun r17 hr17 => ?_
        refine Run.q (e := vIv) (gv := vIv) (ok_impl_AddI _ _) fun r18 hr18 => ?_
        refine Run.u 400 E_ok mixed Tryz.func223 ?_
        refine Run.z [true] ?_
        refine Run.q (e := vIv) (gv := vIv) (ok_impl_Quotient _ _) fun r19 hr19 => ?_
        refine Run.q (e := vIv) (gv := vIv) (ok_impl_MulI _ _) fun r20 hr20 => ?_
        refine Run.q (e := vIv) (gv := vIv) (ok_impl_AddI _ _) fun r21 hr21 => ?_
        refine Run.u 400 E_ok mixed Tryz.func223 ?_
        refine Run.z [true] ?_
        refine Run.q (e := vIv) (gv := vIv) (ok_impl_Quotient _ _) fun r22 hr22 => ?_
        refine Run.q (e := vIv) (gv := vIv) (ok_impl_MulI _ _) fun r23 hr23 => ?_
        refine Run.q (e := vIv) (gv := vIv) (ok_impl_AddI _ _) fun r24 hr24 => ?_
        refine Run.u 400 E_ok mixed Tryz.func223 ?_
        refine Run.z [true] ?_
        refine Run.q (e := vIv) (gv := vIv) (ok_impl_Quotient _ _) fun r25 hr25 => ?_
        refine Run.q (e := vIv) (gv := vIv) (ok_impl_MulI _ _) fun r26 hr26 => ?_
        refine Run.q (e := vIv) (gv := vIv) (ok_impl_AddI _ _) fun r27 hr27 => ?_
        refine Run.u 400 E_ok mixed Tryz.func223 ?_
        refine Run.z [true] ?_
        refine Run.q (e := vIv) (gv := vIv) (ok_impl_Quotient _ _) fun r28 hr28 => ?_
        refine Run.q (e := vIv) (gv := vIv) (ok_impl_MulI _ _) fun r29 hr29 => ?_
        refine Run.q (e := vIv) (gv := vIv) (ok_impl_AddI _ _) fun r30 hr30 => ?_
        refine Run.u 400 E_ok mixed Tryz.func223 ?_
        refine Run.z [false] ?_
        refine Run.q (e := vIv) (gv := vIv) (ok_impl_LogTwoI _) fun r31 hr31 => ?_
        refine Run.q (e := vIv) (gv := vIv) (ok_impl_Integer _) fun r32 hr32 => ?_
        refine Run.q (e := vIv) (gv := vIv) (ok_impl_MulI _ _) fun r33 hr33 => ?_
        refine Run.q (e := vIv) (gv := vIv) (ok_impl_MulI _ _) fun r34 hr34 => ?_
        refine Run.q (e := vIv) (gv := vIv) (ok_impl_widened _ _) fun r35 hr35 => ?_
        refine Run.q (e := vIv) (gv := vIv) (ok_impl_AddI _ _) fun r36 hr36 => ?_
        exact Run.x 0
      · refine Run.k (c := (decide (0 ≤ (w64 (0 - r6.val)).val))) (by kernel_rfl) (by first | (have z := validfix_p hr1 h2; simp only [decide_eq_false_iff_not] at h4; omega) | (simp only [decide_eq_true_eq] at h8 ⊢; omega) | (have z := twosOf_b a0; rw [← hr6] at z; simp only [decide_eq_false_iff_not] at h8; simp only [w64_val, decide_eq_true_eq]; omega)) ?_
        refine Run.q (e := vIv) (gv := vIv) (ok_impl_at _) fun r37 hr37 => ?_
        refine Run.q (e := vIv) (gv := vIv) (ok_impl_Integer _) fun r38 hr38 => ?_
        refine Run.q (e := vIv) (gv := vIv) (ok_impl_SubI _ _) fun r39 hr39 => ?_
        refine Run.q (e := vIv) (gv := vIv) (ok_impl_Integer _) fun r40 hr40 => ?_
        refine Run.q (e := vIv) (gv := vIv) (ok_impl_AddI _ _) fun r41 hr41 => ?_
        refine Run.q (e := vIv) (gv := vIv) (ok_impl_DivI _ _) fun r42 hr42 => ?_
        refine Run.q (e := vIv) (gv := vIv) (ok_impl_SqrI _) fun r43 hr43 => ?_
        refine Run.q (e := vIv) (gv := vIv) (ok_impl_Quotient _ _) fun r44 hr44 => ?_
        refine Run.u 400 E_ok mixed Tryz.func223 ?_
        refine Run.z [true] ?_
        refine Run.q (e := vIv) (gv := vIv) (ok_impl_Quotient _ _) fun r45 hr45 => ?_
        refine Run.q (e := vIv) (gv := vIv) (ok_impl_MulI _ _) fun r46 hr46 => ?_
        refine Run.q (e := vIv) (gv := vIv) (ok_impl_AddI _ _) fun r47 hr47 => ?_
        refine Run.u 400 E_ok mixed Tryz.func223 ?_
        refine Run.z [true] ?_
        refine Run.q (e := vIv) (gv := vIv) (ok_impl_Quotient _ _) fun r48 hr48 => ?_
        refine Run.q (e := vIv) (gv := vIv) (ok_impl_MulI _ _) fun r49 hr49 => ?_
        refine Run.q (e := vIv) (gv := vIv) (ok_impl_AddI _ _) fun r50 hr50 => ?_
        refine Run.u 400 E_ok mixed Tryz.func223 ?_
        refine Run.z [true] ?_
        refine Run.q (e := vIv) (gv := vIv) (ok_impl_Quotient _ _) fun r51 hr51 => ?_
        refine Run.q (e := vIv) (gv := vIv) (ok_impl_MulI _ _) fun r52 hr52 => ?_
        refine Run.q (e := vIv) (gv := vIv) (ok_impl_AddI _ _) fun r53 hr53 => ?_
        refine Run.u 400 E_ok mixed Tryz.func223 ?_
        refine Run.z [true] ?_
        refine Run.q (e := vIv) (gv := vIv) (ok_impl_Quotient _ _) fun r54 hr54 => ?_
        refine Run.q (e := vIv) (gv := vIv) (ok_impl_MulI _ _) fun r55 hr55 => ?_
        refine Run.q (e := vIv) (gv := vIv) (ok_impl_AddI _ _) fun r56 hr56 => ?_
        refine Run.u 400 E_ok mixed Tryz.func223 ?_
        refine Run.z [true] ?_
        refine Run.q (e := vIv) (gv := vIv) (ok_impl_Quotient _ _) fun r57 hr57 => ?_
        refine Run.q (e := vIv) (gv := vIv) (ok_impl_MulI _ _) fun r58 hr58 => ?_
        refine Run.q (e := vIv) (gv := vIv) (ok_impl_AddI _ _) fun r59 hr59 => ?_
        refine Run.u 400 E_ok mixed Tryz.func223 ?_
        refine Run.z [false] ?_
        refine Run.q (e := vIv) (gv := vIv) (ok_impl_LogTwoI _) fun r60 hr60 => ?_
        refine Run.q (e := vIv) (gv := vIv) (ok_impl_Integer _) fun r61 hr61 => ?_
        refine Run.q (e := vIv) (gv := vIv) (ok_impl_MulI _ _) fun r62 hr62 => ?_
        refine Run.q (e := vIv) (gv := vIv) (ok_impl_MulI _ _) fun r63 hr63 => ?_
        refine Run.q (e := vIv) (gv := vIv) (ok_impl_widened _ _) fun r64 hr64 => ?_
        refine Run.q (e := vIv) (gv := vIv) (ok_impl_AddI _ _) fun r65 hr65 => ?_
        exact Run.x 0

theorem ok_impl_monotonic__impl_LogAt (a0 : Iv) : Fun Tryz.prog 138 [] #[vIv a0, .func (.func 223) #[] #[]] (vIv (F_impl_monotonic__impl_LogAt a0)) [] := by
  refine Fun.ofH 400 E_ok mixed Tryz.func138 (by kernel_rfl) (by kernel_rfl) ?_
  unfold F_impl_monotonic__impl_LogAt
  refine Run.q (e := vB) (gv := vIv) (ok_impl_IsWhole _) fun r1 _ => ?_
  refine Run.y (gv := vIv) (fun _ => ?_) (fun _ => ?_)
  · refine Run.q (e := vIv) (gv := vIv) (ok_impl_Whole) fun r2 _ => ?_
    exact Run.x 0
  · refine Run.q (e := vIv) (gv := vIv) (ok_impl_LogAt _) fun r3 _ => ?_
    refine Run.q (e := vIv) (gv := vIv) (ok_impl_LogAt _) fun r4 _ => ?_
    refine Run.q (e := vB) (gv := vIv) (ok_impl_areBounded _ _) fun r5 _ => ?_
    refine Run.y (gv := vIv) (fun _ => ?_) (fun _ => ?_)
    · refine Run.q (e := vIv) (gv := vIv) (ok_impl_Whole) fun r6 _ => ?_
      exact Run.x 0
    · refine Run.q (e := vIv) (gv := vIv) (ok_impl_bounded _ _ _) fun r7 _ => ?_
      exact Run.x 0

theorem ok_impl_LogI (a0 : Iv) : Fun Tryz.prog 159 [] #[vIv a0] (vIv (F_impl_LogI a0)) [] := by
  refine Fun.ofH 400 E_ok mixed Tryz.func159 (by kernel_rfl) (by kernel_rfl) ?_
  unfold F_impl_LogI
  refine Run.q (e := vIv) (gv := vIv) (ok_impl_monotonic__impl_LogAt _) fun r1 _ => ?_
  exact Run.x 0

theorem ok_impl_SinAt (a0 : I64) : Fun Tryz.prog 246 [] #[vI a0] (vIv (F_impl_SinAt a0)) [] := by
  refine Fun.ofH 400 E_ok mixed Tryz.func246 (by kernel_rfl) (by kernel_rfl) ?_
  unfold F_impl_SinAt
  refine Run.q (e := vIv) (gv := vIv) (ok_impl_circleValue _ _) fun r1 _ => ?_
  exact Run.x 0

theorem ok_impl_CosAt (a0 : I64) : Fun Tryz.prog 247 [] #[vI a0] (vIv (F_impl_CosAt a0)) [] := by
  refine Fun.ofH 400 E_ok mixed Tryz.func247 (by kernel_rfl) (by kernel_rfl) ?_
  unfold F_impl_CosAt
  refine Run.q (e := vIv) (gv := vIv) (ok_impl_circleValue _ _) fun r1 _ => ?_
  exact Run.x 0

theorem ok_impl_TanI_L0 : ∀ (fu : Nat) (cp_r4 : Nat) (pd_r4 : List Value) (r4 : List I64) (a0 : Iv) (x_12 : I64) (y_1 : Iv) (q0 : 0 ≤ x_12.val) (q1 : ((r4.length : Nat) : Int) ≤ 4000) (hm : (((r4.length : Nat) : Int) - x_12.val).toNat < fu) (t : Array Value) (ht : maskA t [0, 3, 4, 5, 6, 7, 8, 9, 13, 14, 15, 16, 17, 18, 19, 20, 21, 22, 23, 24, 25, 26, 27, 28, 29, 30, 31, 32, 33, 34, 35] = #[undef, .pointer (some ⟨0, 0, none⟩), .pointer (some ⟨1, 0, none⟩), undef, undef, undef, undef, undef, undef, undef, .slice (some ⟨2, 0, some 0⟩) r4.length cp_r4, .int .i64 (((r4.length : Nat) : Int)), .int .i64 x_12.val, undef, undef, undef, undef, undef, undef, undef, undef, undef, undef, undef, undef, undef, undef, undef, undef, undef, undef, undef, undef, undef, undef, undef]), Cfg Tryz.prog 190 (loopAt Tryz.f190 0) t [(#[.int .i64 a0.lo.val, .int .i64 a0.hi.val], 25), (#[.int .i64 y_1.lo.val, .int .i64 y_1.hi.val], 25), (rowOf r4 pd_r4, 2)] (RvH [] (vIv (F_impl_TanI_L0 fu r4 a0 x_12 y_1))) := by
  intro fu
  induction fu with
  | zero => intro cp_r4 pd_r4 r4 a0 x_12 y_1 q0 q1 hm; exact absurd hm (Nat.not_lt_zero _)
  | succ fu ih =>
    intro cp_r4 pd_r4 r4 a0 x_12 y_1 q0 q1 hm t ht
    refine Cfg.round E_ok mixed Tryz.func190 ht fun g => ?_
    unfold F_impl_TanI_L0
    refine Run.y (gv := vIv) (fun h5 => ?_) (fun h5 => ?_)
    · refine Run.k (c := (decide (0 ≤ x_12.val ∧ x_12.val < ((r4.length : Nat) : Int)))) (by kernel_rfl) (by simp only [w64_val, wu64_val, c64_val, cu64_val, decide_eq_true_eq, decide_eq_false_iff_not, cond_true, cond_false] at *; omega) ?_
      refine Run.ld (by kernel_rfl) (listAt_ok (L := r4) (pad := pd_r4) (i := x_12) (by simp only [w64_val, wu64_val, c64_val, cu64_val, decide_eq_true_eq, decide_eq_false_iff_not, cond_true, cond_false] at *; omega)) ?_
      refine Run.y (gv := vIv) (fun h6 => ?_) (fun h6 => ?_)
      · refine Run.q (e := vIv) (gv := vIv) (ok_impl_Whole) fun r7 hr7 => ?_
        exact Run.x 0
      · exact Run.l (by kernel_rfl) (by kernel_rfl) (by kernel_rfl) (by kernel_rfl) (ih cp_r4 pd_r4 r4 a0 (w64 (x_12.val + 1)) y_1 (by first | omega | (simp only [w64_val, wu64_val, c64_val, cu64_val, decide_eq_true_eq, decide_eq_false_iff_not, cond_true, cond_false] at *; omega)) (by first | omega | (simp only [w64_val, wu64_val, c64_val, cu64_val, decide_eq_true_eq, decide_eq_false_iff_not, cond_true, cond_false] at *; omega)) (by first | omega | (simp only [w64_val, wu64_val, c64_val, cu64_val, decide_eq_true_eq, decide_eq_false_iff_not, cond_true, cond_false] at *; omega)))
    · refine Run.q (e := vIv) (gv := vIv) (ok_impl_SinAt _) fun r8 hr8 => ?_
      refine Run.q (e := vIv) (gv := vIv) (ok_impl_CosAt _) fun r9 hr9 => ?_
      refine Run.q (e := vIv) (gv := vIv) (ok_impl_DivI _ _) fun r10 hr10 => ?_
      refine Run.q (e := vIv) (gv := vIv) (ok_impl_SinAt _) fun r11 hr11 => ?_
      refine Run.q (e := vIv) (gv := vIv) (ok_impl_CosAt _) fun r12 hr12 => ?_
      refine Run.q (e := vIv) (gv := vIv) (ok_impl_DivI _ _) fun r13 hr13 => ?_
      refine Run.q (e := vIv) (gv := vIv) (ok_impl_HullI _ _) fun r14 hr14 => ?_
      exact Run.x 0

end Go.Proofs.YtgofhiehdpggkaaGreat.Abs
