/- The program's functions are these; part 4 (written by w.py). -/
import Derived.Test.YtcdkepbgjgcjfaaGreatDsE
import Derived.Test.YtcdkepbgjgcjfaaGreatDsF3
import Derived.Test.YtcdkepbgjgcjfaaGreatDsQpre
import Derived.Test.YtcdkepbgjgcjfaaGreatDsK0
set_option linter.unusedVariables false
set_option linter.unusedSimpArgs false
namespace Go.Proofs.YtcdkepbgjgcjfaaGreat.Abs
open Go Go.RowKit

theorem ok_impl_within (a0 : I64) (a1 : I64) (a2 : I64) : Fun Tryz.prog 156 [] #[vI a0, vI a1, vI a2] (vB (F_impl_within a0 a1 a2)) [] := by
 refine Fun.ofH 400 E_ok mixed Tryz.func156 (by kernel_rfl) (by kernel_rfl) ?_
 unfold F_impl_within
 refine Run.y (gv := vB) (fun _ => ?_) (fun _ => ?_)
 ·refine Run.z [true, true, true] ?_
  exact Run.x 0
 ·refine Run.z [false, false, false] ?_
  exact Run.x 0

theorem ok_impl_ValidPoint (a0 : Pt) : Fun Tryz.prog 63 [] #[vPt a0] (vB (F_impl_ValidPoint a0)) [] := by
 refine Fun.ofH 400 E_ok mixed Tryz.func63 (by kernel_rfl) (by kernel_rfl) ?_
 unfold F_impl_ValidPoint
 refine Run.q (e := vB) (gv := vB) (ok_impl_within _ _ _) fun r1 _ => ?_
 refine Run.y (gv := vB) (fun _ => ?_) (fun _ => ?_)
 ·refine Run.z [true, true, true] ?_
  refine Run.y (gv := vB) (fun _ => ?_) (fun _ => ?_)
  ·refine Run.z [true, true, true] ?_
   exact Run.x 0
  ·refine Run.z [false, false, false] ?_
   exact Run.x 0
 ·refine Run.z [false, false, false, false, false, false, false] ?_
  exact Run.x 0

theorem ok_impl_areValid (a0 : Pt) (a1 : Pt) : Fun Tryz.prog 116 [] #[vPt a0, vPt a1] (vB (F_impl_areValid a0 a1)) [] := by
 refine Fun.ofH 400 E_ok mixed Tryz.func116 (by kernel_rfl) (by kernel_rfl) ?_
 unfold F_impl_areValid
 refine Run.q (e := vB) (gv := vB) (ok_impl_ValidPoint _) fun r1 _ => ?_
 refine Run.y (gv := vB) (fun _ => ?_) (fun _ => ?_)
 ·refine Run.z [true] ?_
  refine Run.q (e := vB) (gv := vB) (ok_impl_ValidPoint _) fun r2 _ => ?_
  refine Run.z [true] ?_
  exact Run.x 0
 ·refine Run.z [false, false] ?_
  exact Run.x 0

theorem ok_impl_Whole : Fun Tryz.prog 108 [] #[] (vIv (F_impl_Whole)) [] := by
 refine Fun.ofH 400 E_ok mixed Tryz.func108 (by kernel_rfl) (by kernel_rfl) ?_
 unfold F_impl_Whole
 exact Run.x 0

theorem ok_impl_ValidInterval (a0 : Iv) : Fun Tryz.prog 224 [] #[vIv a0] (vB (F_impl_ValidInterval a0)) [] := by
 refine Fun.ofH 400 E_ok mixed Tryz.func224 (by kernel_rfl) (by kernel_rfl) ?_
 unfold F_impl_ValidInterval
 refine Run.y (gv := vB) (fun _ => ?_) (fun _ => ?_)
 ·refine Run.z [true, true, true, true, true] ?_
  refine Run.y (gv := vB) (fun _ => ?_) (fun _ => ?_)
  ·refine Run.z [true, true, true] ?_
   exact Run.x 0
  ·refine Run.z [false, false, false] ?_
   exact Run.x 0
 ·refine Run.z [false, false, false, false, false, false, false, false, false] ?_
  exact Run.x 0

theorem ok_impl_IsWhole (a0 : Iv) : Fun Tryz.prog 142 [] #[vIv a0] (vB (F_impl_IsWhole a0)) [] := by
 refine Fun.ofH 400 E_ok mixed Tryz.func142 (by kernel_rfl) (by kernel_rfl) ?_
 unfold F_impl_IsWhole
 refine Run.q (e := vB) (gv := vB) (ok_impl_ValidInterval _) fun r1 _ => ?_
 exact Run.x 0

theorem ok_impl_NegI (a0 : Iv) : Fun Tryz.prog 77 [] #[vIv a0] (vIv (F_impl_NegI a0)) [] := by
 refine Fun.ofH 400 E_ok mixed Tryz.func77 (by kernel_rfl) (by kernel_rfl) ?_
 unfold F_impl_NegI
 refine Run.q (e := vB) (gv := vIv) (ok_impl_IsWhole _) fun r1 _ => ?_
 refine Run.y (gv := vIv) (fun _ => ?_) (fun _ => ?_)
 ·refine Run.q (e := vIv) (gv := vIv) (ok_impl_Whole) fun r2 _ => ?_
  exact Run.x 0
 ·exact Run.x 0

theorem ok_impl_WideMul (a0 : I64) (a1 : I64) : Fun Tryz.prog 236 [] #[vI a0, vI a1] (vWd (F_impl_WideMul a0 a1)) [] := by
 refine Fun.ofH 400 E_ok mixed Tryz.func236 (by kernel_rfl) (by kernel_rfl) ?_
 unfold F_impl_WideMul
 refine Run.q (e := vT_U_U) (gv := vWd) (ok_bits_Mul64 _ _) fun r1 _ => ?_
 refine Run.y (gv := vWd) (fun _ => ?_) (fun _ => ?_)
 ·refine Run.y (gv := vWd) (fun _ => ?_) (fun _ => ?_)
  ·exact Run.x 0
  ·exact Run.x 0
 ·refine Run.y (gv := vWd) (fun _ => ?_) (fun _ => ?_)
  ·exact Run.x 0
  ·exact Run.x 0

theorem ok_impl_divided (a0 : U64) (a1 : U64) (a2 : U64) (p0 : a2.val ≠ 0) : Fun Tryz.prog 292 [] #[vU a0, vU a1, vU a2] (vT_U_U_U (F_impl_divided a0 a1 a2)) [] := by
 refine Fun.ofH 400 E_ok mixed Tryz.func292 (by kernel_rfl) (by kernel_rfl) ?_
 unfold F_impl_divided
 refine Run.k (c := (decide (a2.val ≠ 0))) (by kernel_rfl) (by first | exact decide_eq_true p0 | exact imod_lt _ _ p0) ?_
 refine Run.k (c := (decide (a2.val ≠ 0))) (by kernel_rfl) (by first | exact decide_eq_true p0 | exact imod_lt _ _ p0) ?_
 refine Run.q (e := vT_U_U) (gv := vT_U_U_U) (ok_bits_Div64 _ _ _ (by first | exact decide_eq_true p0 | exact imod_lt _ _ p0)) fun r1 hr1 => ?_
 exact Run.x 0

theorem ok_impl_Wide_negative (a0 : Wd) : Fun Tryz.prog 293 [] #[vWd a0] (vWd (F_impl_Wide_negative a0)) [] := by
 refine Fun.ofH 400 E_ok mixed Tryz.func293 (by kernel_rfl) (by kernel_rfl) ?_
 unfold F_impl_Wide_negative
 refine Run.k (c := (decide (0 ≤ (0 : Int)) && (decide (0 ≤ (a0.lo.val : Int)) && (decide ((a0.lo.val : Int) ≤ 18446744073709551615) && (decide (0 ≤ (0 : Int)) && decide ((0 : Int) ≤ 1)))))) (by kernel_rfl) (by simp only [Bool.and_eq_true, decide_eq_true_eq]; exact ⟨U64.lo (cu64 0), U64.lo a0.lo, U64.hi a0.lo, U64.lo (cu64 0), (by decide)⟩) ?_
 refine Run.k (c := (decide (0 ≤ (0 : Int)) && (decide (0 ≤ ((wu64 a0.hi.val).val : Int)) && (decide (((wu64 a0.hi.val).val : Int) ≤ 18446744073709551615) && (decide (0 ≤ ((sbb_hi (cu64 0) a0.lo (cu64 0)).val : Int)) && decide (((sbb_hi (cu64 0) a0.lo (cu64 0)).val : Int) ≤ 1)))))) (by kernel_rfl) (by simp only [Bool.and_eq_true, decide_eq_true_eq]; exact ⟨U64.lo (cu64 0), U64.lo (wu64 a0.hi.val), U64.hi (wu64 a0.hi.val), U64.lo (sbb_hi (cu64 0) a0.lo (cu64 0)), (sbb_hi_le _ _ _)⟩) ?_
 exact Run.x 0

theorem ok_impl_WideDiv (a0 : Wd) (a1 : I64) : Fun Tryz.prog 251 [] #[vWd a0, vI a1] (vT_Wd_I_B (F_impl_WideDiv a0 a1)) [] := by
 refine Fun.ofH 400 E_ok mixed Tryz.func251 (by kernel_rfl) (by kernel_rfl) ?_
 unfold F_impl_WideDiv
 refine Run.y (gv := vT_Wd_I_B) (fun h1 => ?_) (fun h1 => ?_)
 ·exact Run.x 0
 ·refine Run.y (gv := vT_Wd_I_B) (fun h2 => ?_) (fun h2 => ?_)
  ·refine Run.q (e := vT_U_U_U) (gv := vT_Wd_I_B) (ok_impl_divided _ _ _ (by have q := a1.hi; simp only [wu64_val, decide_eq_true_eq, decide_eq_false_iff_not] at *; omega)) fun r3 hr3 => ?_
   exact Run.x 0
  ·refine Run.q (e := vWd) (gv := vT_Wd_I_B) (ok_impl_Wide_negative _) fun r4 hr4 => ?_
   refine Run.q (e := vT_U_U_U) (gv := vT_Wd_I_B) (ok_impl_divided _ _ _ (by have q := a1.hi; simp only [wu64_val, decide_eq_true_eq, decide_eq_false_iff_not] at *; omega)) fun r5 hr5 => ?_
   refine Run.y (gv := vT_Wd_I_B) (fun h6 => ?_) (fun h6 => ?_)
   ·refine Run.q (e := vWd) (gv := vT_Wd_I_B) (ok_impl_Wide_negative _) fun r7 hr7 => ?_
    exact Run.x 0
   ·refine Run.k (c := (decide (0 ≤ (r5.2.1.val : Int)) && (decide (0 ≤ (1 : Int)) && (decide (0 ≤ (0 : Int)) && decide ((0 : Int) ≤ 1))))) (by kernel_rfl) (by simp only [Bool.and_eq_true, decide_eq_true_eq]; exact ⟨U64.lo r5.2.1, U64.lo (cu64 1), U64.lo (cu64 0), (by decide)⟩) ?_
    refine Run.q (e := vWd) (gv := vT_Wd_I_B) (ok_impl_Wide_negative _) fun r8 hr8 => ?_
    exact Run.x 0

theorem ok_impl_WideOf (a0 : I64) : Fun Tryz.prog 295 [] #[vI a0] (vWd (F_impl_WideOf a0)) [] := by
 refine Fun.ofH 400 E_ok mixed Tryz.func295 (by kernel_rfl) (by kernel_rfl) ?_
 unfold F_impl_WideOf
 refine Run.z [true] ?_
 exact Run.x 0

theorem ok_impl_WideInt (a0 : Wd) : Fun Tryz.prog 252 [] #[vWd a0] (vT_I_B (F_impl_WideInt a0)) [] := by
 refine Fun.ofH 400 E_ok mixed Tryz.func252 (by kernel_rfl) (by kernel_rfl) ?_
 unfold F_impl_WideInt
 refine Run.q (e := vWd) (gv := vT_I_B) (ok_impl_WideOf _) fun r1 _ => ?_
 refine Run.y (gv := vT_I_B) (fun _ => ?_) (fun _ => ?_)
 ·exact Run.x 0
 ·exact Run.x 0

theorem ok_impl_MulDivFloor (a0 : I64) (a1 : I64) (a2 : I64) : Fun Tryz.prog 195 [] #[vI a0, vI a1, vI a2] (vT_I_B (F_impl_MulDivFloor a0 a1 a2)) [] := by
 refine Fun.ofH 400 E_ok mixed Tryz.func195 (by kernel_rfl) (by kernel_rfl) ?_
 unfold F_impl_MulDivFloor
 refine Run.q (e := vWd) (gv := vT_I_B) (ok_impl_WideMul _ _) fun r1 _ => ?_
 refine Run.q (e := vT_Wd_I_B) (gv := vT_I_B) (ok_impl_WideDiv _ _) fun r2 _ => ?_
 refine Run.y (gv := vT_I_B) (fun _ => ?_) (fun _ => ?_)
 ·exact Run.x 0
 ·refine Run.q (e := vT_I_B) (gv := vT_I_B) (ok_impl_WideInt _) fun r3 _ => ?_
  exact Run.x 0

theorem ok_impl_RadiansOf_r : ∀ (fu : Nat) (a0 : I64) (hm : min (0 - a0.val).toNat 1 < fu), Fun Tryz.prog 104 [] #[vI a0] (vIv (F_impl_RadiansOf_r fu a0)) [] := by
 intro fu
 induction fu with
 | zero => intro a0 hm; exact absurd hm (Nat.not_lt_zero _)
 | succ fu ih =>
  intro a0 hm
  refine Fun.ofH 400 E_ok mixed Tryz.func104 (by kernel_rfl) (by kernel_rfl) ?_
  unfold F_impl_RadiansOf_r
  refine Run.q (e := vB) (gv := vIv) (ok_impl_within _ _ _) fun r1 hr1 => ?_
  refine Run.y (gv := vIv) (fun h2 => ?_) (fun h2 => ?_)
  ·refine Run.q (e := vIv) (gv := vIv) (ok_impl_Whole) fun r3 hr3 => ?_
   exact Run.x 0
  ·refine Run.y (gv := vIv) (fun h4 => ?_) (fun h4 => ?_)
   ·refine Run.q (e := vIv) (gv := vIv) (ih (w64 (0 - a0.val)) (by rw [hr1] at h2; simp [F_impl_within, c64_val] at h2; simp only [w64_val, decide_eq_true_eq, decide_eq_false_iff_not] at *; omega)) fun r5 hr5 => ?_
    refine Run.q (e := vIv) (gv := vIv) (ok_impl_NegI _) fun r6 hr6 => ?_
    exact Run.x 0
   ·refine Run.y (gv := vIv) (fun h7 => ?_) (fun h7 => ?_)
    ·exact Run.x 0
    ·refine Run.q (e := vT_I_B) (gv := vIv) (ok_impl_MulDivFloor _ _ _) fun r8 hr8 => ?_
     refine Run.q (e := vT_I_B) (gv := vIv) (ok_impl_MulDivFloor _ _ _) fun r9 hr9 => ?_
     exact Run.x 0
theorem ok_impl_RadiansOf (a0 : I64) : Fun Tryz.prog 104 [] #[vI a0] (vIv (F_impl_RadiansOf a0)) [] := ok_impl_RadiansOf_r 2 a0 (by omega)

theorem ok_impl_LatOf (a0 : Pt) : Fun Tryz.prog 66 [] #[vPt a0] (vIv (F_impl_LatOf a0)) [] := by
 refine Fun.ofH 400 E_ok mixed Tryz.func66 (by kernel_rfl) (by kernel_rfl) ?_
 unfold F_impl_LatOf
 refine Run.q (e := vB) (gv := vIv) (ok_impl_ValidPoint _) fun r1 _ => ?_
 refine Run.y (gv := vIv) (fun _ => ?_) (fun _ => ?_)
 ·refine Run.q (e := vIv) (gv := vIv) (ok_impl_Whole) fun r2 _ => ?_
  exact Run.x 0
 ·refine Run.q (e := vIv) (gv := vIv) (ok_impl_RadiansOf _) fun r3 _ => ?_
  exact Run.x 0

theorem ok_impl_WrapLon (a0 : I64) : Fun Tryz.prog 164 [] #[vI a0] (vI (F_impl_WrapLon a0)) [] := by
 refine Fun.ofH 400 E_ok mixed Tryz.func164 (by kernel_rfl) (by kernel_rfl) ?_
 unfold F_impl_WrapLon
 refine Run.z [true] ?_
 refine Run.y (gv := vI) (fun _ => ?_) (fun _ => ?_)
 ·exact Run.x 0
 ·refine Run.y (gv := vI) (fun _ => ?_) (fun _ => ?_)
  ·exact Run.x 0
  ·exact Run.x 0

theorem ok_impl_differenceOf (a0 : Pt) (a1 : Pt) : Fun Tryz.prog 118 [] #[vPt a0, vPt a1] (vIv (F_impl_differenceOf a0 a1)) [] := by
 refine Fun.ofH 400 E_ok mixed Tryz.func118 (by kernel_rfl) (by kernel_rfl) ?_
 unfold F_impl_differenceOf
 refine Run.q (e := vI) (gv := vIv) (ok_impl_WrapLon _) fun r1 _ => ?_
 refine Run.q (e := vIv) (gv := vIv) (ok_impl_RadiansOf _) fun r2 _ => ?_
 exact Run.x 0

theorem ok_impl_isAngle (a0 : I64) : Fun Tryz.prog 278 [] #[vI a0] (vB (F_impl_isAngle a0)) [] := by
 refine Fun.ofH 400 E_ok mixed Tryz.func278 (by kernel_rfl) (by kernel_rfl) ?_
 unfold F_impl_isAngle
 refine Run.q (e := vB) (gv := vB) (ok_impl_within _ _ _) fun r1 _ => ?_
 exact Run.x 0

theorem ok_impl_areAngles (a0 : Iv) : Fun Tryz.prog 232 [] #[vIv a0] (vB (F_impl_areAngles a0)) [] := by
 refine Fun.ofH 400 E_ok mixed Tryz.func232 (by kernel_rfl) (by kernel_rfl) ?_
 unfold F_impl_areAngles
 refine Run.q (e := vB) (gv := vB) (ok_impl_ValidInterval _) fun r1 _ => ?_
 refine Run.y (gv := vB) (fun _ => ?_) (fun _ => ?_)
 ·refine Run.z [true, true] ?_
  refine Run.q (e := vB) (gv := vB) (ok_impl_isAngle _) fun r2 _ => ?_
  refine Run.z [true] ?_
  refine Run.y (gv := vB) (fun _ => ?_) (fun _ => ?_)
  ·refine Run.z [true, true] ?_
   refine Run.q (e := vB) (gv := vB) (ok_impl_isAngle _) fun r3 _ => ?_
   refine Run.z [true] ?_
   exact Run.x 0
  ·refine Run.z [false, false, false] ?_
   exact Run.x 0
 ·refine Run.z [false, false, false, false, false, false, false] ?_
  exact Run.x 0

theorem ok_impl_ring : Fun Tryz.prog 172 [] #[] (vIv (F_impl_ring)) [] := by
 refine Fun.ofH 400 E_ok mixed Tryz.func172 (by kernel_rfl) (by kernel_rfl) ?_
 unfold F_impl_ring
 exact Run.x 0

theorem ok_impl_QuarterOf (a0 : I64) : Fun Tryz.prog 279 [] #[vI a0] (vI (F_impl_QuarterOf a0)) [] := by
 refine Fun.ofH 400 E_ok mixed Tryz.func279 (by kernel_rfl) (by kernel_rfl) ?_
 unfold F_impl_QuarterOf
 refine Run.q (e := vB) (gv := vI) (ok_impl_isAngle _) fun r1 _ => ?_
 refine Run.y (gv := vI) (fun _ => ?_) (fun _ => ?_)
 ·exact Run.x 0
 ·refine Run.z [true] ?_
  refine Run.y (gv := vI) (fun _ => ?_) (fun _ => ?_)
  ·exact Run.x 0
  ·exact Run.x 0

theorem ok_impl_at (a0 : I64) : Fun Tryz.prog 215 [] #[vI a0] (vIv (F_impl_at a0)) [] := by
 refine Fun.ofH 400 E_ok mixed Tryz.func215 (by kernel_rfl) (by kernel_rfl) ?_
 unfold F_impl_at
 exact Run.x 0

theorem ok_impl_WideShift (a0 : Wd) (a1 : I64) : Fun Tryz.prog 277 [] #[vWd a0, vI a1] (vWd (F_impl_WideShift a0 a1)) [] := by
 refine Fun.ofH 400 E_ok mixed Tryz.func277 (by kernel_rfl) (by kernel_rfl) ?_
 unfold F_impl_WideShift
 refine Run.q (e := vB) (gv := vWd) (ok_impl_within _ _ _) fun r1 hr1 => ?_
 refine Run.y (gv := vWd) (fun h2 => ?_) (fun h2 => ?_)
 ·exact Run.x 0
 ·refine Run.y (gv := vWd) (fun h3 => ?_) (fun h3 => ?_)
  ·refine Run.z [true] ?_
   refine Run.k (c := (decide (0 ≤ (w64 (a1.val - 64)).val))) (by kernel_rfl) (by have q := a1.hi; rw [hr1] at h2; simp [F_impl_within, c64_val] at h2; simp only [w64_val, decide_eq_true_eq, decide_eq_false_iff_not] at *; omega) ?_
   exact Run.x 0
  ·refine Run.k (c := (decide (0 ≤ a1.val))) (by kernel_rfl) (by have q := a1.hi; rw [hr1] at h2; simp [F_impl_within, c64_val] at h2; simp only [w64_val, decide_eq_true_eq, decide_eq_false_iff_not] at *; omega) ?_
   refine Run.k (c := (decide (0 ≤ a1.val))) (by kernel_rfl) (by have q := a1.hi; rw [hr1] at h2; simp [F_impl_within, c64_val] at h2; simp only [w64_val, decide_eq_true_eq, decide_eq_false_iff_not] at *; omega) ?_
   refine Run.k (c := (decide (0 ≤ (w64 (64 - a1.val)).val))) (by kernel_rfl) (by have q := a1.hi; rw [hr1] at h2; simp [F_impl_within, c64_val] at h2; simp only [w64_val, decide_eq_true_eq, decide_eq_false_iff_not] at *; omega) ?_
   exact Run.x 0

theorem ok_impl_MulFloor (a0 : I64) (a1 : I64) (a2 : I64) : Fun Tryz.prog 231 [] #[vI a0, vI a1, vI a2] (vT_I_B (F_impl_MulFloor a0 a1 a2)) [] := by
 refine Fun.ofH 400 E_ok mixed Tryz.func231 (by kernel_rfl) (by kernel_rfl) ?_
 unfold F_impl_MulFloor
 refine Run.q (e := vB) (gv := vT_I_B) (ok_impl_within _ _ _) fun r1 _ => ?_
 refine Run.y (gv := vT_I_B) (fun _ => ?_) (fun _ => ?_)
 ·exact Run.x 0
 ·refine Run.q (e := vWd) (gv := vT_I_B) (ok_impl_WideMul _ _) fun r2 _ => ?_
  refine Run.q (e := vWd) (gv := vT_I_B) (ok_impl_WideShift _ _) fun r3 _ => ?_
  refine Run.q (e := vT_I_B) (gv := vT_I_B) (ok_impl_WideInt _) fun r4 _ => ?_
  exact Run.x 0

theorem ok_impl_TurnI_r : ∀ (fu : Nat) (a0 : I64) (hm : min (0 - a0.val).toNat 1 < fu), Fun Tryz.prog 177 [] #[vI a0] (vIv (F_impl_TurnI_r fu a0)) [] := by
 intro fu
 induction fu with
 | zero => intro a0 hm; exact absurd hm (Nat.not_lt_zero _)
 | succ fu ih =>
  intro a0 hm
  refine Fun.ofH 400 E_ok mixed Tryz.func177 (by kernel_rfl) (by kernel_rfl) ?_
  unfold F_impl_TurnI_r
  refine Run.q (e := vB) (gv := vIv) (ok_impl_within _ _ _) fun r1 hr1 => ?_
  refine Run.y (gv := vIv) (fun h2 => ?_) (fun h2 => ?_)
  ·refine Run.q (e := vIv) (gv := vIv) (ok_impl_Whole) fun r3 hr3 => ?_
   exact Run.x 0
  ·refine Run.y (gv := vIv) (fun h4 => ?_) (fun h4 => ?_)
   ·refine Run.q (e := vIv) (gv := vIv) (ih (w64 (0 - a0.val)) (by rw [hr1] at h2; simp [F_impl_within, c64_val] at h2; simp only [w64_val, decide_eq_true_eq, decide_eq_false_iff_not] at *; omega)) fun r5 hr5 => ?_
    refine Run.q (e := vIv) (gv := vIv) (ok_impl_NegI _) fun r6 hr6 => ?_
    exact Run.x 0
   ·refine Run.y (gv := vIv) (fun h7 => ?_) (fun h7 => ?_)
    ·exact Run.x 0
    ·refine Run.q (e := vT_I_B) (gv := vIv) (ok_impl_MulFloor _ _ _) fun r8 hr8 => ?_
     exact Run.x 0
theorem ok_impl_TurnI (a0 : I64) : Fun Tryz.prog 177 [] #[vI a0] (vIv (F_impl_TurnI a0)) [] := ok_impl_TurnI_r 2 a0 (by omega)

theorem ok_impl_areBounded (a0 : Iv) (a1 : Iv) : Fun Tryz.prog 141 [] #[vIv a0, vIv a1] (vB (F_impl_areBounded a0 a1)) [] := by
 refine Fun.ofH 400 E_ok mixed Tryz.func141 (by kernel_rfl) (by kernel_rfl) ?_
 unfold F_impl_areBounded
 refine Run.q (e := vB) (gv := vB) (ok_impl_ValidInterval _) fun r1 _ => ?_
 refine Run.y (gv := vB) (fun _ => ?_) (fun _ => ?_)
 ·refine Run.z [true] ?_
  refine Run.q (e := vB) (gv := vB) (ok_impl_ValidInterval _) fun r2 _ => ?_
  refine Run.z [true] ?_
  exact Run.x 0
 ·refine Run.z [false, false] ?_
  exact Run.x 0

theorem ok_impl_bounded (a0 : I64) (a1 : I64) (a2 : Bool) : Fun Tryz.prog 168 [] #[vI a0, vI a1, vB a2] (vIv (F_impl_bounded a0 a1 a2)) [] := by
 refine Fun.ofH 400 E_ok mixed Tryz.func168 (by kernel_rfl) (by kernel_rfl) ?_
 unfold F_impl_bounded
 refine Run.y (gv := vIv) (fun _ => ?_) (fun _ => ?_)
 ·refine Run.z [true] ?_
  refine Run.q (e := vB) (gv := vIv) (ok_impl_ValidInterval _) fun r1 _ => ?_
  refine Run.z [true] ?_
  refine Run.y (gv := vIv) (fun _ => ?_) (fun _ => ?_)
  ·exact Run.x 0
  ·refine Run.q (e := vIv) (gv := vIv) (ok_impl_Whole) fun r2 _ => ?_
   exact Run.x 0
 ·refine Run.z [false, false, false] ?_
  refine Run.q (e := vIv) (gv := vIv) (ok_impl_Whole) fun r3 _ => ?_
  exact Run.x 0

theorem ok_impl_AddI (a0 : Iv) (a1 : Iv) : Fun Tryz.prog 74 [] #[vIv a0, vIv a1] (vIv (F_impl_AddI a0 a1)) [] := by
 refine Fun.ofH 400 E_ok mixed Tryz.func74 (by kernel_rfl) (by kernel_rfl) ?_
 unfold F_impl_AddI
 refine Run.q (e := vB) (gv := vIv) (ok_impl_areBounded _ _) fun r1 _ => ?_
 refine Run.y (gv := vIv) (fun _ => ?_) (fun _ => ?_)
 ·refine Run.q (e := vIv) (gv := vIv) (ok_impl_Whole) fun r2 _ => ?_
  exact Run.x 0
 ·refine Run.q (e := vIv) (gv := vIv) (ok_impl_bounded _ _ _) fun r3 _ => ?_
  exact Run.x 0

theorem ok_impl_SubI (a0 : Iv) (a1 : Iv) : Fun Tryz.prog 71 [] #[vIv a0, vIv a1] (vIv (F_impl_SubI a0 a1)) [] := by
 refine Fun.ofH 400 E_ok mixed Tryz.func71 (by kernel_rfl) (by kernel_rfl) ?_
 unfold F_impl_SubI
 refine Run.q (e := vIv) (gv := vIv) (ok_impl_NegI _) fun r1 _ => ?_
 refine Run.q (e := vIv) (gv := vIv) (ok_impl_AddI _ _) fun r2 _ => ?_
 exact Run.x 0

theorem ok_impl_InsideI (a0 : Iv) (a1 : Iv) : Fun Tryz.prog 304 [] #[vIv a0, vIv a1] (vB (F_impl_InsideI a0 a1)) [] := by
 refine Fun.ofH 400 E_ok mixed Tryz.func304 (by kernel_rfl) (by kernel_rfl) ?_
 unfold F_impl_InsideI
 refine Run.q (e := vB) (gv := vB) (ok_impl_IsWhole _) fun r1 _ => ?_
 refine Run.y (gv := vB) (fun _ => ?_) (fun _ => ?_)
 ·refine Run.z [true, true, true] ?_
  refine Run.q (e := vB) (gv := vB) (ok_impl_IsWhole _) fun r2 _ => ?_
  exact Run.x 0
 ·refine Run.z [false] ?_
  refine Run.q (e := vB) (gv := vB) (ok_impl_IsWhole _) fun r3 _ => ?_
  refine Run.z [false] ?_
  refine Run.y (gv := vB) (fun _ => ?_) (fun _ => ?_)
  ·refine Run.q (e := vB) (gv := vB) (ok_impl_IsWhole _) fun r4 _ => ?_
   exact Run.x 0
  ·refine Run.y (gv := vB) (fun _ => ?_) (fun _ => ?_)
   ·refine Run.z [true, true, true, true, true] ?_
    exact Run.x 0
   ·refine Run.z [false, false, false, false, false] ?_
    exact Run.x 0

theorem ok_impl_abs (a0 : I64) : Fun Tryz.prog 157 [] #[vI a0] (vI (F_impl_abs a0)) [] := by
 refine Fun.ofH 400 E_ok mixed Tryz.func157 (by kernel_rfl) (by kernel_rfl) ?_
 unfold F_impl_abs
 exact Run.x 0

theorem ok_impl_HasI (a0 : Iv) (a1 : I64) : Fun Tryz.prog 169 [] #[vIv a0, vI a1] (vB (F_impl_HasI a0 a1)) [] := by
 refine Fun.ofH 400 E_ok mixed Tryz.func169 (by kernel_rfl) (by kernel_rfl) ?_
 unfold F_impl_HasI
 refine Run.q (e := vB) (gv := vB) (ok_impl_IsWhole _) fun r1 _ => ?_
 refine Run.y (gv := vB) (fun _ => ?_) (fun _ => ?_)
 ·refine Run.z [true, true, true, true, true, true] ?_
  exact Run.x 0
 ·refine Run.z [false, false, false, false, false] ?_
  refine Run.q (e := vB) (gv := vB) (ok_impl_within _ _ _) fun r2 _ => ?_
  refine Run.z [false] ?_
  exact Run.x 0

theorem ok_impl_AbsI (a0 : Iv) : Fun Tryz.prog 101 [] #[vIv a0] (vIv (F_impl_AbsI a0)) [] := by
 refine Fun.ofH 400 E_ok mixed Tryz.func101 (by kernel_rfl) (by kernel_rfl) ?_
 unfold F_impl_AbsI
 refine Run.q (e := vB) (gv := vIv) (ok_impl_IsWhole _) fun r1 _ => ?_
 refine Run.y (gv := vIv) (fun _ => ?_) (fun _ => ?_)
 ·refine Run.q (e := vIv) (gv := vIv) (ok_impl_Whole) fun r2 _ => ?_
  exact Run.x 0
 ·refine Run.q (e := vI) (gv := vIv) (ok_impl_abs _) fun r3 _ => ?_
  refine Run.q (e := vI) (gv := vIv) (ok_impl_abs _) fun r4 _ => ?_
  refine Run.q (e := vI) (gv := vIv) (ok_impl_abs _) fun r5 _ => ?_
  refine Run.q (e := vI) (gv := vIv) (ok_impl_abs _) fun r6 _ => ?_
  refine Run.q (e := vB) (gv := vIv) (ok_impl_HasI _ _) fun r7 _ => ?_
  refine Run.y (gv := vIv) (fun _ => ?_) (fun _ => ?_)
  ·exact Run.x 0
  ·exact Run.x 0

theorem ok_impl_ValidFix (a0 : I64) : Fun Tryz.prog 197 [] #[vI a0] (vB (F_impl_ValidFix a0)) [] := by
 refine Fun.ofH 400 E_ok mixed Tryz.func197 (by kernel_rfl) (by kernel_rfl) ?_
 unfold F_impl_ValidFix
 refine Run.q (e := vB) (gv := vB) (ok_impl_within _ _ _) fun r1 _ => ?_
 exact Run.x 0

theorem ok_impl_fixed (a0 : I64) (a1 : Bool) : Fun Tryz.prog 230 [] #[vI a0, vB a1] (vT_I_B (F_impl_fixed a0 a1)) [] := by
 refine Fun.ofH 400 E_ok mixed Tryz.func230 (by kernel_rfl) (by kernel_rfl) ?_
 unfold F_impl_fixed
 refine Run.y (gv := vT_I_B) (fun _ => ?_) (fun _ => ?_)
 ·refine Run.z [true, true, true, true] ?_
  exact Run.x 0
 ·refine Run.z [false] ?_
  refine Run.q (e := vB) (gv := vT_I_B) (ok_impl_ValidFix _) fun r1 _ => ?_
  refine Run.z [false, false] ?_
  refine Run.y (gv := vT_I_B) (fun _ => ?_) (fun _ => ?_)
  ·exact Run.x 0
  ·exact Run.x 0

theorem ok_impl_MulDown (a0 : I64) (a1 : I64) : Fun Tryz.prog 162 [] #[vI a0, vI a1] (vT_I_B (F_impl_MulDown a0 a1)) [] := by
 refine Fun.ofH 400 E_ok mixed Tryz.func162 (by kernel_rfl) (by kernel_rfl) ?_
 unfold F_impl_MulDown
 refine Run.q (e := vB) (gv := vT_I_B) (ok_impl_ValidFix _) fun r1 _ => ?_
 refine Run.y (gv := vT_I_B) (fun _ => ?_) (fun _ => ?_)
 ·refine Run.z [true, true, true, true] ?_
  exact Run.x 0
 ·refine Run.z [false] ?_
  refine Run.q (e := vB) (gv := vT_I_B) (ok_impl_ValidFix _) fun r2 _ => ?_
  refine Run.z [false, false] ?_
  refine Run.y (gv := vT_I_B) (fun _ => ?_) (fun _ => ?_)
  ·exact Run.x 0
  ·refine Run.q (e := vT_I_B) (gv := vT_I_B) (ok_impl_MulFloor _ _ _) fun r3 _ => ?_
   refine Run.q (e := vT_I_B) (gv := vT_I_B) (ok_impl_fixed _ _) fun r4 _ => ?_
   exact Run.x 0

theorem ok_impl_MulUp (a0 : I64) (a1 : I64) : Fun Tryz.prog 163 [] #[vI a0, vI a1] (vT_I_B (F_impl_MulUp a0 a1)) [] := by
 refine Fun.ofH 400 E_ok mixed Tryz.func163 (by kernel_rfl) (by kernel_rfl) ?_
 unfold F_impl_MulUp
 refine Run.q (e := vB) (gv := vT_I_B) (ok_impl_ValidFix _) fun r1 _ => ?_
 refine Run.y (gv := vT_I_B) (fun _ => ?_) (fun _ => ?_)
 ·refine Run.z [true, true, true, true] ?_
  exact Run.x 0
 ·refine Run.z [false] ?_
  refine Run.q (e := vB) (gv := vT_I_B) (ok_impl_ValidFix _) fun r2 _ => ?_
  refine Run.z [false, false] ?_
  refine Run.y (gv := vT_I_B) (fun _ => ?_) (fun _ => ?_)
  ·exact Run.x 0
  ·refine Run.q (e := vT_I_B) (gv := vT_I_B) (ok_impl_MulDown _ _) fun r3 _ => ?_
   exact Run.x 0

theorem ok_impl_SqrI (a0 : Iv) : Fun Tryz.prog 75 [] #[vIv a0] (vIv (F_impl_SqrI a0)) [] := by
 refine Fun.ofH 400 E_ok mixed Tryz.func75 (by kernel_rfl) (by kernel_rfl) ?_
 unfold F_impl_SqrI
 refine Run.q (e := vB) (gv := vIv) (ok_impl_IsWhole _) fun r1 _ => ?_
 refine Run.y (gv := vIv) (fun _ => ?_) (fun _ => ?_)
 ·refine Run.q (e := vIv) (gv := vIv) (ok_impl_Whole) fun r2 _ => ?_
  exact Run.x 0
 ·refine Run.q (e := vIv) (gv := vIv) (ok_impl_AbsI _) fun r3 _ => ?_
  refine Run.q (e := vT_I_B) (gv := vIv) (ok_impl_MulDown _ _) fun r4 _ => ?_
  refine Run.q (e := vT_I_B) (gv := vIv) (ok_impl_MulUp _ _) fun r5 _ => ?_
  refine Run.y (gv := vIv) (fun _ => ?_) (fun _ => ?_)
  ·refine Run.z [true] ?_
   refine Run.q (e := vIv) (gv := vIv) (ok_impl_bounded _ _ _) fun r6 _ => ?_
   exact Run.x 0
  ·refine Run.z [false] ?_
   refine Run.q (e := vIv) (gv := vIv) (ok_impl_bounded _ _ _) fun r7 _ => ?_
   exact Run.x 0

theorem ok_impl_Integer (a0 : I64) : Fun Tryz.prog 134 [] #[vI a0] (vIv (F_impl_Integer a0)) [] := by
 refine Fun.ofH 400 E_ok mixed Tryz.func134 (by kernel_rfl) (by kernel_rfl) ?_
 unfold F_impl_Integer
 refine Run.q (e := vB) (gv := vIv) (ok_impl_within _ _ _) fun r1 _ => ?_
 refine Run.y (gv := vIv) (fun _ => ?_) (fun _ => ?_)
 ·refine Run.q (e := vIv) (gv := vIv) (ok_impl_Whole) fun r2 _ => ?_
  exact Run.x 0
 ·refine Run.q (e := vIv) (gv := vIv) (ok_impl_bounded _ _ _) fun r3 _ => ?_
  exact Run.x 0

theorem ok_impl_DivDown (a0 : I64) (a1 : I64) : Fun Tryz.prog 178 [] #[vI a0, vI a1] (vT_I_B (F_impl_DivDown a0 a1)) [] := by
 refine Fun.ofH 400 E_ok mixed Tryz.func178 (by kernel_rfl) (by kernel_rfl) ?_
 unfold F_impl_DivDown
 refine Run.q (e := vB) (gv := vT_I_B) (ok_impl_ValidFix _) fun r1 _ => ?_
 refine Run.y (gv := vT_I_B) (fun _ => ?_) (fun _ => ?_)
 ·refine Run.z [true, true, true, true] ?_
  exact Run.x 0
 ·refine Run.z [false] ?_
  refine Run.q (e := vB) (gv := vT_I_B) (ok_impl_ValidFix _) fun r2 _ => ?_
  refine Run.z [false, false] ?_
  refine Run.y (gv := vT_I_B) (fun _ => ?_) (fun _ => ?_)
  ·exact Run.x 0
  ·refine Run.y (gv := vT_I_B) (fun _ => ?_) (fun _ => ?_)
   ·refine Run.q (e := vT_I_B) (gv := vT_I_B) (ok_impl_MulDivFloor _ _ _) fun r3 _ => ?_
    refine Run.q (e := vT_I_B) (gv := vT_I_B) (ok_impl_fixed _ _) fun r4 _ => ?_
    exact Run.x 0
   ·refine Run.q (e := vT_I_B) (gv := vT_I_B) (ok_impl_MulDivFloor _ _ _) fun r5 _ => ?_
    refine Run.q (e := vT_I_B) (gv := vT_I_B) (ok_impl_fixed _ _) fun r6 _ => ?_
    exact Run.x 0

theorem ok_impl_DivUp (a0 : I64) (a1 : I64) : Fun Tryz.prog 179 [] #[vI a0, vI a1] (vT_I_B (F_impl_DivUp a0 a1)) [] := by
 refine Fun.ofH 400 E_ok mixed Tryz.func179 (by kernel_rfl) (by kernel_rfl) ?_
 unfold F_impl_DivUp
 refine Run.q (e := vB) (gv := vT_I_B) (ok_impl_ValidFix _) fun r1 _ => ?_
 refine Run.y (gv := vT_I_B) (fun _ => ?_) (fun _ => ?_)
 ·refine Run.z [true, true, true, true] ?_
  exact Run.x 0
 ·refine Run.z [false] ?_
  refine Run.q (e := vB) (gv := vT_I_B) (ok_impl_ValidFix _) fun r2 _ => ?_
  refine Run.z [false, false] ?_
  refine Run.y (gv := vT_I_B) (fun _ => ?_) (fun _ => ?_)
  ·exact Run.x 0
  ·refine Run.q (e := vT_I_B) (gv := vT_I_B) (ok_impl_DivDown _ _) fun r3 _ => ?_
   exact Run.x 0

theorem ok_impl_combine__impl_DivDown__impl_DivUp (a0 : Iv) (a1 : Iv) : Fun Tryz.prog 161 [] #[vIv a0, vIv a1, .func (.func 178) #[] #[], .func (.func 179) #[] #[]] (vIv (F_impl_combine__impl_DivDown__impl_DivUp a0 a1)) [] := by
 refine Fun.ofH 400 E_ok mixed Tryz.func161 (by kernel_rfl) (by kernel_rfl) ?_
 unfold F_impl_combine__impl_DivDown__impl_DivUp
 refine Run.u 400 E_ok mixed Tryz.func161 ?_
 refine Run.z [true] ?_
 refine Run.u 400 E_ok mixed Tryz.func161 ?_
 refine Run.z [true] ?_
 refine Run.q (e := vT_I_B) (gv := vIv) (ok_impl_DivDown _ _) fun r1 _ => ?_
 refine Run.q (e := vT_I_B) (gv := vIv) (ok_impl_DivUp _ _) fun r2 _ => ?_
 refine Run.y (gv := vIv) (fun _ => ?_) (fun _ => ?_)
 ·refine Run.z [true, true, true] ?_
  refine Run.q (e := vIv) (gv := vIv) (ok_impl_Whole) fun r3 _ => ?_
  exact Run.x 0
 ·refine Run.z [false, false] ?_
  refine Run.y (gv := vIv) (fun _ => ?_) (fun _ => ?_)
  ·refine Run.q (e := vIv) (gv := vIv) (ok_impl_Whole) fun r4 _ => ?_
   exact Run.x 0
  ·refine Run.z [true] ?_
   refine Run.u 400 E_ok mixed Tryz.func161 ?_
   refine Run.z [true] ?_
   refine Run.q (e := vT_I_B) (gv := vIv) (ok_impl_DivDown _ _) fun r5 _ => ?_
   refine Run.q (e := vT_I_B) (gv := vIv) (ok_impl_DivUp _ _) fun r6 _ => ?_
   refine Run.y (gv := vIv) (fun _ => ?_) (fun _ => ?_)
   ·refine Run.z [true, true, true] ?_
    refine Run.q (e := vIv) (gv := vIv) (ok_impl_Whole) fun r7 _ => ?_
    exact Run.x 0
   ·refine Run.z [false, false] ?_
    refine Run.y (gv := vIv) (fun _ => ?_) (fun _ => ?_)
    ·refine Run.q (e := vIv) (gv := vIv) (ok_impl_Whole) fun r8 _ => ?_
     exact Run.x 0
    ·refine Run.z [false] ?_
     refine Run.u 400 E_ok mixed Tryz.func161 ?_
     refine Run.z [false] ?_
     refine Run.u 400 E_ok mixed Tryz.func161 ?_
     refine Run.z [true] ?_
     refine Run.u 400 E_ok mixed Tryz.func161 ?_
     refine Run.z [true] ?_
     refine Run.q (e := vT_I_B) (gv := vIv) (ok_impl_DivDown _ _) fun r9 _ => ?_
     refine Run.q (e := vT_I_B) (gv := vIv) (ok_impl_DivUp _ _) fun r10 _ => ?_
     refine Run.y (gv := vIv) (fun _ => ?_) (fun _ => ?_)
     ·refine Run.z [true, true, true] ?_
      refine Run.q (e := vIv) (gv := vIv) (ok_impl_Whole) fun r11 _ => ?_
      exact Run.x 0
     ·refine Run.z [false, false] ?_
      refine Run.y (gv := vIv) (fun _ => ?_) (fun _ => ?_)
      ·refine Run.q (e := vIv) (gv := vIv) (ok_impl_Whole) fun r12 _ => ?_
       exact Run.x 0
      ·refine Run.z [false] ?_
       refine Run.u 400 E_ok mixed Tryz.func161 ?_
       refine Run.z [true] ?_
       refine Run.q (e := vT_I_B) (gv := vIv) (ok_impl_DivDown _ _) fun r13 _ => ?_
       refine Run.q (e := vT_I_B) (gv := vIv) (ok_impl_DivUp _ _) fun r14 _ => ?_
       refine Run.y (gv := vIv) (fun _ => ?_) (fun _ => ?_)
       ·refine Run.z [true, true, true] ?_
        refine Run.q (e := vIv) (gv := vIv) (ok_impl_Whole) fun r15 _ => ?_
        exact Run.x 0
       ·refine Run.z [false, false] ?_
        refine Run.y (gv := vIv) (fun _ => ?_) (fun _ => ?_)
        ·refine Run.q (e := vIv) (gv := vIv) (ok_impl_Whole) fun r16 _ => ?_
         exact Run.x 0
        ·refine Run.z [false] ?_
         refine Run.u 400 E_ok mixed Tryz.func161 ?_
         refine Run.z [false] ?_
         refine Run.u 400 E_ok mixed Tryz.func161 ?_
         refine Run.z [false] ?_
         refine Run.q (e := vIv) (gv := vIv) (ok_impl_bounded _ _ _) fun r17 _ => ?_
         exact Run.x 0

theorem ok_impl_DivI (a0 : Iv) (a1 : Iv) : Fun Tryz.prog 80 [] #[vIv a0, vIv a1] (vIv (F_impl_DivI a0 a1)) [] := by
 refine Fun.ofH 400 E_ok mixed Tryz.func80 (by kernel_rfl) (by kernel_rfl) ?_
 unfold F_impl_DivI
 refine Run.q (e := vB) (gv := vIv) (ok_impl_areBounded _ _) fun r1 _ => ?_
 refine Run.y (gv := vIv) (fun _ => ?_) (fun _ => ?_)
 ·refine Run.z [true, true, true] ?_
  refine Run.q (e := vIv) (gv := vIv) (ok_impl_Whole) fun r2 _ => ?_
  exact Run.x 0
 ·refine Run.z [false] ?_
  refine Run.q (e := vB) (gv := vIv) (ok_impl_HasI _ _) fun r3 _ => ?_
  refine Run.z [false] ?_
  refine Run.y (gv := vIv) (fun _ => ?_) (fun _ => ?_)
  ·refine Run.q (e := vIv) (gv := vIv) (ok_impl_Whole) fun r4 _ => ?_
   exact Run.x 0
  ·refine Run.q (e := vIv) (gv := vIv) (ok_impl_combine__impl_DivDown__impl_DivUp _ _) fun r5 _ => ?_
   exact Run.x 0

theorem ok_impl_combine__impl_MulDown__impl_MulUp (a0 : Iv) (a1 : Iv) : Fun Tryz.prog 161 [] #[vIv a0, vIv a1, .func (.func 162) #[] #[], .func (.func 163) #[] #[]] (vIv (F_impl_combine__impl_MulDown__impl_MulUp a0 a1)) [] := by
 refine Fun.ofH 400 E_ok mixed Tryz.func161 (by kernel_rfl) (by kernel_rfl) ?_
 unfold F_impl_combine__impl_MulDown__impl_MulUp
 refine Run.u 400 E_ok mixed Tryz.func161 ?_
 refine Run.z [true] ?_
 refine Run.u 400 E_ok mixed Tryz.func161 ?_
 refine Run.z [true] ?_
 refine Run.q (e := vT_I_B) (gv := vIv) (ok_impl_MulDown _ _) fun r1 _ => ?_
 refine Run.q (e := vT_I_B) (gv := vIv) (ok_impl_MulUp _ _) fun r2 _ => ?_
 refine Run.y (gv := vIv) (fun _ => ?_) (fun _ => ?_)
 ·refine Run.z [true, true, true] ?_
  refine Run.q (e := vIv) (gv := vIv) (ok_impl_Whole) fun r3 _ => ?_
  exact Run.x 0
 ·refine Run.z [false, false] ?_
  refine Run.y (gv := vIv) (fun _ => ?_) (fun _ => ?_)
  ·refine Run.q (e := vIv) (gv := vIv) (ok_impl_Whole) fun r4 _ => ?_
   exact Run.x 0
  ·refine Run.z [true] ?_
   refine Run.u 400 E_ok mixed Tryz.func161 ?_
   refine Run.z [true] ?_
   refine Run.q (e := vT_I_B) (gv := vIv) (ok_impl_MulDown _ _) fun r5 _ => ?_
   refine Run.q (e := vT_I_B) (gv := vIv) (ok_impl_MulUp _ _) fun r6 _ => ?_
   refine Run.y (gv := vIv) (fun _ => ?_) (fun _ => ?_)
   ·refine Run.z [true, true, true] ?_
    refine Run.q (e := vIv) (gv := vIv) (ok_impl_Whole) fun r7 _ => ?_
    exact Run.x 0
   ·refine Run.z [false, false] ?_
    refine Run.y (gv := vIv) (fun _ => ?_) (fun _ => ?_)
    ·refine Run.q (e := vIv) (gv := vIv) (ok_impl_Whole) fun r8 _ => ?_
     exact Run.x 0
    ·refine Run.z [false] ?_
     refine Run.u 400 E_ok mixed Tryz.func161 ?_
     refine Run.z [false] ?_
     refine Run.u 400 E_ok mixed Tryz.func161 ?_
     refine Run.z [true] ?_
     refine Run.u 400 E_ok mixed Tryz.func161 ?_
     refine Run.z [true] ?_
     refine Run.q (e := vT_I_B) (gv := vIv) (ok_impl_MulDown _ _) fun r9 _ => ?_
     refine Run.q (e := vT_I_B) (gv := vIv) (ok_impl_MulUp _ _) fun r10 _ => ?_
     refine Run.y (gv := vIv) (fun _ => ?_) (fun _ => ?_)
     ·refine Run.z [true, true, true] ?_
      refine Run.q (e := vIv) (gv := vIv) (ok_impl_Whole) fun r11 _ => ?_
      exact Run.x 0
     ·refine Run.z [false, false] ?_
      refine Run.y (gv := vIv) (fun _ => ?_) (fun _ => ?_)
      ·refine Run.q (e := vIv) (gv := vIv) (ok_impl_Whole) fun r12 _ => ?_
       exact Run.x 0
      ·refine Run.z [false] ?_
       refine Run.u 400 E_ok mixed Tryz.func161 ?_
       refine Run.z [true] ?_
       refine Run.q (e := vT_I_B) (gv := vIv) (ok_impl_MulDown _ _) fun r13 _ => ?_
       refine Run.q (e := vT_I_B) (gv := vIv) (ok_impl_MulUp _ _) fun r14 _ => ?_
       refine Run.y (gv := vIv) (fun _ => ?_) (fun _ => ?_)
       ·refine Run.z [true, true, true] ?_
        refine Run.q (e := vIv) (gv := vIv) (ok_impl_Whole) fun r15 _ => ?_
        exact Run.x 0
       ·refine Run.z [false, false] ?_
        refine Run.y (gv := vIv) (fun _ => ?_) (fun _ => ?_)
        ·refine Run.q (e := vIv) (gv := vIv) (ok_impl_Whole) fun r16 _ => ?_
         exact Run.x 0
        ·refine Run.z [false] ?_
         refine Run.u 400 E_ok mixed Tryz.func161 ?_
         refine Run.z [false] ?_
         refine Run.u 400 E_ok mixed Tryz.func161 ?_
         refine Run.z [false] ?_
         refine Run.q (e := vIv) (gv := vIv) (ok_impl_bounded _ _ _) fun r17 _ => ?_
         exact Run.x 0

theorem ok_impl_MulI (a0 : Iv) (a1 : Iv) : Fun Tryz.prog 67 [] #[vIv a0, vIv a1] (vIv (F_impl_MulI a0 a1)) [] := by
 refine Fun.ofH 400 E_ok mixed Tryz.func67 (by kernel_rfl) (by kernel_rfl) ?_
 unfold F_impl_MulI
 refine Run.q (e := vB) (gv := vIv) (ok_impl_areBounded _ _) fun r1 _ => ?_
 refine Run.y (gv := vIv) (fun _ => ?_) (fun _ => ?_)
 ·refine Run.q (e := vIv) (gv := vIv) (ok_impl_Whole) fun r2 _ => ?_
  exact Run.x 0
 ·refine Run.q (e := vIv) (gv := vIv) (ok_impl_combine__impl_MulDown__impl_MulUp _ _) fun r3 _ => ?_
  exact Run.x 0

theorem ok_impl_series (a0 : Iv) (a1 : I64) : Fun Tryz.prog 305 [] #[vIv a0, vI a1] (vIv (F_impl_series a0 a1)) [] := by
 refine Fun.ofH 400 E_ok mixed Tryz.func305 (by kernel_rfl) (by kernel_rfl) ?_
 unfold F_impl_series
 refine Run.q (e := vIv) (gv := vIv) (ok_impl_Integer _) fun r1 _ => ?_
 refine Run.u 400 E_ok mixed Tryz.func305 ?_
 refine Run.z [true] ?_
 refine Run.q (e := vIv) (gv := vIv) (ok_impl_Integer _) fun r2 _ => ?_
 refine Run.q (e := vIv) (gv := vIv) (ok_impl_Integer _) fun r3 _ => ?_
 refine Run.q (e := vIv) (gv := vIv) (ok_impl_DivI _ _) fun r4 _ => ?_
 refine Run.q (e := vIv) (gv := vIv) (ok_impl_MulI _ _) fun r5 _ => ?_
 refine Run.q (e := vIv) (gv := vIv) (ok_impl_SubI _ _) fun r6 _ => ?_
 refine Run.u 400 E_ok mixed Tryz.func305 ?_
 refine Run.z [true] ?_
 refine Run.q (e := vIv) (gv := vIv) (ok_impl_Integer _) fun r7 _ => ?_
 refine Run.q (e := vIv) (gv := vIv) (ok_impl_Integer _) fun r8 _ => ?_
 refine Run.q (e := vIv) (gv := vIv) (ok_impl_DivI _ _) fun r9 _ => ?_
 refine Run.q (e := vIv) (gv := vIv) (ok_impl_MulI _ _) fun r10 _ => ?_
 refine Run.q (e := vIv) (gv := vIv) (ok_impl_SubI _ _) fun r11 _ => ?_
 refine Run.u 400 E_ok mixed Tryz.func305 ?_
 refine Run.z [true] ?_
 refine Run.q (e := vIv) (gv := vIv) (ok_impl_Integer _) fun r12 _ => ?_
 refine Run.q (e := vIv) (gv := vIv) (ok_impl_Integer _) fun r13 _ => ?_
 refine Run.q (e := vIv) (gv := vIv) (ok_impl_DivI _ _) fun r14 _ => ?_
 refine Run.q (e := vIv) (gv := vIv) (ok_impl_MulI _ _) fun r15 _ => ?_
 refine Run.q (e := vIv) (gv := vIv) (ok_impl_SubI _ _) fun r16 _ => ?_
 refine Run.u 400 E_ok mixed Tryz.func305 ?_
 refine Run.z [true] ?_
 refine Run.q (e := vIv) (gv := vIv) (ok_impl_Integer _) fun r17 _ => ?_
 refine Run.q (e := vIv) (gv := vIv) (ok_impl_Integer _) fun r18 _ => ?_
 refine Run.q (e := vIv) (gv := vIv) (ok_impl_DivI _ _) fun r19 _ => ?_
 refine Run.q (e := vIv) (gv := vIv) (ok_impl_MulI _ _) fun r20 _ => ?_
 refine Run.q (e := vIv) (gv := vIv) (ok_impl_SubI _ _) fun r21 _ => ?_
 refine Run.u 400 E_ok mixed Tryz.func305 ?_
 refine Run.z [true] ?_
 refine Run.q (e := vIv) (gv := vIv) (ok_impl_Integer _) fun r22 _ => ?_
 refine Run.q (e := vIv) (gv := vIv) (ok_impl_Integer _) fun r23 _ => ?_
 refine Run.q (e := vIv) (gv := vIv) (ok_impl_DivI _ _) fun r24 _ => ?_
 refine Run.q (e := vIv) (gv := vIv) (ok_impl_MulI _ _) fun r25 _ => ?_
 refine Run.q (e := vIv) (gv := vIv) (ok_impl_SubI _ _) fun r26 _ => ?_
 refine Run.u 400 E_ok mixed Tryz.func305 ?_
 refine Run.z [true] ?_
 refine Run.q (e := vIv) (gv := vIv) (ok_impl_Integer _) fun r27 _ => ?_
 refine Run.q (e := vIv) (gv := vIv) (ok_impl_Integer _) fun r28 _ => ?_
 refine Run.q (e := vIv) (gv := vIv) (ok_impl_DivI _ _) fun r29 _ => ?_
 refine Run.q (e := vIv) (gv := vIv) (ok_impl_MulI _ _) fun r30 _ => ?_
 refine Run.q (e := vIv) (gv := vIv) (ok_impl_SubI _ _) fun r31 _ => ?_
 refine Run.u 400 E_ok mixed Tryz.func305 ?_
 refine Run.z [true] ?_
 refine Run.q (e := vIv) (gv := vIv) (ok_impl_Integer _) fun r32 _ => ?_
 refine Run.q (e := vIv) (gv := vIv) (ok_impl_Integer _) fun r33 _ => ?_
 refine Run.q (e := vIv) (gv := vIv) (ok_impl_DivI _ _) fun r34 _ => ?_
 refine Run.q (e := vIv) (gv := vIv) (ok_impl_MulI _ _) fun r35 _ => ?_
 refine Run.q (e := vIv) (gv := vIv) (ok_impl_SubI _ _) fun r36 _ => ?_
 refine Run.u 400 E_ok mixed Tryz.func305 ?_
 refine Run.z [true] ?_
 refine Run.q (e := vIv) (gv := vIv) (ok_impl_Integer _) fun r37 _ => ?_
 refine Run.q (e := vIv) (gv := vIv) (ok_impl_Integer _) fun r38 _ => ?_
 refine Run.q (e := vIv) (gv := vIv) (ok_impl_DivI _ _) fun r39 _ => ?_
 refine Run.q (e := vIv) (gv := vIv) (ok_impl_MulI _ _) fun r40 _ => ?_
 refine Run.q (e := vIv) (gv := vIv) (ok_impl_SubI _ _) fun r41 _ => ?_
 refine Run.u 400 E_ok mixed Tryz.func305 ?_
 refine Run.z [false] ?_
 exact Run.x 0

theorem ok_impl_tiny : Fun Tryz.prog 306 [] #[] (vIv (F_impl_tiny)) [] := by
 refine Fun.ofH 400 E_ok mixed Tryz.func306 (by kernel_rfl) (by kernel_rfl) ?_
 unfold F_impl_tiny
 exact Run.x 0

theorem ok_impl_SinSeries (a0 : Iv) : Fun Tryz.prog 281 [] #[vIv a0] (vIv (F_impl_SinSeries a0)) [] := by
 refine Fun.ofH 400 E_ok mixed Tryz.func281 (by kernel_rfl) (by kernel_rfl) ?_
 unfold F_impl_SinSeries
 refine Run.q (e := vIv) (gv := vIv) (ok_impl_ring) fun r1 _ => ?_
 refine Run.q (e := vB) (gv := vIv) (ok_impl_InsideI _ _) fun r2 _ => ?_
 refine Run.y (gv := vIv) (fun _ => ?_) (fun _ => ?_)
 ·refine Run.q (e := vIv) (gv := vIv) (ok_impl_Whole) fun r3 _ => ?_
  exact Run.x 0
 ·refine Run.q (e := vIv) (gv := vIv) (ok_impl_SqrI _) fun r4 _ => ?_
  refine Run.q (e := vIv) (gv := vIv) (ok_impl_series _ _) fun r5 _ => ?_
  refine Run.q (e := vIv) (gv := vIv) (ok_impl_MulI _ _) fun r6 _ => ?_
  refine Run.q (e := vIv) (gv := vIv) (ok_impl_tiny) fun r7 _ => ?_
  refine Run.q (e := vIv) (gv := vIv) (ok_impl_AddI _ _) fun r8 _ => ?_
  exact Run.x 0

theorem ok_impl_MeetI (a0 : Iv) (a1 : Iv) : Fun Tryz.prog 222 [] #[vIv a0, vIv a1] (vT_Iv_B (F_impl_MeetI a0 a1)) [] := by
 refine Fun.ofH 400 E_ok mixed Tryz.func222 (by kernel_rfl) (by kernel_rfl) ?_
 unfold F_impl_MeetI
 refine Run.q (e := vB) (gv := vT_Iv_B) (ok_impl_IsWhole _) fun r1 _ => ?_
 refine Run.y (gv := vT_Iv_B) (fun _ => ?_) (fun _ => ?_)
 ·refine Run.z [true] ?_
  refine Run.q (e := vB) (gv := vT_Iv_B) (ok_impl_IsWhole _) fun r2 _ => ?_
  refine Run.z [true] ?_
  refine Run.y (gv := vT_Iv_B) (fun _ => ?_) (fun _ => ?_)
  ·refine Run.q (e := vIv) (gv := vT_Iv_B) (ok_impl_Whole) fun r3 _ => ?_
   exact Run.x 0
  ·refine Run.q (e := vB) (gv := vT_Iv_B) (ok_impl_IsWhole _) fun r4 _ => ?_
   refine Run.y (gv := vT_Iv_B) (fun _ => ?_) (fun _ => ?_)
   ·exact Run.x 0
   ·refine Run.q (e := vB) (gv := vT_Iv_B) (ok_impl_IsWhole _) fun r5 _ => ?_
    refine Run.y (gv := vT_Iv_B) (fun _ => ?_) (fun _ => ?_)
    ·exact Run.x 0
    ·refine Run.y (gv := vT_Iv_B) (fun _ => ?_) (fun _ => ?_)
     ·exact Run.x 0
     ·exact Run.x 0
 ·refine Run.z [false, false, false] ?_
  refine Run.q (e := vB) (gv := vT_Iv_B) (ok_impl_IsWhole _) fun r6 _ => ?_
  refine Run.y (gv := vT_Iv_B) (fun _ => ?_) (fun _ => ?_)
  ·exact Run.x 0
  ·refine Run.q (e := vB) (gv := vT_Iv_B) (ok_impl_IsWhole _) fun r7 _ => ?_
   refine Run.y (gv := vT_Iv_B) (fun _ => ?_) (fun _ => ?_)
   ·exact Run.x 0
   ·refine Run.y (gv := vT_Iv_B) (fun _ => ?_) (fun _ => ?_)
    ·exact Run.x 0
    ·exact Run.x 0

theorem ok_impl_inRing (a0 : Iv) : Fun Tryz.prog 280 [] #[vIv a0] (vIv (F_impl_inRing a0)) [] := by
 refine Fun.ofH 400 E_ok mixed Tryz.func280 (by kernel_rfl) (by kernel_rfl) ?_
 unfold F_impl_inRing
 refine Run.q (e := vIv) (gv := vIv) (ok_impl_ring) fun r1 _ => ?_
 refine Run.q (e := vT_Iv_B) (gv := vIv) (ok_impl_MeetI _ _) fun r2 _ => ?_
 exact Run.x 0

theorem ok_impl_CosSeries (a0 : Iv) : Fun Tryz.prog 282 [] #[vIv a0] (vIv (F_impl_CosSeries a0)) [] := by
 refine Fun.ofH 400 E_ok mixed Tryz.func282 (by kernel_rfl) (by kernel_rfl) ?_
 unfold F_impl_CosSeries
 refine Run.q (e := vIv) (gv := vIv) (ok_impl_ring) fun r1 _ => ?_
 refine Run.q (e := vB) (gv := vIv) (ok_impl_InsideI _ _) fun r2 _ => ?_
 refine Run.y (gv := vIv) (fun _ => ?_) (fun _ => ?_)
 ·refine Run.q (e := vIv) (gv := vIv) (ok_impl_Whole) fun r3 _ => ?_
  exact Run.x 0
 ·refine Run.q (e := vIv) (gv := vIv) (ok_impl_SqrI _) fun r4 _ => ?_
  refine Run.q (e := vIv) (gv := vIv) (ok_impl_series _ _) fun r5 _ => ?_
  refine Run.q (e := vIv) (gv := vIv) (ok_impl_tiny) fun r6 _ => ?_
  refine Run.q (e := vIv) (gv := vIv) (ok_impl_AddI _ _) fun r7 _ => ?_
  exact Run.x 0

theorem ok_impl_circleValue (a0 : I64) (a1 : I64) : Fun Tryz.prog 233 [] #[vI a0, vI a1] (vIv (F_impl_circleValue a0 a1)) [] := by
 refine Fun.ofH 400 E_ok mixed Tryz.func233 (by kernel_rfl) (by kernel_rfl) ?_
 unfold F_impl_circleValue
 refine Run.q (e := vB) (gv := vIv) (ok_impl_isAngle _) fun r1 _ => ?_
 refine Run.y (gv := vIv) (fun _ => ?_) (fun _ => ?_)
 ·refine Run.q (e := vIv) (gv := vIv) (ok_impl_ring) fun r2 _ => ?_
  exact Run.x 0
 ·refine Run.q (e := vI) (gv := vIv) (ok_impl_QuarterOf _) fun r3 _ => ?_
  refine Run.q (e := vIv) (gv := vIv) (ok_impl_at _) fun r4 _ => ?_
  refine Run.q (e := vIv) (gv := vIv) (ok_impl_TurnI _) fun r5 _ => ?_
  refine Run.q (e := vIv) (gv := vIv) (ok_impl_SubI _ _) fun r6 _ => ?_
  refine Run.y (gv := vIv) (fun _ => ?_) (fun _ => ?_)
  ·refine Run.q (e := vIv) (gv := vIv) (ok_impl_SinSeries _) fun r7 _ => ?_
   refine Run.q (e := vIv) (gv := vIv) (ok_impl_inRing _) fun r8 _ => ?_
   exact Run.x 0
  ·refine Run.y (gv := vIv) (fun _ => ?_) (fun _ => ?_)
   ·refine Run.q (e := vIv) (gv := vIv) (ok_impl_CosSeries _) fun r9 _ => ?_
    refine Run.q (e := vIv) (gv := vIv) (ok_impl_inRing _) fun r10 _ => ?_
    exact Run.x 0
   ·refine Run.y (gv := vIv) (fun _ => ?_) (fun _ => ?_)
    ·refine Run.q (e := vIv) (gv := vIv) (ok_impl_SinSeries _) fun r11 _ => ?_
     refine Run.q (e := vIv) (gv := vIv) (ok_impl_NegI _) fun r12 _ => ?_
     refine Run.q (e := vIv) (gv := vIv) (ok_impl_inRing _) fun r13 _ => ?_
     exact Run.x 0
    ·refine Run.q (e := vIv) (gv := vIv) (ok_impl_CosSeries _) fun r14 _ => ?_
     refine Run.q (e := vIv) (gv := vIv) (ok_impl_NegI _) fun r15 _ => ?_
     refine Run.q (e := vIv) (gv := vIv) (ok_impl_inRing _) fun r16 _ => ?_
     exact Run.x 0

theorem ok_impl_HullI (a0 : Iv) (a1 : Iv) : Fun Tryz.prog 110 [] #[vIv a0, vIv a1] (vIv (F_impl_HullI a0 a1)) [] := by
 refine Fun.ofH 400 E_ok mixed Tryz.func110 (by kernel_rfl) (by kernel_rfl) ?_
 unfold F_impl_HullI
 refine Run.q (e := vB) (gv := vIv) (ok_impl_areBounded _ _) fun r1 _ => ?_
 refine Run.y (gv := vIv) (fun _ => ?_) (fun _ => ?_)
 ·refine Run.q (e := vIv) (gv := vIv) (ok_impl_Whole) fun r2 _ => ?_
  exact Run.x 0
 ·exact Run.x 0

theorem ok_impl_OverlapI (a0 : Iv) (a1 : Iv) : Fun Tryz.prog 171 [] #[vIv a0, vIv a1] (vB (F_impl_OverlapI a0 a1)) [] := by
 refine Fun.ofH 400 E_ok mixed Tryz.func171 (by kernel_rfl) (by kernel_rfl) ?_
 unfold F_impl_OverlapI
 refine Run.q (e := vT_Iv_B) (gv := vB) (ok_impl_MeetI _ _) fun r1 _ => ?_
 exact Run.x 0

theorem len_impl_turnsIn_L0 (a0 : Iv) : ∀ (fu : Nat) (x_k : I64) (acc : List I64), (F_impl_turnsIn_L0 fu a0 x_k acc).length ≤ acc.length + fu := by
 intro fu
 induction fu with
 | zero => intro x_k acc; exact Nat.le_refl _
 | succ fu ih =>
  intro x_k acc
  unfold F_impl_turnsIn_L0
  simp only [bindP]
  have h1 := ih (w64 (x_k.val + 1)) (acc ++ [x_k])
  have h2 := ih (w64 (x_k.val + 1)) acc
  rw [List.length_append] at h1
  simp only [List.length_cons, List.length_nil] at h1
  cases decide (x_k.val ≤ (w64 ((F_impl_QuarterOf a0.hi).val + 1)).val)
  ·rw [cond_false]; omega
  ·rw [cond_true]
   cases F_impl_OverlapI (F_impl_TurnI x_k) a0
   ·rw [cond_false]; omega
   ·rw [cond_true]; omega
theorem len_impl_turnsIn (a0 : Iv) : (F_impl_turnsIn a0).length ≤ 4000 := by
 have qb := impl_quarter_bounds a0.lo
 unfold F_impl_turnsIn
 simp only [bindP]
 have := len_impl_turnsIn_L0 a0 ((2000 - (w64 ((F_impl_QuarterOf a0.lo).val - 1)).val).toNat + 1) (w64 ((F_impl_QuarterOf a0.lo).val - 1)) []
 have e1 : (w64 ((F_impl_QuarterOf a0.lo).val - 1)).val = (F_impl_QuarterOf a0.lo).val - 1 := by rw [w64_val]; omega
 simp only [List.length_nil, Nat.zero_add] at this
 refine Nat.le_trans this ?_
 omega
theorem ok_impl_turnsIn_L0 (a0 : Iv) : ∀ (fu : Nat) (x_k : I64) (acc : List I64) (v : Value) (X : List Blk) (hv : LS 2 acc v ((#[.int .i64 a0.lo.val, .int .i64 a0.hi.val], 31) :: X)) (hm : (2000 - x_k.val).toNat < fu) (hk : -1100 ≤ x_k.val) (hlen : (acc.length : Int) ≤ x_k.val + 1100)
  (t : Array Value) (ht : maskA t [0, 2, 5, 6, 7, 8, 9, 10, 11, 12, 13, 14, 15, 16, 17, 18, 19, 20, 21, 22, 23, 24, 25] = #[undef, .pointer (some ⟨0, 0, none⟩), undef, v, .int .i64 x_k.val, undef, undef, undef, undef, undef, undef, undef, undef, undef, undef, undef, undef, undef, undef, undef, undef, undef, undef, undef, undef, undef]),
  Cfg Tryz.prog 234 (loopAt Tryz.f234 0) t ((#[.int .i64 a0.lo.val, .int .i64 a0.hi.val], 31) :: X) (LS 2 (F_impl_turnsIn_L0 fu a0 x_k acc)) := by
 intro fu
 induction fu with
 | zero => intro x_k acc v X hv hm; exact absurd hm (Nat.not_lt_zero _)
 | succ fu ih =>
  intro x_k acc v X hv hm hk hlen t ht
  refine Cfg.round E_ok mixed Tryz.func234 ht fun q => ?_
  unfold F_impl_turnsIn_L0
  have qb := impl_quarter_bounds a0.hi
  refine Run.c (by kernel_rfl) (by kernel_rfl) (ok_impl_QuarterOf a0.hi) rfl ?_
  simp only [bindP]
  generalize F_impl_QuarterOf a0.hi = r1 at *
  refine Run.i (c := decide (x_k.val ≤ (w64 (r1.val + 1)).val)) (by kernel_rfl) (fun h1 => ?_) (fun h1 => ?_)
  ·rw [h1, cond_true]
   simp only [w64_val, decide_eq_true_eq] at h1
   refine Run.c (by kernel_rfl) (by kernel_rfl) (ok_impl_TurnI x_k) rfl ?_
   generalize F_impl_TurnI x_k = r2
   refine Run.c (by kernel_rfl) (by kernel_rfl) (ok_impl_OverlapI r2 a0) rfl ?_
   generalize F_impl_OverlapI r2 a0 = r3
   have e1 : (w64 (x_k.val + 1)).val = x_k.val + 1 := by rw [w64_val]; omega
   refine Run.i (c := r3) (by kernel_rfl) (fun h2 => ?_) (fun h2 => ?_)
   ·rw [h2, cond_true]
    refine Run.h (td := appAt Tryz.f234 0) (H := (#[.int .i64 a0.lo.val, .int .i64 a0.hi.val], 31) :: X) (by kernel_rfl) (by kernel_rfl) rfl (by kernel_rfl) ?_
    refine Cfg.app (T := 97) (e := 2) (d1 := 21) (d2 := 22) (d3 := 23) (d4 := 24) (s := 3) (x := 4) (L := acc) (v := v) (z := x_k) (by kernel_rfl) (by kernel_rfl) (by kernel_rfl) (by kernel_rfl) (by decide) (by kernel_rfl) (by kernel_rfl) (by kernel_rfl) hv (by omega) fun v4 H4 hv4 hs4 => ?_
    obtain ⟨X4, rfl⟩ := head_same hs4 (show (31 : Nat) ≠ 2 by decide)
    refine exec_cfg E_ok mixed Tryz.func234 400 _ _ _ _ ?_
    exact Run.l (by kernel_rfl) (by kernel_rfl) (by kernel_rfl) (by kernel_rfl) (ih (w64 (x_k.val + 1)) (acc ++ [x_k]) v4 X4 hv4 (by omega) (by omega) (by rw [List.length_append]; simp only [List.length_cons, List.length_nil]; omega))
   ·rw [h2, cond_false]
    exact Run.l (by kernel_rfl) (by kernel_rfl) (by kernel_rfl) (by kernel_rfl) (ih (w64 (x_k.val + 1)) acc v X hv (by omega) (by omega) (by omega))
  ·rw [h1, cond_false]
   exact Run.rl (v := v) (by kernel_rfl) (by kernel_rfl) hv
theorem ok_impl_turnsIn (a0 : Iv) : FunR Tryz.prog 234 [] #[vIv a0] (Lone 2 (F_impl_turnsIn a0)) := by
 refine FunR.lone (FunR.of 400 E_ok mixed Tryz.func234 (by kernel_rfl) ?_)
 unfold F_impl_turnsIn
 have qb := impl_quarter_bounds a0.lo
 refine Run.c (by kernel_rfl) (by kernel_rfl) (ok_impl_QuarterOf a0.lo) rfl ?_
 simp only [bindP]
 generalize F_impl_QuarterOf a0.lo = r1 at *
 have e1 : (w64 (r1.val - 1)).val = r1.val - 1 := by rw [w64_val]; omega
 exact Run.l (by kernel_rfl) (by kernel_rfl) (by kernel_rfl) (by kernel_rfl) (ok_impl_turnsIn_L0 a0 _ (w64 (r1.val - 1)) [] (.slice none 0 0) [] (.inl ⟨rfl, rfl⟩) (by omega) (by omega) (by simp only [List.length_nil]; omega))

theorem ok_impl_circleHull_L0 : ∀ (fu : Nat) (cp_r7 : Nat) (pd_r7 : List Value) (a1 : I64) (r7 : List I64) (a0 : Iv) (x_24 : I64) (y_2 : Iv) (q0 : 0 ≤ x_24.val) (q1 : ((r7.length : Nat) : Int) ≤ 4000) (hm : (((r7.length : Nat) : Int) - x_24.val).toNat < fu) (t : Array Value) (ht : maskA t [0, 2, 3, 6, 7, 8, 9, 10, 11, 12, 13, 14, 15, 16, 17, 18, 19, 20, 21, 25, 26, 27, 28, 29, 30, 31, 32, 33, 34, 35, 36, 37, 38, 39, 40, 41, 42, 43] = #[undef, .int .i64 a1.val, undef, undef, .pointer (some ⟨1, 0, none⟩), .pointer (some ⟨2, 0, none⟩), undef, undef, undef, undef, undef, undef, undef, undef, undef, undef, undef, undef, undef, undef, undef, undef, .slice (some ⟨3, 0, some 0⟩) r7.length cp_r7, .int .i64 (((r7.length : Nat) : Int)), .int .i64 x_24.val, undef, undef, undef, undef, undef, undef, undef, undef, undef, undef, undef, undef, undef, undef, undef, undef, undef, undef, undef]), Cfg Tryz.prog 165 (loopAt Tryz.f165 0) t [(#[.int .i64 a0.lo.val, .int .i64 a0.hi.val], 31), (#[.int .i64 0, .int .i64 0], 31), (#[.int .i64 y_2.lo.val, .int .i64 y_2.hi.val], 31), (rowOf r7 pd_r7, 2)] (RvH [] (vIv (F_impl_circleHull_L0 fu a1 r7 a0 x_24 y_2))) := by
 intro fu
 induction fu with
 | zero => intro cp_r7 pd_r7 a1 r7 a0 x_24 y_2 q0 q1 hm; exact absurd hm (Nat.not_lt_zero _)
 | succ fu ih =>
  intro cp_r7 pd_r7 a1 r7 a0 x_24 y_2 q0 q1 hm t ht
  refine Cfg.round E_ok mixed Tryz.func165 ht fun g => ?_
  unfold F_impl_circleHull_L0
  refine Run.y (gv := vIv) (fun h8 => ?_) (fun h8 => ?_)
  ·refine Run.k (c := (decide (0 ≤ x_24.val ∧ x_24.val < ((r7.length : Nat) : Int)))) (by kernel_rfl) (by simp only [w64_val, wu64_val, c64_val, cu64_val, decide_eq_true_eq, decide_eq_false_iff_not, cond_true, cond_false] at *; omega) ?_
   refine Run.ld (by kernel_rfl) (listAt_ok (L := r7) (pad := pd_r7) (i := x_24) (by simp only [w64_val, wu64_val, c64_val, cu64_val, decide_eq_true_eq, decide_eq_false_iff_not, cond_true, cond_false] at *; omega)) ?_
   refine Run.y (gv := vIv) (fun h9 => ?_) (fun h9 => ?_)
   ·refine Run.q (e := vIv) (gv := vIv) (ok_impl_Integer _) fun r10 hr10 => ?_
    refine Run.q (e := vIv) (gv := vIv) (ok_impl_HullI _ _) fun r11 hr11 => ?_
    exact Run.l (by kernel_rfl) (by kernel_rfl) (by kernel_rfl) (by kernel_rfl) (ih cp_r7 pd_r7 a1 r7 a0 (w64 (x_24.val + 1)) r11 (by first | omega | (simp only [w64_val, wu64_val, c64_val, cu64_val, decide_eq_true_eq, decide_eq_false_iff_not, cond_true, cond_false] at *; omega)) (by first | omega | (simp only [w64_val, wu64_val, c64_val, cu64_val, decide_eq_true_eq, decide_eq_false_iff_not, cond_true, cond_false] at *; omega)) (by first | omega | (simp only [w64_val, wu64_val, c64_val, cu64_val, decide_eq_true_eq, decide_eq_false_iff_not, cond_true, cond_false] at *; omega)))
   ·refine Run.y (gv := vIv) (fun h12 => ?_) (fun h12 => ?_)
    ·refine Run.q (e := vIv) (gv := vIv) (ok_impl_Integer _) fun r13 hr13 => ?_
     refine Run.q (e := vIv) (gv := vIv) (ok_impl_HullI _ _) fun r14 hr14 => ?_
     exact Run.l (by kernel_rfl) (by kernel_rfl) (by kernel_rfl) (by kernel_rfl) (ih cp_r7 pd_r7 a1 r7 a0 (w64 (x_24.val + 1)) r14 (by first | omega | (simp only [w64_val, wu64_val, c64_val, cu64_val, decide_eq_true_eq, decide_eq_false_iff_not, cond_true, cond_false] at *; omega)) (by first | omega | (simp only [w64_val, wu64_val, c64_val, cu64_val, decide_eq_true_eq, decide_eq_false_iff_not, cond_true, cond_false] at *; omega)) (by first | omega | (simp only [w64_val, wu64_val, c64_val, cu64_val, decide_eq_true_eq, decide_eq_false_iff_not, cond_true, cond_false] at *; omega)))
    ·exact Run.l (by kernel_rfl) (by kernel_rfl) (by kernel_rfl) (by kernel_rfl) (ih cp_r7 pd_r7 a1 r7 a0 (w64 (x_24.val + 1)) y_2 (by first | omega | (simp only [w64_val, wu64_val, c64_val, cu64_val, decide_eq_true_eq, decide_eq_false_iff_not, cond_true, cond_false] at *; omega)) (by first | omega | (simp only [w64_val, wu64_val, c64_val, cu64_val, decide_eq_true_eq, decide_eq_false_iff_not, cond_true, cond_false] at *; omega)) (by first | omega | (simp only [w64_val, wu64_val, c64_val, cu64_val, decide_eq_true_eq, decide_eq_false_iff_not, cond_true, cond_false] at *; omega)))
  ·exact Run.x 0

theorem ok_impl_circleHull (a0 : Iv) (a1 : I64) : Fun Tryz.prog 165 [] #[vIv a0, vI a1] (vIv (F_impl_circleHull a0 a1)) [] := by
 refine Fun.ofH 400 E_ok mixed Tryz.func165 (by kernel_rfl) (by kernel_rfl) ?_
 unfold F_impl_circleHull
 refine Run.q (e := vB) (gv := vIv) (ok_impl_areAngles _) fun r1 hr1 => ?_
 refine Run.y (gv := vIv) (fun h2 => ?_) (fun h2 => ?_)
 ·refine Run.q (e := vIv) (gv := vIv) (ok_impl_ring) fun r3 hr3 => ?_
  exact Run.x 0
 ·refine Run.q (e := vIv) (gv := vIv) (ok_impl_circleValue _ _) fun r4 hr4 => ?_
  refine Run.q (e := vIv) (gv := vIv) (ok_impl_circleValue _ _) fun r5 hr5 => ?_
  refine Run.q (e := vIv) (gv := vIv) (ok_impl_HullI _ _) fun r6 hr6 => ?_
  refine Run.bl (gv := vIv) (by kernel_rfl) (by kernel_rfl) (ok_impl_turnsIn _) (by kernel_rfl) (fun r7 hr7 nr7 => ?_) (fun r7 hr7 cp_r7 pd_r7 => ?_)
  ·subst nr7
   have e0 : F_impl_circleHull_L0 (((([] : List I64).length : Nat) : Int).toNat + 1) a1 ([] : List I64) a0 (c64 0) r6 = r6 := by rw [F_impl_circleHull_L0]; exact cond_false _ _
   show Run _ _ (RvH [] (vIv (F_impl_circleHull_L0 (((([] : List I64).length : Nat) : Int).toNat + 1) a1 ([] : List I64) a0 (c64 0) r6))) _
   rw [e0]
   refine Run.u 400 E_ok mixed Tryz.func165 ?_
   refine Run.z [false] ?_
   exact Run.x 0
  ·have hl_r7 : ((r7.length : Nat) : Int) ≤ 4000 := by rw [hr7]; exact Int.ofNat_le.2 (len_impl_turnsIn _)
   exact Run.l (by kernel_rfl) (by kernel_rfl) (by kernel_rfl) (by kernel_rfl) (ok_impl_circleHull_L0 (((r7.length : Nat) : Int).toNat + 1) cp_r7 pd_r7 a1 r7 a0 (c64 0) r6 (by first | omega | (simp only [w64_val, wu64_val, c64_val, cu64_val, decide_eq_true_eq, decide_eq_false_iff_not, cond_true, cond_false] at *; omega)) (by first | omega | (simp only [w64_val, wu64_val, c64_val, cu64_val, decide_eq_true_eq, decide_eq_false_iff_not, cond_true, cond_false] at *; omega)) (by first | omega | (simp only [w64_val, wu64_val, c64_val, cu64_val, decide_eq_true_eq, decide_eq_false_iff_not, cond_true, cond_false] at *; omega)))

theorem ok_impl_CosI (a0 : Iv) : Fun Tryz.prog 72 [] #[vIv a0] (vIv (F_impl_CosI a0)) [] := by
 refine Fun.ofH 400 E_ok mixed Tryz.func72 (by kernel_rfl) (by kernel_rfl) ?_
 unfold F_impl_CosI
 refine Run.q (e := vIv) (gv := vIv) (ok_impl_circleHull _ _) fun r1 _ => ?_
 exact Run.x 0

theorem ok_impl_SinI (a0 : Iv) : Fun Tryz.prog 70 [] #[vIv a0] (vIv (F_impl_SinI a0)) [] := by
 refine Fun.ofH 400 E_ok mixed Tryz.func70 (by kernel_rfl) (by kernel_rfl) ?_
 unfold F_impl_SinI
 refine Run.q (e := vIv) (gv := vIv) (ok_impl_circleHull _ _) fun r1 _ => ?_
 exact Run.x 0

theorem ok_impl_localOf (a0 : Iv) (a1 : Iv) (a2 : Iv) : Fun Tryz.prog 117 [] #[vIv a0, vIv a1, vIv a2] (vVc (F_impl_localOf a0 a1 a2)) [] := by
 refine Fun.ofH 400 E_ok mixed Tryz.func117 (by kernel_rfl) (by kernel_rfl) ?_
 unfold F_impl_localOf
 refine Run.q (e := vIv) (gv := vVc) (ok_impl_CosI _) fun r1 _ => ?_
 refine Run.q (e := vIv) (gv := vVc) (ok_impl_SinI _) fun r2 _ => ?_
 refine Run.q (e := vIv) (gv := vVc) (ok_impl_MulI _ _) fun r3 _ => ?_
 refine Run.q (e := vIv) (gv := vVc) (ok_impl_CosI _) fun r4 _ => ?_
 refine Run.q (e := vIv) (gv := vVc) (ok_impl_SinI _) fun r5 _ => ?_
 refine Run.q (e := vIv) (gv := vVc) (ok_impl_MulI _ _) fun r6 _ => ?_
 refine Run.q (e := vIv) (gv := vVc) (ok_impl_SinI _) fun r7 _ => ?_
 refine Run.q (e := vIv) (gv := vVc) (ok_impl_CosI _) fun r8 _ => ?_
 refine Run.q (e := vIv) (gv := vVc) (ok_impl_MulI _ _) fun r9 _ => ?_
 refine Run.q (e := vIv) (gv := vVc) (ok_impl_CosI _) fun r10 _ => ?_
 refine Run.q (e := vIv) (gv := vVc) (ok_impl_MulI _ _) fun r11 _ => ?_
 refine Run.q (e := vIv) (gv := vVc) (ok_impl_SubI _ _) fun r12 _ => ?_
 refine Run.q (e := vIv) (gv := vVc) (ok_impl_SinI _) fun r13 _ => ?_
 refine Run.q (e := vIv) (gv := vVc) (ok_impl_SinI _) fun r14 _ => ?_
 refine Run.q (e := vIv) (gv := vVc) (ok_impl_MulI _ _) fun r15 _ => ?_
 refine Run.q (e := vIv) (gv := vVc) (ok_impl_CosI _) fun r16 _ => ?_
 refine Run.q (e := vIv) (gv := vVc) (ok_impl_CosI _) fun r17 _ => ?_
 refine Run.q (e := vIv) (gv := vVc) (ok_impl_MulI _ _) fun r18 _ => ?_
 refine Run.q (e := vIv) (gv := vVc) (ok_impl_CosI _) fun r19 _ => ?_
 refine Run.q (e := vIv) (gv := vVc) (ok_impl_MulI _ _) fun r20 _ => ?_
 refine Run.q (e := vIv) (gv := vVc) (ok_impl_AddI _ _) fun r21 _ => ?_
 exact Run.x 0

theorem ok_impl_isOpen (a0 : I64) : Fun Tryz.prog 237 [] #[vI a0] (vB (F_impl_isOpen a0)) [] := by
 refine Fun.ofH 400 E_ok mixed Tryz.func237 (by kernel_rfl) (by kernel_rfl) ?_
 unfold F_impl_isOpen
 refine Run.y (gv := vB) (fun _ => ?_) (fun _ => ?_)
 ·refine Run.z [true, true] ?_
  exact Run.x 0
 ·refine Run.z [false, false] ?_
  exact Run.x 0

theorem ok_impl_halfCircle : Fun Tryz.prog 198 [] #[] (vIv (F_impl_halfCircle)) [] := by
 refine Fun.ofH 400 E_ok mixed Tryz.func198 (by kernel_rfl) (by kernel_rfl) ?_
 unfold F_impl_halfCircle
 refine Run.q (e := vIv) (gv := vIv) (ok_impl_TurnI _) fun r1 _ => ?_
 refine Run.q (e := vIv) (gv := vIv) (ok_impl_TurnI _) fun r2 _ => ?_
 exact Run.x 0

theorem ok_impl_WideSqrt_L0 : ∀ (fu : Nat) (a0 : Wd) (x_root : U64) (x_i : I64) (q0 : x_i.val ≤ 63) (hm : (x_i.val + 1).toNat < fu) (t : Array Value) (ht : maskA t [0, 6, 7, 8, 9, 10, 11, 12, 13, 14, 15, 16, 17, 18, 19, 20, 21, 22, 23, 24, 25, 26, 27, 28, 29, 30, 31, 32, 33, 34, 35, 36, 37, 38, 39, 40, 41, 42, 43, 44, 45] = #[undef, .pointer (some ⟨0, 0, none⟩), .int .u64 0, .bool false, .int .u64 x_root.val, .int .i64 x_i.val, undef, undef, undef, undef, undef, undef, undef, undef, undef, undef, undef, undef, undef, undef, undef, undef, undef, undef, undef, undef, undef, undef, undef, undef, undef, undef, undef, undef, undef, undef, undef, undef, undef, undef, undef, undef, undef, undef, undef, undef]), Cfg Tryz.prog 261 (loopAt Tryz.f261 0) t [(#[.int .i64 a0.hi.val, .int .u64 a0.lo.val], 121)] (RvH [] (vT_U_B (F_impl_WideSqrt_L0 fu a0 x_root x_i))) := by
 intro fu
 induction fu with
 | zero => intro a0 x_root x_i q0 hm; exact absurd hm (Nat.not_lt_zero _)
 | succ fu ih =>
  intro a0 x_root x_i q0 hm t ht
  refine Cfg.round E_ok mixed Tryz.func261 ht fun g => ?_
  unfold F_impl_WideSqrt_L0
  refine Run.y (gv := vT_U_B) (fun h2 => ?_) (fun h2 => ?_)
  ·refine Run.k (c := (decide (0 ≤ x_i.val))) (by kernel_rfl) (by simp only [w64_val, wu64_val, c64_val, cu64_val, decide_eq_true_eq] at *; omega) ?_
   refine Run.q (e := vT_U_U) (gv := vT_U_B) (ok_bits_Mul64 _ _) fun r3 hr3 => ?_
   refine Run.y (gv := vT_U_B) (fun h4 => ?_) (fun h4 => ?_)
   ·refine Run.z [true, true, true, true, true, true, true, true] ?_
    exact Run.l (by kernel_rfl) (by kernel_rfl) (by kernel_rfl) (by kernel_rfl) (ih a0 (ior .u64 x_root.val (ishl .u64 1 x_i.val).val) (w64 (x_i.val - 1)) (by have q1 := x_i.lo; simp only [w64_val, wu64_val, c64_val, cu64_val, decide_eq_true_eq] at *; omega) (by have q1 := x_i.lo; simp only [w64_val, wu64_val, c64_val, cu64_val, decide_eq_true_eq] at *; omega))
   ·refine Run.z [false, false, false, false, false] ?_
    refine Run.y (gv := vT_U_B) (fun h5 => ?_) (fun h5 => ?_)
    ·refine Run.z [true, true, true, false, true, false] ?_
     refine Run.y (gv := vT_U_B) (fun h6 => ?_) (fun h6 => ?_)
     ·exact Run.l (by kernel_rfl) (by kernel_rfl) (by kernel_rfl) (by kernel_rfl) (ih a0 (ior .u64 x_root.val (ishl .u64 1 x_i.val).val) (w64 (x_i.val - 1)) (by have q1 := x_i.lo; simp only [w64_val, wu64_val, c64_val, cu64_val, decide_eq_true_eq] at *; omega) (by have q1 := x_i.lo; simp only [w64_val, wu64_val, c64_val, cu64_val, decide_eq_true_eq] at *; omega))
     ·exact Run.l (by kernel_rfl) (by kernel_rfl) (by kernel_rfl) (by kernel_rfl) (ih a0 x_root (w64 (x_i.val - 1)) (by have q1 := x_i.lo; simp only [w64_val, wu64_val, c64_val, cu64_val, decide_eq_true_eq] at *; omega) (by have q1 := x_i.lo; simp only [w64_val, wu64_val, c64_val, cu64_val, decide_eq_true_eq] at *; omega))
    ·refine Run.z [false, false, false, false, false, false, false] ?_
     exact Run.l (by kernel_rfl) (by kernel_rfl) (by kernel_rfl) (by kernel_rfl) (ih a0 x_root (w64 (x_i.val - 1)) (by have q1 := x_i.lo; simp only [w64_val, wu64_val, c64_val, cu64_val, decide_eq_true_eq] at *; omega) (by have q1 := x_i.lo; simp only [w64_val, wu64_val, c64_val, cu64_val, decide_eq_true_eq] at *; omega))
  ·exact Run.x 0

theorem ok_impl_WideSqrt (a0 : Wd) : Fun Tryz.prog 261 [] #[vWd a0] (vT_U_B (F_impl_WideSqrt a0)) [] := by
 refine Fun.ofH 400 E_ok mixed Tryz.func261 (by kernel_rfl) (by kernel_rfl) ?_
 unfold F_impl_WideSqrt
 refine Run.y (gv := vT_U_B) (fun h1 => ?_) (fun h1 => ?_)
 ·exact Run.x 0
 ·exact Run.l (by kernel_rfl) (by kernel_rfl) (by kernel_rfl) (by kernel_rfl) (ok_impl_WideSqrt_L0 65 a0 (cu64 0) (c64 63) (by decide) (by decide))

theorem ok_impl_SqrtFloor (a0 : I64) (a1 : I64) : Fun Tryz.prog 235 [] #[vI a0, vI a1] (vT_I_B (F_impl_SqrtFloor a0 a1)) [] := by
 refine Fun.ofH 400 E_ok mixed Tryz.func235 (by kernel_rfl) (by kernel_rfl) ?_
 unfold F_impl_SqrtFloor
 refine Run.y (gv := vT_I_B) (fun _ => ?_) (fun _ => ?_)
 ·refine Run.z [true, true, true] ?_
  exact Run.x 0
 ·refine Run.z [false, false] ?_
  refine Run.y (gv := vT_I_B) (fun _ => ?_) (fun _ => ?_)
  ·exact Run.x 0
  ·refine Run.q (e := vWd) (gv := vT_I_B) (ok_impl_WideMul _ _) fun r1 _ => ?_
   refine Run.q (e := vT_U_B) (gv := vT_I_B) (ok_impl_WideSqrt _) fun r2 _ => ?_
   exact Run.x 0

theorem ok_impl_SqrtDown (a0 : I64) : Fun Tryz.prog 166 [] #[vI a0] (vT_I_B (F_impl_SqrtDown a0)) [] := by
 refine Fun.ofH 400 E_ok mixed Tryz.func166 (by kernel_rfl) (by kernel_rfl) ?_
 unfold F_impl_SqrtDown
 refine Run.q (e := vB) (gv := vT_I_B) (ok_impl_ValidFix _) fun r1 _ => ?_
 refine Run.y (gv := vT_I_B) (fun _ => ?_) (fun _ => ?_)
 ·exact Run.x 0
 ·refine Run.q (e := vT_I_B) (gv := vT_I_B) (ok_impl_SqrtFloor _ _) fun r2 _ => ?_
  refine Run.q (e := vT_I_B) (gv := vT_I_B) (ok_impl_fixed _ _) fun r3 _ => ?_
  exact Run.x 0

theorem ok_impl_SqrtUp (a0 : I64) : Fun Tryz.prog 167 [] #[vI a0] (vT_I_B (F_impl_SqrtUp a0)) [] := by
 refine Fun.ofH 400 E_ok mixed Tryz.func167 (by kernel_rfl) (by kernel_rfl) ?_
 unfold F_impl_SqrtUp
 refine Run.q (e := vT_I_B) (gv := vT_I_B) (ok_impl_SqrtDown _) fun r1 _ => ?_
 refine Run.y (gv := vT_I_B) (fun _ => ?_) (fun _ => ?_)
 ·refine Run.z [true, true] ?_
  refine Run.q (e := vWd) (gv := vT_I_B) (ok_impl_WideMul _ _) fun r2 _ => ?_
  refine Run.z [true, true] ?_
  refine Run.q (e := vWd) (gv := vT_I_B) (ok_impl_WideMul _ _) fun r3 _ => ?_
  refine Run.z [true, true] ?_
  refine Run.y (gv := vT_I_B) (fun _ => ?_) (fun _ => ?_)
  ·refine Run.q (e := vT_I_B) (gv := vT_I_B) (ok_impl_fixed _ _) fun r4 _ => ?_
   exact Run.x 0
  ·refine Run.q (e := vT_I_B) (gv := vT_I_B) (ok_impl_fixed _ _) fun r5 _ => ?_
   exact Run.x 0
 ·refine Run.z [false, false, false, false, false, false, false] ?_
  refine Run.q (e := vT_I_B) (gv := vT_I_B) (ok_impl_fixed _ _) fun r6 _ => ?_
  exact Run.x 0

theorem ok_impl_SqrtI (a0 : Iv) : Fun Tryz.prog 73 [] #[vIv a0] (vIv (F_impl_SqrtI a0)) [] := by
 refine Fun.ofH 400 E_ok mixed Tryz.func73 (by kernel_rfl) (by kernel_rfl) ?_
 unfold F_impl_SqrtI
 refine Run.q (e := vB) (gv := vIv) (ok_impl_IsWhole _) fun r1 _ => ?_
 refine Run.y (gv := vIv) (fun _ => ?_) (fun _ => ?_)
 ·refine Run.z [true, true, true, true] ?_
  refine Run.q (e := vIv) (gv := vIv) (ok_impl_Whole) fun r2 _ => ?_
  exact Run.x 0
 ·refine Run.z [false, false, false] ?_
  refine Run.y (gv := vIv) (fun _ => ?_) (fun _ => ?_)
  ·refine Run.q (e := vIv) (gv := vIv) (ok_impl_Whole) fun r3 _ => ?_
   exact Run.x 0
  ·refine Run.q (e := vT_I_B) (gv := vIv) (ok_impl_SqrtDown _) fun r4 _ => ?_
   refine Run.q (e := vT_I_B) (gv := vIv) (ok_impl_SqrtUp _) fun r5 _ => ?_
   refine Run.y (gv := vIv) (fun _ => ?_) (fun _ => ?_)
   ·refine Run.z [true] ?_
    refine Run.q (e := vIv) (gv := vIv) (ok_impl_bounded _ _ _) fun r6 _ => ?_
    exact Run.x 0
   ·refine Run.z [false] ?_
    refine Run.q (e := vIv) (gv := vIv) (ok_impl_bounded _ _ _) fun r7 _ => ?_
    exact Run.x 0

theorem ok_impl_halved (a0 : Iv) : Fun Tryz.prog 308 [] #[vIv a0] (vIv (F_impl_halved a0)) [] := by
 refine Fun.ofH 400 E_ok mixed Tryz.func308 (by kernel_rfl) (by kernel_rfl) ?_
 unfold F_impl_halved
 refine Run.q (e := vIv) (gv := vIv) (ok_impl_Integer _) fun r1 _ => ?_
 refine Run.q (e := vIv) (gv := vIv) (ok_impl_Integer _) fun r2 _ => ?_
 refine Run.q (e := vIv) (gv := vIv) (ok_impl_SqrI _) fun r3 _ => ?_
 refine Run.q (e := vIv) (gv := vIv) (ok_impl_AddI _ _) fun r4 _ => ?_
 refine Run.q (e := vIv) (gv := vIv) (ok_impl_SqrtI _) fun r5 _ => ?_
 refine Run.q (e := vIv) (gv := vIv) (ok_impl_AddI _ _) fun r6 _ => ?_
 refine Run.q (e := vIv) (gv := vIv) (ok_impl_DivI _ _) fun r7 _ => ?_
 exact Run.x 0

end Go.Proofs.YtcdkepbgjgcjfaaGreat.Abs
