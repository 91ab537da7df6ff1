/- The program's functions are these; part 4 (written by w.py). -/
import Derived.Test.YtgofhiehdpggkaaGreatK3
import Derived.Test.YtgofhiehdpggkaaGreatF5
set_option linter.unusedVariables false
set_option linter.unusedSimpArgs false
namespace Go.Proofs.YtgofhiehdpggkaaGreat.Abs
open Go Go.RowKit

theorem ok_impl_isTransverse (a0 : Pj) : Fun Tryz.prog 50 [] #[vPj a0] (vB (F_impl_isTransverse a0)) [] := by
  refine Fun.ofH 400 E_ok mixed Tryz.func50 (by kernel_rfl) (by kernel_rfl) ?_
  unfold F_impl_isTransverse
  refine Run.q (e := vB) (gv := vB) (ok_impl_ValidProjection _) fun r1 _ => ?_
  refine Run.y (gv := vB) (fun _ => ?_) (fun _ => ?_)
  · refine Run.z [true, true, true] ?_
    exact Run.x 0
  · refine Run.z [false, false, false] ?_
    exact Run.x 0

theorem ok_impl_CoshI_1 (a0 : I64) : Fun Tryz.prog 140 [] #[vI a0] (vIv (F_impl_CoshI_1 a0)) [] := by
  refine Fun.ofH 400 E_ok mixed Tryz.func140 (by kernel_rfl) (by kernel_rfl) ?_
  unfold F_impl_CoshI_1
  refine Run.q (e := vIv) (gv := vIv) (ok_impl_ExpAt _) fun r1 _ => ?_
  refine Run.q (e := vIv) (gv := vIv) (ok_impl_ExpAt _) fun r2 _ => ?_
  refine Run.q (e := vIv) (gv := vIv) (ok_impl_AddI _ _) fun r3 _ => ?_
  refine Run.q (e := vIv) (gv := vIv) (ok_impl_HalfI _) fun r4 _ => ?_
  exact Run.x 0

theorem ok_impl_monotonic__impl_CoshI_1 (a0 : Iv) : Fun Tryz.prog 138 [] #[vIv a0, .func (.func 140) #[] #[]] (vIv (F_impl_monotonic__impl_CoshI_1 a0)) [] := by
  refine Fun.ofH 400 E_ok mixed Tryz.func138 (by kernel_rfl) (by kernel_rfl) ?_
  unfold F_impl_monotonic__impl_CoshI_1
  refine Run.q (e := vB) (gv := vIv) (ok_impl_IsWhole _) fun r1 _ => ?_
  refine Run.y (gv := vIv) (fun _ => ?_) (fun _ => ?_)
  · refine Run.q (e := vIv) (gv := vIv) (ok_impl_Whole) fun r2 _ => ?_
    exact Run.x 0
  · refine Run.q (e := vIv) (gv := vIv) (ok_impl_CoshI_1 _) fun r3 _ => ?_
    refine Run.q (e := vIv) (gv := vIv) (ok_impl_CoshI_1 _) fun r4 _ => ?_
    refine Run.q (e := vB) (gv := vIv) (ok_impl_areBounded _ _) fun r5 _ => ?_
    refine Run.y (gv := vIv) (fun _ => ?_) (fun _ => ?_)
    · refine Run.q (e := vIv) (gv := vIv) (ok_impl_Whole) fun r6 _ => ?_
      exact Run.x 0
    · refine Run.q (e := vIv) (gv := vIv) (ok_impl_bounded _ _ _) fun r7 _ => ?_
      exact Run.x 0

theorem ok_impl_CoshI (a0 : Iv) : Fun Tryz.prog 55 [] #[vIv a0] (vIv (F_impl_CoshI a0)) [] := by
  refine Fun.ofH 400 E_ok mixed Tryz.func55 (by kernel_rfl) (by kernel_rfl) ?_
  unfold F_impl_CoshI
  refine Run.q (e := vIv) (gv := vIv) (ok_impl_AbsI _) fun r1 _ => ?_
  refine Run.q (e := vIv) (gv := vIv) (ok_impl_monotonic__impl_CoshI_1 _) fun r2 _ => ?_
  exact Run.x 0

theorem ok_impl_CircleAt (a0 : I64) : Fun Tryz.prog 217 [] #[vI a0] (vIv (F_impl_CircleAt a0)) [] := by
  refine Fun.ofH 400 E_ok mixed Tryz.func217 (by kernel_rfl) (by kernel_rfl) ?_
  unfold F_impl_CircleAt
  refine Run.q (e := vB) (gv := vIv) (ok_impl_within _ _ _) fun r1 _ => ?_
  refine Run.y (gv := vIv) (fun _ => ?_) (fun _ => ?_)
  · refine Run.q (e := vIv) (gv := vIv) (ok_impl_Whole) fun r2 _ => ?_
    exact Run.x 0
  · refine Run.q (e := vT_I_B) (gv := vIv) (ok_impl_SqrtFloor _ _) fun r3 _ => ?_
    refine Run.q (e := vWd) (gv := vIv) (ok_impl_WideMul _ _) fun r4 _ => ?_
    refine Run.q (e := vWd) (gv := vIv) (ok_impl_WideMul _ _) fun r5 _ => ?_
    refine Run.y (gv := vIv) (fun _ => ?_) (fun _ => ?_)
    · refine Run.q (e := vIv) (gv := vIv) (ok_impl_at _) fun r6 _ => ?_
      exact Run.x 0
    · exact Run.x 0

theorem ok_impl_halfCircle : Fun Tryz.prog 218 [] #[] (vIv (F_impl_halfCircle)) [] := by
  refine Fun.ofH 400 E_ok mixed Tryz.func218 (by kernel_rfl) (by kernel_rfl) ?_
  unfold F_impl_halfCircle
  refine Run.q (e := vIv) (gv := vIv) (ok_impl_TurnI _) fun r1 _ => ?_
  refine Run.q (e := vIv) (gv := vIv) (ok_impl_TurnI _) fun r2 _ => ?_
  exact Run.x 0

theorem ok_impl_isOpen (a0 : I64) : Fun Tryz.prog 219 [] #[vI a0] (vB (F_impl_isOpen a0)) [] := by
  refine Fun.ofH 400 E_ok mixed Tryz.func219 (by kernel_rfl) (by kernel_rfl) ?_
  unfold F_impl_isOpen
  refine Run.y (gv := vB) (fun _ => ?_) (fun _ => ?_)
  · refine Run.z [true, true] ?_
    exact Run.x 0
  · refine Run.z [false, false] ?_
    exact Run.x 0

theorem ok_impl_halved (a0 : Iv) : Fun Tryz.prog 297 [] #[vIv a0] (vIv (F_impl_halved a0)) [] := by
  refine Fun.ofH 400 E_ok mixed Tryz.func297 (by kernel_rfl) (by kernel_rfl) ?_
  unfold F_impl_halved
  refine Run.q (e := vIv) (gv := vIv) (ok_impl_Integer _) fun r1 _ => ?_
  refine Run.q (e := vIv) (gv := vIv) (ok_impl_Integer _) fun r2 _ => ?_
  refine Run.q (e := vIv) (gv := vIv) (ok_impl_SqrI _) fun r3 _ => ?_
  refine Run.q (e := vIv) (gv := vIv) (ok_impl_AddI _ _) fun r4 _ => ?_
  refine Run.q (e := vIv) (gv := vIv) (ok_impl_SqrtI _) fun r5 _ => ?_
  refine Run.q (e := vIv) (gv := vIv) (ok_impl_AddI _ _) fun r6 _ => ?_
  refine Run.q (e := vIv) (gv := vIv) (ok_impl_DivI _ _) fun r7 _ => ?_
  exact Run.x 0

theorem ok_impl_ArcSeries (a0 : Iv) : Fun Tryz.prog 296 [] #[vIv a0] (vIv (F_impl_ArcSeries a0)) [] := by
  refine Fun.ofH 400 E_ok mixed Tryz.func296 (by kernel_rfl) (by kernel_rfl) ?_
  unfold F_impl_ArcSeries
  refine Run.q (e := vB) (gv := vIv) (ok_impl_InsideI _ _) fun r1 _ => ?_
  refine Run.y (gv := vIv) (fun _ => ?_) (fun _ => ?_)
  · refine Run.q (e := vIv) (gv := vIv) (ok_impl_Whole) fun r2 _ => ?_
    exact Run.x 0
  · refine Run.q (e := vIv) (gv := vIv) (ok_impl_SqrI _) fun r3 _ => ?_
    refine Run.q (e := vIv) (gv := vIv) (ok_impl_Quotient _ _) fun r4 _ => ?_
    refine Run.u 400 E_ok mixed Tryz.func296 ?_
    refine Run.z [true] ?_
    refine Run.q (e := vIv) (gv := vIv) (ok_impl_Quotient _ _) fun r5 _ => ?_
    refine Run.q (e := vIv) (gv := vIv) (ok_impl_MulI _ _) fun r6 _ => ?_
    refine Run.q (e := vIv) (gv := vIv) (ok_impl_SubI _ _) fun r7 _ => ?_
    refine Run.u 400 E_ok mixed Tryz.func296 ?_
    refine Run.z [true] ?_
    refine Run.q (e := vIv) (gv := vIv) (ok_impl_Quotient _ _) fun r8 _ => ?_
    refine Run.q (e := vIv) (gv := vIv) (ok_impl_MulI _ _) fun r9 _ => ?_
    refine Run.q (e := vIv) (gv := vIv) (ok_impl_SubI _ _) fun r10 _ => ?_
    refine Run.u 400 E_ok mixed Tryz.func296 ?_
    refine Run.z [true] ?_
    refine Run.q (e := vIv) (gv := vIv) (ok_impl_Quotient _ _) fun r11 _ => ?_
    refine Run.q (e := vIv) (gv := vIv) (ok_impl_MulI _ _) fun r12 _ => ?_
    refine Run.q (e := vIv) (gv := vIv) (ok_impl_SubI _ _) fun r13 _ => ?_
    refine Run.u 400 E_ok mixed Tryz.func296 ?_
    refine Run.z [true] ?_
    refine Run.q (e := vIv) (gv := vIv) (ok_impl_Quotient _ _) fun r14 _ => ?_
    refine Run.q (e := vIv) (gv := vIv) (ok_impl_MulI _ _) fun r15 _ => ?_
    refine Run.q (e := vIv) (gv := vIv) (ok_impl_SubI _ _) fun r16 _ => ?_
    refine Run.u 400 E_ok mixed Tryz.func296 ?_
    refine Run.z [true] ?_
    refine Run.q (e := vIv) (gv := vIv) (ok_impl_Quotient _ _) fun r17 _ => ?_
    refine Run.q (e := vIv) (gv := vIv) (ok_impl_MulI _ _) fun r18 _ => ?_
    refine Run.q (e := vIv) (gv := vIv) (ok_impl_SubI _ _) fun r19 _ => ?_
    refine Run.u 400 E_ok mixed Tryz.func296 ?_
    refine Run.z [true] ?_
    refine Run.q (e := vIv) (gv := vIv) (ok_impl_Quotient _ _) fun r20 _ => ?_
    refine Run.q (e := vIv) (gv := vIv) (ok_impl_MulI _ _) fun r21 _ => ?_
    refine Run.q (e := vIv) (gv := vIv) (ok_impl_SubI _ _) fun r22 _ => ?_
    refine Run.u 400 E_ok mixed Tryz.func296 ?_
    refine Run.z [true] ?_
    refine Run.q (e := vIv) (gv := vIv) (ok_impl_Quotient _ _) fun r23 _ => ?_
    refine Run.q (e := vIv) (gv := vIv) (ok_impl_MulI _ _) fun r24 _ => ?_
    refine Run.q (e := vIv) (gv := vIv) (ok_impl_SubI _ _) fun r25 _ => ?_
    refine Run.u 400 E_ok mixed Tryz.func296 ?_
    refine Run.z [true] ?_
    refine Run.q (e := vIv) (gv := vIv) (ok_impl_Quotient _ _) fun r26 _ => ?_
    refine Run.q (e := vIv) (gv := vIv) (ok_impl_MulI _ _) fun r27 _ => ?_
    refine Run.q (e := vIv) (gv := vIv) (ok_impl_SubI _ _) fun r28 _ => ?_
    refine Run.u 400 E_ok mixed Tryz.func296 ?_
    refine Run.z [true] ?_
    refine Run.q (e := vIv) (gv := vIv) (ok_impl_Quotient _ _) fun r29 _ => ?_
    refine Run.q (e := vIv) (gv := vIv) (ok_impl_MulI _ _) fun r30 _ => ?_
    refine Run.q (e := vIv) (gv := vIv) (ok_impl_SubI _ _) fun r31 _ => ?_
    refine Run.u 400 E_ok mixed Tryz.func296 ?_
    refine Run.z [true] ?_
    refine Run.q (e := vIv) (gv := vIv) (ok_impl_Quotient _ _) fun r32 _ => ?_
    refine Run.q (e := vIv) (gv := vIv) (ok_impl_MulI _ _) fun r33 _ => ?_
    refine Run.q (e := vIv) (gv := vIv) (ok_impl_SubI _ _) fun r34 _ => ?_
    refine Run.u 400 E_ok mixed Tryz.func296 ?_
    refine Run.z [false] ?_
    refine Run.q (e := vIv) (gv := vIv) (ok_impl_MulI _ _) fun r35 _ => ?_
    refine Run.q (e := vIv) (gv := vIv) (ok_impl_tiny) fun r36 _ => ?_
    refine Run.q (e := vIv) (gv := vIv) (ok_impl_AddI _ _) fun r37 _ => ?_
    exact Run.x 0

theorem ok_impl_fourfold (a0 : Iv) : Fun Tryz.prog 289 [] #[vIv a0] (vIv (F_impl_fourfold a0)) [] := by
  refine Fun.ofH 400 E_ok mixed Tryz.func289 (by kernel_rfl) (by kernel_rfl) ?_
  unfold F_impl_fourfold
  refine Run.q (e := vIv) (gv := vIv) (ok_impl_halved _) fun r1 _ => ?_
  refine Run.q (e := vIv) (gv := vIv) (ok_impl_halved _) fun r2 _ => ?_
  refine Run.q (e := vIv) (gv := vIv) (ok_impl_ArcSeries _) fun r3 _ => ?_
  refine Run.q (e := vIv) (gv := vIv) (ok_impl_DoubleI _) fun r4 _ => ?_
  refine Run.q (e := vIv) (gv := vIv) (ok_impl_DoubleI _) fun r5 _ => ?_
  exact Run.x 0

theorem ok_impl_AtanAt_r : ∀ (fu : Nat) (a0 : I64) (hm : min (0 - a0.val).toNat 1 < fu), Fun Tryz.prog 268 [] #[vI a0] (vIv (F_impl_AtanAt_r fu a0)) [] := by
  intro fu
  induction fu with
  | zero => intro a0 hm; exact absurd hm (Nat.not_lt_zero _)
  | succ fu ih =>
    intro a0 hm
    refine Fun.ofH 400 E_ok mixed Tryz.func268 (by kernel_rfl) (by kernel_rfl) ?_
    unfold F_impl_AtanAt_r
    unfold F_impl_AtanAt_b
    refine Run.q (e := vB) (gv := vIv) (ok_impl_isOpen _) fun r1 hr1 => ?_
    refine Run.y (gv := vIv) (fun h2 => ?_) (fun h2 => ?_)
    · refine Run.q (e := vIv) (gv := vIv) (ok_impl_halfCircle) fun r3 hr3 => ?_
      exact Run.x 0
    · refine Run.y (gv := vIv) (fun h4 => ?_) (fun h4 => ?_)
      · refine Run.q (e := vIv) (gv := vIv) (ih (w64 (0 - a0.val)) (by rw [hr1] at h2; simp [F_impl_isOpen, c64_val] at h2; simp only [w64_val, decide_eq_true_eq, decide_eq_false_iff_not] at *; omega)) fun r5 hr5 => ?_
        refine Run.q (e := vIv) (gv := vIv) (ok_impl_NegI _) fun r6 hr6 => ?_
        exact Run.x 0
      · refine Run.y (gv := vIv) (fun h7 => ?_) (fun h7 => ?_)
        · refine Run.q (e := vIv) (gv := vIv) (ok_impl_TurnI _) fun r8 hr8 => ?_
          refine Run.q (e := vIv) (gv := vIv) (ok_impl_Integer _) fun r9 hr9 => ?_
          refine Run.q (e := vIv) (gv := vIv) (ok_impl_at _) fun r10 hr10 => ?_
          refine Run.q (e := vIv) (gv := vIv) (ok_impl_DivI _ _) fun r11 hr11 => ?_
          refine Run.q (e := vIv) (gv := vIv) (ok_impl_fourfold _) fun r12 hr12 => ?_
          refine Run.q (e := vIv) (gv := vIv) (ok_impl_SubI _ _) fun r13 hr13 => ?_
          exact Run.x 0
        · refine Run.q (e := vIv) (gv := vIv) (ok_impl_at _) fun r14 hr14 => ?_
          refine Run.q (e := vIv) (gv := vIv) (ok_impl_fourfold _) fun r15 hr15 => ?_
          exact Run.x 0
theorem ok_impl_AtanAt (a0 : I64) : Fun Tryz.prog 268 [] #[vI a0] (vIv (F_impl_AtanAt a0)) [] := ok_impl_AtanAt_r 2 a0 (by omega)

theorem ok_impl_AtanI (a0 : Iv) : Fun Tryz.prog 216 [] #[vIv a0] (vIv (F_impl_AtanI a0)) [] := by
  refine Fun.ofH 400 E_ok mixed Tryz.func216 (by kernel_rfl) (by kernel_rfl) ?_
  unfold F_impl_AtanI
  refine Run.q (e := vB) (gv := vIv) (ok_impl_IsWhole _) fun r1 _ => ?_
  refine Run.y (gv := vIv) (fun _ => ?_) (fun _ => ?_)
  · refine Run.q (e := vIv) (gv := vIv) (ok_impl_halfCircle) fun r2 _ => ?_
    exact Run.x 0
  · refine Run.q (e := vIv) (gv := vIv) (ok_impl_AtanAt _) fun r3 _ => ?_
    refine Run.q (e := vIv) (gv := vIv) (ok_impl_AtanAt _) fun r4 _ => ?_
    refine Run.q (e := vIv) (gv := vIv) (ok_impl_HullI _ _) fun r5 _ => ?_
    exact Run.x 0

theorem ok_impl_AsinAt (a0 : I64) : Fun Tryz.prog 146 [] #[vI a0] (vIv (F_impl_AsinAt a0)) [] := by
  refine Fun.ofH 400 E_ok mixed Tryz.func146 (by kernel_rfl) (by kernel_rfl) ?_
  unfold F_impl_AsinAt
  refine Run.q (e := vB) (gv := vIv) (ok_impl_within _ _ _) fun r1 _ => ?_
  refine Run.y (gv := vIv) (fun _ => ?_) (fun _ => ?_)
  · refine Run.q (e := vIv) (gv := vIv) (ok_impl_Whole) fun r2 _ => ?_
    exact Run.x 0
  · refine Run.q (e := vIv) (gv := vIv) (ok_impl_at _) fun r3 _ => ?_
    refine Run.q (e := vIv) (gv := vIv) (ok_impl_Integer _) fun r4 _ => ?_
    refine Run.q (e := vIv) (gv := vIv) (ok_impl_CircleAt _) fun r5 _ => ?_
    refine Run.q (e := vIv) (gv := vIv) (ok_impl_AddI _ _) fun r6 _ => ?_
    refine Run.q (e := vIv) (gv := vIv) (ok_impl_DivI _ _) fun r7 _ => ?_
    refine Run.q (e := vIv) (gv := vIv) (ok_impl_AtanI _) fun r8 _ => ?_
    refine Run.q (e := vIv) (gv := vIv) (ok_impl_DoubleI _) fun r9 _ => ?_
    refine Run.q (e := vIv) (gv := vIv) (ok_impl_halfCircle) fun r10 _ => ?_
    refine Run.q (e := vT_Iv_B) (gv := vIv) (ok_impl_MeetI _ _) fun r11 _ => ?_
    exact Run.x 0

theorem ok_impl_AsinI (a0 : Iv) : Fun Tryz.prog 56 [] #[vIv a0] (vIv (F_impl_AsinI a0)) [] := by
  refine Fun.ofH 400 E_ok mixed Tryz.func56 (by kernel_rfl) (by kernel_rfl) ?_
  unfold F_impl_AsinI
  refine Run.q (e := vIv) (gv := vIv) (ok_impl_ring) fun r1 _ => ?_
  refine Run.q (e := vT_Iv_B) (gv := vIv) (ok_impl_MeetI _ _) fun r2 _ => ?_
  refine Run.y (gv := vIv) (fun _ => ?_) (fun _ => ?_)
  · refine Run.q (e := vIv) (gv := vIv) (ok_impl_Whole) fun r3 _ => ?_
    exact Run.x 0
  · refine Run.q (e := vIv) (gv := vIv) (ok_impl_AsinAt _) fun r4 _ => ?_
    refine Run.q (e := vIv) (gv := vIv) (ok_impl_AsinAt _) fun r5 _ => ?_
    refine Run.q (e := vIv) (gv := vIv) (ok_impl_HullI _ _) fun r6 _ => ?_
    exact Run.x 0

theorem ok_impl_SinhI_1 (a0 : I64) : Fun Tryz.prog 149 [] #[vI a0] (vIv (F_impl_SinhI_1 a0)) [] := by
  refine Fun.ofH 400 E_ok mixed Tryz.func149 (by kernel_rfl) (by kernel_rfl) ?_
  unfold F_impl_SinhI_1
  refine Run.q (e := vIv) (gv := vIv) (ok_impl_ExpAt _) fun r1 _ => ?_
  refine Run.q (e := vIv) (gv := vIv) (ok_impl_ExpAt _) fun r2 _ => ?_
  refine Run.q (e := vIv) (gv := vIv) (ok_impl_SubI _ _) fun r3 _ => ?_
  refine Run.q (e := vIv) (gv := vIv) (ok_impl_HalfI _) fun r4 _ => ?_
  exact Run.x 0

theorem ok_impl_monotonic__impl_SinhI_1 (a0 : Iv) : Fun Tryz.prog 138 [] #[vIv a0, .func (.func 149) #[] #[]] (vIv (F_impl_monotonic__impl_SinhI_1 a0)) [] := by
  refine Fun.ofH 400 E_ok mixed Tryz.func138 (by kernel_rfl) (by kernel_rfl) ?_
  unfold F_impl_monotonic__impl_SinhI_1
  refine Run.q (e := vB) (gv := vIv) (ok_impl_IsWhole _) fun r1 _ => ?_
  refine Run.y (gv := vIv) (fun _ => ?_) (fun _ => ?_)
  · refine Run.q (e := vIv) (gv := vIv) (ok_impl_Whole) fun r2 _ => ?_
    exact Run.x 0
  · refine Run.q (e := vIv) (gv := vIv) (ok_impl_SinhI_1 _) fun r3 _ => ?_
    refine Run.q (e := vIv) (gv := vIv) (ok_impl_SinhI_1 _) fun r4 _ => ?_
    refine Run.q (e := vB) (gv := vIv) (ok_impl_areBounded _ _) fun r5 _ => ?_
    refine Run.y (gv := vIv) (fun _ => ?_) (fun _ => ?_)
    · refine Run.q (e := vIv) (gv := vIv) (ok_impl_Whole) fun r6 _ => ?_
      exact Run.x 0
    · refine Run.q (e := vIv) (gv := vIv) (ok_impl_bounded _ _ _) fun r7 _ => ?_
      exact Run.x 0

theorem ok_impl_SinhI (a0 : Iv) : Fun Tryz.prog 60 [] #[vIv a0] (vIv (F_impl_SinhI a0)) [] := by
  refine Fun.ofH 400 E_ok mixed Tryz.func60 (by kernel_rfl) (by kernel_rfl) ?_
  unfold F_impl_SinhI
  refine Run.q (e := vIv) (gv := vIv) (ok_impl_monotonic__impl_SinhI_1 _) fun r1 _ => ?_
  exact Run.x 0

theorem ok_impl_DirectionAt (a0 : I64) (a1 : I64) : Fun Tryz.prog 148 [] #[vI a0, vI a1] (vIv (F_impl_DirectionAt a0 a1)) [] := by
  refine Fun.ofH 400 E_ok mixed Tryz.func148 (by kernel_rfl) (by kernel_rfl) ?_
  unfold F_impl_DirectionAt
  refine Run.q (e := vB) (gv := vIv) (ok_impl_isOpen _) fun r1 _ => ?_
  refine Run.y (gv := vIv) (fun _ => ?_) (fun _ => ?_)
  · refine Run.z [true, true, true, true, true, true, true, true, true] ?_
    refine Run.q (e := vIv) (gv := vIv) (ok_impl_Whole) fun r2 _ => ?_
    exact Run.x 0
  · refine Run.z [false] ?_
    refine Run.q (e := vB) (gv := vIv) (ok_impl_isOpen _) fun r3 _ => ?_
    refine Run.z [false, false] ?_
    refine Run.y (gv := vIv) (fun _ => ?_) (fun _ => ?_)
    · refine Run.z [true, true, true, true, true] ?_
      refine Run.q (e := vIv) (gv := vIv) (ok_impl_Whole) fun r4 _ => ?_
      exact Run.x 0
    · refine Run.z [false, false] ?_
      refine Run.y (gv := vIv) (fun _ => ?_) (fun _ => ?_)
      · refine Run.z [true, false, true, false] ?_
        refine Run.y (gv := vIv) (fun _ => ?_) (fun _ => ?_)
        · refine Run.q (e := vIv) (gv := vIv) (ok_impl_Whole) fun r5 _ => ?_
          exact Run.x 0
        · refine Run.q (e := vI) (gv := vIv) (ok_impl_abs _) fun r6 _ => ?_
          refine Run.q (e := vI) (gv := vIv) (ok_impl_abs _) fun r7 _ => ?_
          refine Run.y (gv := vIv) (fun _ => ?_) (fun _ => ?_)
          · refine Run.q (e := vIv) (gv := vIv) (ok_impl_TurnI _) fun r8 _ => ?_
            refine Run.y (gv := vIv) (fun _ => ?_) (fun _ => ?_)
            · refine Run.q (e := vIv) (gv := vIv) (ok_impl_TurnI _) fun r9 _ => ?_
              refine Run.q (e := vIv) (gv := vIv) (ok_impl_at _) fun r10 _ => ?_
              refine Run.q (e := vIv) (gv := vIv) (ok_impl_at _) fun r11 _ => ?_
              refine Run.q (e := vIv) (gv := vIv) (ok_impl_DivI _ _) fun r12 _ => ?_
              refine Run.q (e := vIv) (gv := vIv) (ok_impl_AtanI _) fun r13 _ => ?_
              refine Run.q (e := vIv) (gv := vIv) (ok_impl_SubI _ _) fun r14 _ => ?_
              exact Run.x 0
            · refine Run.q (e := vIv) (gv := vIv) (ok_impl_at _) fun r15 _ => ?_
              refine Run.q (e := vIv) (gv := vIv) (ok_impl_at _) fun r16 _ => ?_
              refine Run.q (e := vIv) (gv := vIv) (ok_impl_DivI _ _) fun r17 _ => ?_
              refine Run.q (e := vIv) (gv := vIv) (ok_impl_AtanI _) fun r18 _ => ?_
              refine Run.q (e := vIv) (gv := vIv) (ok_impl_SubI _ _) fun r19 _ => ?_
              exact Run.x 0
          · refine Run.q (e := vIv) (gv := vIv) (ok_impl_at _) fun r20 _ => ?_
            refine Run.q (e := vIv) (gv := vIv) (ok_impl_at _) fun r21 _ => ?_
            refine Run.q (e := vIv) (gv := vIv) (ok_impl_DivI _ _) fun r22 _ => ?_
            refine Run.q (e := vIv) (gv := vIv) (ok_impl_AtanI _) fun r23 _ => ?_
            refine Run.y (gv := vIv) (fun _ => ?_) (fun _ => ?_)
            · exact Run.x 0
            · refine Run.y (gv := vIv) (fun _ => ?_) (fun _ => ?_)
              · refine Run.q (e := vIv) (gv := vIv) (ok_impl_TurnI _) fun r24 _ => ?_
                refine Run.q (e := vIv) (gv := vIv) (ok_impl_AddI _ _) fun r25 _ => ?_
                exact Run.x 0
              · refine Run.q (e := vIv) (gv := vIv) (ok_impl_TurnI _) fun r26 _ => ?_
                refine Run.q (e := vIv) (gv := vIv) (ok_impl_AddI _ _) fun r27 _ => ?_
                exact Run.x 0
      · refine Run.z [false, false, false, false, false] ?_
        refine Run.q (e := vI) (gv := vIv) (ok_impl_abs _) fun r28 _ => ?_
        refine Run.q (e := vI) (gv := vIv) (ok_impl_abs _) fun r29 _ => ?_
        refine Run.y (gv := vIv) (fun _ => ?_) (fun _ => ?_)
        · refine Run.q (e := vIv) (gv := vIv) (ok_impl_TurnI _) fun r30 _ => ?_
          refine Run.y (gv := vIv) (fun _ => ?_) (fun _ => ?_)
          · refine Run.q (e := vIv) (gv := vIv) (ok_impl_TurnI _) fun r31 _ => ?_
            refine Run.q (e := vIv) (gv := vIv) (ok_impl_at _) fun r32 _ => ?_
            refine Run.q (e := vIv) (gv := vIv) (ok_impl_at _) fun r33 _ => ?_
            refine Run.q (e := vIv) (gv := vIv) (ok_impl_DivI _ _) fun r34 _ => ?_
            refine Run.q (e := vIv) (gv := vIv) (ok_impl_AtanI _) fun r35 _ => ?_
            refine Run.q (e := vIv) (gv := vIv) (ok_impl_SubI _ _) fun r36 _ => ?_
            exact Run.x 0
          · refine Run.q (e := vIv) (gv := vIv) (ok_impl_at _) fun r37 _ => ?_
            refine Run.q (e := vIv) (gv := vIv) (ok_impl_at _) fun r38 _ => ?_
            refine Run.q (e := vIv) (gv := vIv) (ok_impl_DivI _ _) fun r39 _ => ?_
            refine Run.q (e := vIv) (gv := vIv) (ok_impl_AtanI _) fun r40 _ => ?_
            refine Run.q (e := vIv) (gv := vIv) (ok_impl_SubI _ _) fun r41 _ => ?_
            exact Run.x 0
        · refine Run.q (e := vIv) (gv := vIv) (ok_impl_at _) fun r42 _ => ?_
          refine Run.q (e := vIv) (gv := vIv) (ok_impl_at _) fun r43 _ => ?_
          refine Run.q (e := vIv) (gv := vIv) (ok_impl_DivI _ _) fun r44 _ => ?_
          refine Run.q (e := vIv) (gv := vIv) (ok_impl_AtanI _) fun r45 _ => ?_
          refine Run.y (gv := vIv) (fun _ => ?_) (fun _ => ?_)
          · exact Run.x 0
          · refine Run.y (gv := vIv) (fun _ => ?_) (fun _ => ?_)
            · refine Run.q (e := vIv) (gv := vIv) (ok_impl_TurnI _) fun r46 _ => ?_
              refine Run.q (e := vIv) (gv := vIv) (ok_impl_AddI _ _) fun r47 _ => ?_
              exact Run.x 0
            · refine Run.q (e := vIv) (gv := vIv) (ok_impl_TurnI _) fun r48 _ => ?_
              refine Run.q (e := vIv) (gv := vIv) (ok_impl_AddI _ _) fun r49 _ => ?_
              exact Run.x 0

theorem ok_impl_DirectionI (a0 : Iv) (a1 : Iv) : Fun Tryz.prog 59 [] #[vIv a0, vIv a1] (vIv (F_impl_DirectionI a0 a1)) [] := by
  refine Fun.ofH 400 E_ok mixed Tryz.func59 (by kernel_rfl) (by kernel_rfl) ?_
  unfold F_impl_DirectionI
  refine Run.q (e := vB) (gv := vIv) (ok_impl_areBounded _ _) fun r1 _ => ?_
  refine Run.y (gv := vIv) (fun _ => ?_) (fun _ => ?_)
  · refine Run.z [true, true, true, true, true, true, true, true, true, true, true, true, true] ?_
    refine Run.q (e := vIv) (gv := vIv) (ok_impl_Whole) fun r2 _ => ?_
    exact Run.x 0
  · refine Run.z [false] ?_
    refine Run.q (e := vB) (gv := vIv) (ok_impl_HasI _ _) fun r3 _ => ?_
    refine Run.z [false] ?_
    refine Run.y (gv := vIv) (fun _ => ?_) (fun _ => ?_)
    · refine Run.z [true] ?_
      refine Run.q (e := vB) (gv := vIv) (ok_impl_HasI _ _) fun r4 _ => ?_
      refine Run.z [false, true, false] ?_
      refine Run.y (gv := vIv) (fun _ => ?_) (fun _ => ?_)
      · refine Run.z [true, true, true, true, true, true, true, true] ?_
        refine Run.q (e := vIv) (gv := vIv) (ok_impl_Whole) fun r5 _ => ?_
        exact Run.x 0
      · refine Run.z [false, false, false] ?_
        refine Run.y (gv := vIv) (fun _ => ?_) (fun _ => ?_)
        · refine Run.z [true, true, false, true, false] ?_
          refine Run.y (gv := vIv) (fun _ => ?_) (fun _ => ?_)
          · refine Run.z [true, true, false, true, false] ?_
            refine Run.y (gv := vIv) (fun _ => ?_) (fun _ => ?_)
            · refine Run.q (e := vIv) (gv := vIv) (ok_impl_Whole) fun r6 _ => ?_
              exact Run.x 0
            · refine Run.q (e := vIv) (gv := vIv) (ok_impl_DirectionAt _ _) fun r7 _ => ?_
              refine Run.q (e := vIv) (gv := vIv) (ok_impl_DirectionAt _ _) fun r8 _ => ?_
              refine Run.q (e := vIv) (gv := vIv) (ok_impl_HullI _ _) fun r9 _ => ?_
              refine Run.q (e := vIv) (gv := vIv) (ok_impl_DirectionAt _ _) fun r10 _ => ?_
              refine Run.q (e := vIv) (gv := vIv) (ok_impl_DirectionAt _ _) fun r11 _ => ?_
              refine Run.q (e := vIv) (gv := vIv) (ok_impl_HullI _ _) fun r12 _ => ?_
              refine Run.q (e := vIv) (gv := vIv) (ok_impl_HullI _ _) fun r13 _ => ?_
              exact Run.x 0
          · refine Run.z [false, false, false, false, false, false] ?_
            refine Run.q (e := vIv) (gv := vIv) (ok_impl_DirectionAt _ _) fun r14 _ => ?_
            refine Run.q (e := vIv) (gv := vIv) (ok_impl_DirectionAt _ _) fun r15 _ => ?_
            refine Run.q (e := vIv) (gv := vIv) (ok_impl_HullI _ _) fun r16 _ => ?_
            refine Run.q (e := vIv) (gv := vIv) (ok_impl_DirectionAt _ _) fun r17 _ => ?_
            refine Run.q (e := vIv) (gv := vIv) (ok_impl_DirectionAt _ _) fun r18 _ => ?_
            refine Run.q (e := vIv) (gv := vIv) (ok_impl_HullI _ _) fun r19 _ => ?_
            refine Run.q (e := vIv) (gv := vIv) (ok_impl_HullI _ _) fun r20 _ => ?_
            exact Run.x 0
        · refine Run.z [false, false, false, false, false, false, false, false, false, false, false, false] ?_
          refine Run.q (e := vIv) (gv := vIv) (ok_impl_DirectionAt _ _) fun r21 _ => ?_
          refine Run.q (e := vIv) (gv := vIv) (ok_impl_DirectionAt _ _) fun r22 _ => ?_
          refine Run.q (e := vIv) (gv := vIv) (ok_impl_HullI _ _) fun r23 _ => ?_
          refine Run.q (e := vIv) (gv := vIv) (ok_impl_DirectionAt _ _) fun r24 _ => ?_
          refine Run.q (e := vIv) (gv := vIv) (ok_impl_DirectionAt _ _) fun r25 _ => ?_
          refine Run.q (e := vIv) (gv := vIv) (ok_impl_HullI _ _) fun r26 _ => ?_
          refine Run.q (e := vIv) (gv := vIv) (ok_impl_HullI _ _) fun r27 _ => ?_
          exact Run.x 0
    · refine Run.z [false, false, false, false, false, false, false, false] ?_
      refine Run.y (gv := vIv) (fun _ => ?_) (fun _ => ?_)
      · refine Run.z [true, true, false, true, false] ?_
        refine Run.y (gv := vIv) (fun _ => ?_) (fun _ => ?_)
        · refine Run.z [true, true, false, true, false] ?_
          refine Run.y (gv := vIv) (fun _ => ?_) (fun _ => ?_)
          · refine Run.q (e := vIv) (gv := vIv) (ok_impl_Whole) fun r28 _ => ?_
            exact Run.x 0
          · refine Run.q (e := vIv) (gv := vIv) (ok_impl_DirectionAt _ _) fun r29 _ => ?_
            refine Run.q (e := vIv) (gv := vIv) (ok_impl_DirectionAt _ _) fun r30 _ => ?_
            refine Run.q (e := vIv) (gv := vIv) (ok_impl_HullI _ _) fun r31 _ => ?_
            refine Run.q (e := vIv) (gv := vIv) (ok_impl_DirectionAt _ _) fun r32 _ => ?_
            refine Run.q (e := vIv) (gv := vIv) (ok_impl_DirectionAt _ _) fun r33 _ => ?_
            refine Run.q (e := vIv) (gv := vIv) (ok_impl_HullI _ _) fun r34 _ => ?_
            refine Run.q (e := vIv) (gv := vIv) (ok_impl_HullI _ _) fun r35 _ => ?_
            exact Run.x 0
        · refine Run.z [false, false, false, false, false, false] ?_
          refine Run.q (e := vIv) (gv := vIv) (ok_impl_DirectionAt _ _) fun r36 _ => ?_
          refine Run.q (e := vIv) (gv := vIv) (ok_impl_DirectionAt _ _) fun r37 _ => ?_
          refine Run.q (e := vIv) (gv := vIv) (ok_impl_HullI _ _) fun r38 _ => ?_
          refine Run.q (e := vIv) (gv := vIv) (ok_impl_DirectionAt _ _) fun r39 _ => ?_
          refine Run.q (e := vIv) (gv := vIv) (ok_impl_DirectionAt _ _) fun r40 _ => ?_
          refine Run.q (e := vIv) (gv := vIv) (ok_impl_HullI _ _) fun r41 _ => ?_
          refine Run.q (e := vIv) (gv := vIv) (ok_impl_HullI _ _) fun r42 _ => ?_
          exact Run.x 0
      · refine Run.z [false, false, false, false, false, false, false, false, false, false, false, false] ?_
        refine Run.q (e := vIv) (gv := vIv) (ok_impl_DirectionAt _ _) fun r43 _ => ?_
        refine Run.q (e := vIv) (gv := vIv) (ok_impl_DirectionAt _ _) fun r44 _ => ?_
        refine Run.q (e := vIv) (gv := vIv) (ok_impl_HullI _ _) fun r45 _ => ?_
        refine Run.q (e := vIv) (gv := vIv) (ok_impl_DirectionAt _ _) fun r46 _ => ?_
        refine Run.q (e := vIv) (gv := vIv) (ok_impl_DirectionAt _ _) fun r47 _ => ?_
        refine Run.q (e := vIv) (gv := vIv) (ok_impl_HullI _ _) fun r48 _ => ?_
        refine Run.q (e := vIv) (gv := vIv) (ok_impl_HullI _ _) fun r49 _ => ?_
        exact Run.x 0

theorem ok_impl_TransverseInverse (a0 : Pj) (a1 : Pn) : Fun Tryz.prog 18 [] #[vPj a0, vPn a1] (vT_Iv_Iv_I (F_impl_TransverseInverse a0 a1)) [] := by
  refine Fun.ofH 400 E_ok mixed Tryz.func18 (by kernel_rfl) (by kernel_rfl) ?_
  unfold F_impl_TransverseInverse
  refine Run.q (e := vB) (gv := vT_Iv_Iv_I) (ok_impl_isTransverse _) fun r1 _ => ?_
  refine Run.y (gv := vT_Iv_Iv_I) (fun _ => ?_) (fun _ => ?_)
  · exact Run.x 0
  · refine Run.q (e := vIv) (gv := vT_Iv_Iv_I) (ok_impl_RadiansOf _) fun r2 _ => ?_
    refine Run.q (e := vIv) (gv := vT_Iv_Iv_I) (ok_impl_AddI _ _) fun r3 _ => ?_
    refine Run.q (e := vIv) (gv := vT_Iv_Iv_I) (ok_impl_SinI _) fun r4 _ => ?_
    refine Run.q (e := vIv) (gv := vT_Iv_Iv_I) (ok_impl_CoshI _) fun r5 _ => ?_
    refine Run.q (e := vIv) (gv := vT_Iv_Iv_I) (ok_impl_DivI _ _) fun r6 _ => ?_
    refine Run.q (e := vIv) (gv := vT_Iv_Iv_I) (ok_impl_AsinI _) fun r7 _ => ?_
    refine Run.q (e := vB) (gv := vT_Iv_Iv_I) (ok_impl_areBounded _ _) fun r8 _ => ?_
    refine Run.y (gv := vT_Iv_Iv_I) (fun _ => ?_) (fun _ => ?_)
    · refine Run.z [true, true, true] ?_
      exact Run.x 0
    · refine Run.z [false] ?_
      refine Run.q (e := vB) (gv := vT_Iv_Iv_I) (ok_impl_IsWhole _) fun r9 _ => ?_
      refine Run.z [false] ?_
      refine Run.y (gv := vT_Iv_Iv_I) (fun _ => ?_) (fun _ => ?_)
      · exact Run.x 0
      · refine Run.q (e := vIv) (gv := vT_Iv_Iv_I) (ok_impl_RadiansOf _) fun r10 _ => ?_
        refine Run.q (e := vIv) (gv := vT_Iv_Iv_I) (ok_impl_SinhI _) fun r11 _ => ?_
        refine Run.q (e := vIv) (gv := vT_Iv_Iv_I) (ok_impl_CosI _) fun r12 _ => ?_
        refine Run.q (e := vIv) (gv := vT_Iv_Iv_I) (ok_impl_DirectionI _ _) fun r13 _ => ?_
        refine Run.q (e := vIv) (gv := vT_Iv_Iv_I) (ok_impl_AddI _ _) fun r14 _ => ?_
        exact Run.x 0

theorem ok_laws_FnExactTransverseInverse (a0 : Pj) (a1 : Pn) : Fun Tryz.prog 5 [] #[vPj a0, vPn a1] (vB (F_laws_FnExactTransverseInverse a0 a1)) [] := by
  refine Fun.ofH 400 E_ok mixed Tryz.func5 (by kernel_rfl) (by kernel_rfl) ?_
  unfold F_laws_FnExactTransverseInverse
  refine Run.q (e := vPj) (gv := vB) (ok_laws_toProjection _) fun r1 _ => ?_
  refine Run.q (e := vPn) (gv := vB) (ok_laws_toPlanar _) fun r2 _ => ?_
  refine Run.q (e := vT_Iv_Iv_I) (gv := vB) (ok_spec_TransverseInverse _ _) fun r3 _ => ?_
  refine Run.q (e := vPj) (gv := vB) (ok_laws_toProjection _) fun r4 _ => ?_
  refine Run.q (e := vPn) (gv := vB) (ok_laws_toPlanar _) fun r5 _ => ?_
  refine Run.q (e := vT_Iv_Iv_I) (gv := vB) (ok_impl_TransverseInverse _ _) fun r6 _ => ?_
  refine Run.q (e := vB) (gv := vB) (ok_laws_eqInterval _ _) fun r7 _ => ?_
  refine Run.y (gv := vB) (fun _ => ?_) (fun _ => ?_)
  · refine Run.z [true, true, true, true, true, true, true, true, true] ?_
    exact Run.x 0
  · refine Run.z [false, false] ?_
    refine Run.q (e := vB) (gv := vB) (ok_laws_eqInterval _ _) fun r8 _ => ?_
    refine Run.z [false, false] ?_
    refine Run.y (gv := vB) (fun _ => ?_) (fun _ => ?_)
    · refine Run.z [true, true, true, true] ?_
      exact Run.x 0
    · refine Run.z [false, false, false] ?_
      refine Run.y (gv := vB) (fun _ => ?_) (fun _ => ?_)
      · exact Run.x 0
      · exact Run.x 0

theorem ok_laws_toPoint (a0 : Pt) : Fun Tryz.prog 20 [] #[vPt a0] (vPt (F_laws_toPoint a0)) [] := by
  refine Fun.ofH 400 E_ok mixed Tryz.func20 (by kernel_rfl) (by kernel_rfl) ?_
  unfold F_laws_toPoint
  exact Run.x 0

theorem ok_spec_l11Pole (a0 : Pt) : Fun Tryz.prog 63 [] #[vPt a0] (vB (F_spec_l11Pole a0)) [] := by
  refine Fun.ofH 400 E_ok mixed Tryz.func63 (by kernel_rfl) (by kernel_rfl) ?_
  unfold F_spec_l11Pole
  refine Run.y (gv := vB) (fun _ => ?_) (fun _ => ?_)
  · refine Run.z [true, true, true] ?_
    exact Run.x 0
  · refine Run.z [false, false, false] ?_
    exact Run.x 0

theorem ok_spec_LatOf (a0 : Pt) : Fun Tryz.prog 64 [] #[vPt a0] (vIv (F_spec_LatOf a0)) [] := by
  refine Fun.ofH 400 E_ok mixed Tryz.func64 (by kernel_rfl) (by kernel_rfl) ?_
  unfold F_spec_LatOf
  refine Run.q (e := vB) (gv := vIv) (ok_spec_l11Ok _) fun r1 _ => ?_
  refine Run.y (gv := vIv) (fun _ => ?_) (fun _ => ?_)
  · refine Run.q (e := vIv) (gv := vIv) (ok_spec_Whole) fun r2 _ => ?_
    exact Run.x 0
  · refine Run.q (e := vIv) (gv := vIv) (ok_spec_RadiansOf _) fun r3 _ => ?_
    exact Run.x 0

theorem ok_spec_ConicScales (a0 : Pj) (a1 : Pt) : Fun Tryz.prog 19 [] #[vPj a0, vPt a1] (vT_Iv_Iv_I (F_spec_ConicScales a0 a1)) [] := by
  refine Fun.ofH 400 E_ok mixed Tryz.func19 (by kernel_rfl) (by kernel_rfl) ?_
  unfold F_spec_ConicScales
  refine Run.q (e := vB) (gv := vT_Iv_Iv_I) (ok_spec_l19Ok _) fun r1 _ => ?_
  refine Run.y (gv := vT_Iv_Iv_I) (fun _ => ?_) (fun _ => ?_)
  · refine Run.z [true, true, true, true] ?_
    exact Run.x 0
  · refine Run.z [false] ?_
    refine Run.q (e := vB) (gv := vT_Iv_Iv_I) (ok_spec_l11Ok _) fun r2 _ => ?_
    refine Run.z [false, false] ?_
    refine Run.y (gv := vT_Iv_Iv_I) (fun _ => ?_) (fun _ => ?_)
    · exact Run.x 0
    · refine Run.q (e := vB) (gv := vT_Iv_Iv_I) (ok_spec_l11Pole _) fun r3 _ => ?_
      refine Run.y (gv := vT_Iv_Iv_I) (fun _ => ?_) (fun _ => ?_)
      · exact Run.x 0
      · refine Run.q (e := vIv) (gv := vT_Iv_Iv_I) (ok_spec_LatOf _) fun r4 _ => ?_
        refine Run.q (e := vIv) (gv := vT_Iv_Iv_I) (ok_spec_l19Scale _ _) fun r5 _ => ?_
        refine Run.y (gv := vT_Iv_Iv_I) (fun _ => ?_) (fun _ => ?_)
        · refine Run.q (e := vIv) (gv := vT_Iv_Iv_I) (ok_spec_Integer _) fun r6 _ => ?_
          refine Run.q (e := vIv) (gv := vT_Iv_Iv_I) (ok_spec_DivI _ _) fun r7 _ => ?_
          refine Run.q (e := vT_Iv_Iv_I) (gv := vT_Iv_Iv_I) (ok_spec_l17Scales _ _) fun r8 _ => ?_
          exact Run.x 0
        · refine Run.y (gv := vT_Iv_Iv_I) (fun _ => ?_) (fun _ => ?_)
          · refine Run.q (e := vT_Iv_Iv_I) (gv := vT_Iv_Iv_I) (ok_spec_l17Scales _ _) fun r9 _ => ?_
            exact Run.x 0
          · refine Run.q (e := vIv) (gv := vT_Iv_Iv_I) (ok_spec_Integer _) fun r10 _ => ?_
            refine Run.q (e := vT_Iv_Iv_I) (gv := vT_Iv_Iv_I) (ok_spec_l17Scales _ _) fun r11 _ => ?_
            exact Run.x 0

theorem ok_impl_isPole (a0 : Pt) : Fun Tryz.prog 67 [] #[vPt a0] (vB (F_impl_isPole a0)) [] := by
  refine Fun.ofH 400 E_ok mixed Tryz.func67 (by kernel_rfl) (by kernel_rfl) ?_
  unfold F_impl_isPole
  refine Run.q (e := vI) (gv := vB) (ok_impl_abs _) fun r1 _ => ?_
  exact Run.x 0

theorem ok_impl_LatOf (a0 : Pt) : Fun Tryz.prog 68 [] #[vPt a0] (vIv (F_impl_LatOf a0)) [] := by
  refine Fun.ofH 400 E_ok mixed Tryz.func68 (by kernel_rfl) (by kernel_rfl) ?_
  unfold F_impl_LatOf
  refine Run.q (e := vB) (gv := vIv) (ok_impl_ValidPoint _) fun r1 _ => ?_
  refine Run.y (gv := vIv) (fun _ => ?_) (fun _ => ?_)
  · refine Run.q (e := vIv) (gv := vIv) (ok_impl_Whole) fun r2 _ => ?_
    exact Run.x 0
  · refine Run.q (e := vIv) (gv := vIv) (ok_impl_RadiansOf _) fun r3 _ => ?_
    exact Run.x 0

theorem ok_impl_ConicScales (a0 : Pj) (a1 : Pt) : Fun Tryz.prog 21 [] #[vPj a0, vPt a1] (vT_Iv_Iv_I (F_impl_ConicScales a0 a1)) [] := by
  refine Fun.ofH 400 E_ok mixed Tryz.func21 (by kernel_rfl) (by kernel_rfl) ?_
  unfold F_impl_ConicScales
  refine Run.bmb (nn := fun r : Cn × I64 => (r.2.val != 0)) (cl := fun r : Cn × I64 => (vCn r.1).cells) (gv := vT_Iv_Iv_I) (by kernel_rfl) (by kernel_rfl) (ok_impl_newConic _) (by kernel_rfl) (fun _ => rfl) (fun r1 hr1 => ?_) (fun r1 hr1 => ?_)
  · refine Run.z [true, true, true, true, true] ?_
    exact Run.x 0
  · refine Run.z [false, false] ?_
    refine Run.q (e := vB) (gv := vT_Iv_Iv_I) (ok_impl_ValidPoint _) fun r2 hr2 => ?_
    refine Run.z [false, false] ?_
    refine Run.y (gv := vT_Iv_Iv_I) (fun h3 => ?_) (fun h3 => ?_)
    · exact Run.x 0
    · refine Run.q (e := vB) (gv := vT_Iv_Iv_I) (ok_impl_isPole _) fun r4 hr4 => ?_
      refine Run.y (gv := vT_Iv_Iv_I) (fun h5 => ?_) (fun h5 => ?_)
      · exact Run.x 0
      · refine Run.q (e := vIv) (gv := vT_Iv_Iv_I) (ok_impl_LatOf _) fun r6 hr6 => ?_
        refine Run.w (e := vIv) (gv := vT_Iv_Iv_I) [4] (ok_impl_conic_scale__pCn _ _) fun r7 hr7 => ?_
        refine Run.y (gv := vT_Iv_Iv_I) (fun h8 => ?_) (fun h8 => ?_)
        · refine Run.q (e := vIv) (gv := vT_Iv_Iv_I) (ok_impl_Integer _) fun r9 hr9 => ?_
          refine Run.q (e := vIv) (gv := vT_Iv_Iv_I) (ok_impl_DivI _ _) fun r10 hr10 => ?_
          refine Run.q (e := vT_Iv_Iv_I) (gv := vT_Iv_Iv_I) (ok_impl_pair _ _) fun r11 hr11 => ?_
          exact Run.x 0
        · refine Run.y (gv := vT_Iv_Iv_I) (fun h12 => ?_) (fun h12 => ?_)
          · refine Run.q (e := vT_Iv_Iv_I) (gv := vT_Iv_Iv_I) (ok_impl_pair _ _) fun r13 hr13 => ?_
            exact Run.x 0
          · refine Run.q (e := vIv) (gv := vT_Iv_Iv_I) (ok_impl_Integer _) fun r14 hr14 => ?_
            refine Run.q (e := vT_Iv_Iv_I) (gv := vT_Iv_Iv_I) (ok_impl_pair _ _) fun r15 hr15 => ?_
            exact Run.x 0

theorem ok_laws_FnExactConicScales (a0 : Pj) (a1 : Pt) : Fun Tryz.prog 6 [] #[vPj a0, vPt a1] (vB (F_laws_FnExactConicScales a0 a1)) [] := by
  refine Fun.ofH 400 E_ok mixed Tryz.func6 (by kernel_rfl) (by kernel_rfl) ?_
  unfold F_laws_FnExactConicScales
  refine Run.q (e := vPj) (gv := vB) (ok_laws_toProjection _) fun r1 _ => ?_
  refine Run.q (e := vPt) (gv := vB) (ok_laws_toPoint _) fun r2 _ => ?_
  refine Run.q (e := vT_Iv_Iv_I) (gv := vB) (ok_spec_ConicScales _ _) fun r3 _ => ?_
  refine Run.q (e := vPj) (gv := vB) (ok_laws_toProjection _) fun r4 _ => ?_
  refine Run.q (e := vPt) (gv := vB) (ok_laws_toPoint _) fun r5 _ => ?_
  refine Run.q (e := vT_Iv_Iv_I) (gv := vB) (ok_impl_ConicScales _ _) fun r6 _ => ?_
  refine Run.q (e := vB) (gv := vB) (ok_laws_eqInterval _ _) fun r7 _ => ?_
  refine Run.y (gv := vB) (fun _ => ?_) (fun _ => ?_)
  · refine Run.z [true, true, true, true, true, true, true, true, true] ?_
    exact Run.x 0
  · refine Run.z [false, false] ?_
    refine Run.q (e := vB) (gv := vB) (ok_laws_eqInterval _ _) fun r8 _ => ?_
    refine Run.z [false, false] ?_
    refine Run.y (gv := vB) (fun _ => ?_) (fun _ => ?_)
    · refine Run.z [true, true, true, true] ?_
      exact Run.x 0
    · refine Run.z [false, false, false] ?_
      refine Run.y (gv := vB) (fun _ => ?_) (fun _ => ?_)
      · exact Run.x 0
      · exact Run.x 0

theorem ok_spec_l11Wrap (a0 : I64) : Fun Tryz.prog 77 [] #[vI a0] (vI (F_spec_l11Wrap a0)) [] := by
  refine Fun.ofH 400 E_ok mixed Tryz.func77 (by kernel_rfl) (by kernel_rfl) ?_
  unfold F_spec_l11Wrap
  refine Run.z [true] ?_
  refine Run.y (gv := vI) (fun _ => ?_) (fun _ => ?_)
  · refine Run.y (gv := vI) (fun _ => ?_) (fun _ => ?_)
    · exact Run.x 0
    · exact Run.x 0
  · refine Run.y (gv := vI) (fun _ => ?_) (fun _ => ?_)
    · exact Run.x 0
    · exact Run.x 0

theorem ok_spec_l21Edge__pPj (b0 : Pj) (a0 : Pt) : Fun Tryz.prog 151 [(#[.int .i64 b0.kind.val, .int .i64 b0.lat0.val, .int .i64 b0.lon0.val, .int .i64 b0.lat1.val, .int .i64 b0.lat2.val], 28)] #[.pointer (some ⟨0, 0, none⟩), vPt a0] (vB (F_spec_l21Edge__pPj b0 a0)) [(#[.int .i64 b0.kind.val, .int .i64 b0.lat0.val, .int .i64 b0.lon0.val, .int .i64 b0.lat1.val, .int .i64 b0.lat2.val], 28)] := by
  refine Fun.ofH 400 E_ok mixed Tryz.func151 (by kernel_rfl) (by kernel_rfl) ?_
  unfold F_spec_l21Edge__pPj
  refine Run.q (e := vI) (gv := vB) (ok_spec_l11Wrap _) fun r1 _ => ?_
  refine Run.y (gv := vB) (fun _ => ?_) (fun _ => ?_)
  · refine Run.z [true, true] ?_
    refine Run.y (gv := vB) (fun _ => ?_) (fun _ => ?_)
    · refine Run.z [true, true, true, true] ?_
      exact Run.x 1
    · refine Run.z [false, true, false, true] ?_
      exact Run.x 1
  · refine Run.z [false, false, false, false] ?_
    exact Run.x 1

theorem ok_spec_l21Turn__pPj (b0 : Pj) (a0 : Pt) : Fun Tryz.prog 154 [(#[.int .i64 b0.kind.val, .int .i64 b0.lat0.val, .int .i64 b0.lon0.val, .int .i64 b0.lat1.val, .int .i64 b0.lat2.val], 28)] #[.pointer (some ⟨0, 0, none⟩), vPt a0] (vIv (F_spec_l21Turn__pPj b0 a0)) [(#[.int .i64 b0.kind.val, .int .i64 b0.lat0.val, .int .i64 b0.lon0.val, .int .i64 b0.lat1.val, .int .i64 b0.lat2.val], 28)] := by
  refine Fun.ofH 400 E_ok mixed Tryz.func154 (by kernel_rfl) (by kernel_rfl) ?_
  unfold F_spec_l21Turn__pPj
  refine Run.q (e := vI) (gv := vIv) (ok_spec_l11Wrap _) fun r1 _ => ?_
  refine Run.q (e := vIv) (gv := vIv) (ok_spec_RadiansOf _) fun r2 _ => ?_
  exact Run.x 1

theorem ok_spec_l21Side__pPj (b0 : Pj) (a0 : Pt) : Fun Tryz.prog 153 [(#[.int .i64 b0.kind.val, .int .i64 b0.lat0.val, .int .i64 b0.lon0.val, .int .i64 b0.lat1.val, .int .i64 b0.lat2.val], 28)] #[.pointer (some ⟨0, 0, none⟩), vPt a0] (vIv (F_spec_l21Side__pPj b0 a0)) [(#[.int .i64 b0.kind.val, .int .i64 b0.lat0.val, .int .i64 b0.lon0.val, .int .i64 b0.lat1.val, .int .i64 b0.lat2.val], 28)] := by
  refine Fun.ofH 400 E_ok mixed Tryz.func153 (by kernel_rfl) (by kernel_rfl) ?_
  unfold F_spec_l21Side__pPj
  refine Run.q (e := vIv) (gv := vIv) (ok_spec_RadiansOf _) fun r1 _ => ?_
  refine Run.q (e := vIv) (gv := vIv) (ok_spec_CosI _) fun r2 _ => ?_
  refine Run.w (e := vIv) (gv := vIv) [0] (ok_spec_l21Turn__pPj _ _) fun r3 _ => ?_
  refine Run.q (e := vIv) (gv := vIv) (ok_spec_SinI _) fun r4 _ => ?_
  refine Run.q (e := vIv) (gv := vIv) (ok_spec_MulI _ _) fun r5 _ => ?_
  exact Run.x 1

theorem ok_spec_l08Atanh_r : ∀ (fu : Nat) (a0 : I64) (p0 : -9223372036854775808 < a0.val) (hm : min (0 - a0.val).toNat 1 < fu), Fun Tryz.prog 221 [] #[vI a0] (vIv (F_spec_l08Atanh_r fu a0)) [] := by
  intro fu
  induction fu with
  | zero => intro a0 p0 hm; exact absurd hm (Nat.not_lt_zero _)
  | succ fu ih =>
    intro a0 p0 hm
    refine Fun.ofH 400 E_ok mixed Tryz.func221 (by kernel_rfl) (by kernel_rfl) ?_
    unfold F_spec_l08Atanh_r
    unfold F_spec_l08Atanh_b
    refine Run.y (gv := vIv) (fun h1 => ?_) (fun h1 => ?_)
    · refine Run.q (e := vIv) (gv := vIv) (ih (w64 (0 - a0.val)) (by simp only [w64_val, decide_eq_true_eq, decide_eq_false_iff_not] at *; omega) (by simp only [w64_val, decide_eq_true_eq, decide_eq_false_iff_not] at *; omega)) fun r2 hr2 => ?_
      refine Run.q (e := vIv) (gv := vIv) (ok_spec_NegI _) fun r3 hr3 => ?_
      exact Run.x 0
    · refine Run.y (gv := vIv) (fun h4 => ?_) (fun h4 => ?_)
      · refine Run.q (e := vIv) (gv := vIv) (ok_spec_l04Whole) fun r5 hr5 => ?_
        exact Run.x 0
      · refine Run.q (e := vIv) (gv := vIv) (ok_spec_l08At _) fun r6 hr6 => ?_
        refine Run.q (e := vIv) (gv := vIv) (ok_spec_l08At _) fun r7 hr7 => ?_
        refine Run.q (e := vIv) (gv := vIv) (ok_spec_DivI _ _) fun r8 hr8 => ?_
        refine Run.q (e := vIv) (gv := vIv) (ok_spec_LogI _) fun r9 hr9 => ?_
        refine Run.q (e := vIv) (gv := vIv) (ok_spec_HalfI _) fun r10 hr10 => ?_
        exact Run.x 0
theorem ok_spec_l08Atanh (a0 : I64) (p0 : -9223372036854775808 < a0.val) : Fun Tryz.prog 221 [] #[vI a0] (vIv (F_spec_l08Atanh a0)) [] := ok_spec_l08Atanh_r 2 a0 p0 (by omega)

theorem ok_spec_AtanhI (a0 : Iv) : Fun Tryz.prog 152 [] #[vIv a0] (vIv (F_spec_AtanhI a0)) [] := by
  refine Fun.ofH 400 E_ok mixed Tryz.func152 (by kernel_rfl) (by kernel_rfl) ?_
  unfold F_spec_AtanhI
  refine Run.q (e := vB) (gv := vIv) (ok_spec_l04Ok _) fun r1 hr1 => ?_
  refine Run.y (gv := vIv) (fun h2 => ?_) (fun h2 => ?_)
  · refine Run.q (e := vIv) (gv := vIv) (ok_spec_l04Whole) fun r3 hr3 => ?_
    exact Run.x 0
  · refine Run.q (e := vIv) (gv := vIv) (ok_spec_l08Atanh _ (by rw [hr1] at h2; have z := Ok4p (by simpa using h2); omega)) fun r4 hr4 => ?_
    refine Run.q (e := vIv) (gv := vIv) (ok_spec_l08Atanh _ (by rw [hr1] at h2; have z := Ok4p (by simpa using h2); omega)) fun r5 hr5 => ?_
    refine Run.q (e := vIv) (gv := vIv) (ok_spec_l08Ends _ _) fun r6 hr6 => ?_
    exact Run.x 0

theorem ok_spec_l21Forward__pPj (b0 : Pj) (a0 : Pt) : Fun Tryz.prog 70 [(#[.int .i64 b0.kind.val, .int .i64 b0.lat0.val, .int .i64 b0.lon0.val, .int .i64 b0.lat1.val, .int .i64 b0.lat2.val], 28)] #[.pointer (some ⟨0, 0, none⟩), vPt a0] (vT_Pn_I (F_spec_l21Forward__pPj b0 a0)) [(#[.int .i64 b0.kind.val, .int .i64 b0.lat0.val, .int .i64 b0.lon0.val, .int .i64 b0.lat1.val, .int .i64 b0.lat2.val], 28)] := by
  refine Fun.ofH 400 E_ok mixed Tryz.func70 (by kernel_rfl) (by kernel_rfl) ?_
  unfold F_spec_l21Forward__pPj
  refine Run.w (e := vB) (gv := vT_Pn_I) [0] (ok_spec_l21Edge__pPj _ _) fun r1 _ => ?_
  refine Run.y (gv := vT_Pn_I) (fun _ => ?_) (fun _ => ?_)
  · exact Run.x 1
  · refine Run.q (e := vIv) (gv := vT_Pn_I) (ok_spec_RadiansOf _) fun r2 _ => ?_
    refine Run.w (e := vIv) (gv := vT_Pn_I) [0] (ok_spec_l21Side__pPj _ _) fun r3 _ => ?_
    refine Run.q (e := vIv) (gv := vT_Pn_I) (ok_spec_AtanhI _) fun r4 _ => ?_
    refine Run.q (e := vIv) (gv := vT_Pn_I) (ok_spec_SinI _) fun r5 _ => ?_
    refine Run.q (e := vIv) (gv := vT_Pn_I) (ok_spec_CosI _) fun r6 _ => ?_
    refine Run.w (e := vIv) (gv := vT_Pn_I) [0] (ok_spec_l21Turn__pPj _ _) fun r7 _ => ?_
    refine Run.q (e := vIv) (gv := vT_Pn_I) (ok_spec_CosI _) fun r8 _ => ?_
    refine Run.q (e := vIv) (gv := vT_Pn_I) (ok_spec_MulI _ _) fun r9 _ => ?_
    refine Run.q (e := vIv) (gv := vT_Pn_I) (ok_spec_DirectionI _ _) fun r10 _ => ?_
    refine Run.q (e := vIv) (gv := vT_Pn_I) (ok_spec_RadiansOf _) fun r11 _ => ?_
    refine Run.q (e := vIv) (gv := vT_Pn_I) (ok_spec_SubI _ _) fun r12 _ => ?_
    refine Run.q (e := vB) (gv := vT_Pn_I) (ok_spec_IsWhole _) fun r13 _ => ?_
    refine Run.y (gv := vT_Pn_I) (fun _ => ?_) (fun _ => ?_)
    · refine Run.z [true, true, true, true] ?_
      exact Run.x 1
    · refine Run.z [false, false] ?_
      refine Run.q (e := vB) (gv := vT_Pn_I) (ok_spec_IsWhole _) fun r14 _ => ?_
      refine Run.z [false] ?_
      refine Run.y (gv := vT_Pn_I) (fun _ => ?_) (fun _ => ?_)
      · exact Run.x 1
      · exact Run.x 1

theorem ok_spec_TransverseForward (a0 : Pj) (a1 : Pt) : Fun Tryz.prog 22 [] #[vPj a0, vPt a1] (vT_Pn_I (F_spec_TransverseForward a0 a1)) [] := by
  refine Fun.ofH 400 E_ok mixed Tryz.func22 (by kernel_rfl) (by kernel_rfl) ?_
  unfold F_spec_TransverseForward
  refine Run.w (e := vB) (gv := vT_Pn_I) [0] (ok_spec_l21Ok__pPj _) fun r1 _ => ?_
  refine Run.y (gv := vT_Pn_I) (fun _ => ?_) (fun _ => ?_)
  · refine Run.z [true, true, true, true] ?_
    exact Run.x 0
  · refine Run.z [false] ?_
    refine Run.q (e := vB) (gv := vT_Pn_I) (ok_spec_l11Ok _) fun r2 _ => ?_
    refine Run.z [false, false] ?_
    refine Run.y (gv := vT_Pn_I) (fun _ => ?_) (fun _ => ?_)
    · exact Run.x 0
    · refine Run.w (e := vT_Pn_I) (gv := vT_Pn_I) [0] (ok_spec_l21Forward__pPj _ _) fun r3 _ => ?_
      exact Run.x 0

theorem ok_impl_WrapLon (a0 : I64) : Fun Tryz.prog 155 [] #[vI a0] (vI (F_impl_WrapLon a0)) [] := by
  refine Fun.ofH 400 E_ok mixed Tryz.func155 (by kernel_rfl) (by kernel_rfl) ?_
  unfold F_impl_WrapLon
  refine Run.z [true] ?_
  refine Run.y (gv := vI) (fun _ => ?_) (fun _ => ?_)
  · exact Run.x 0
  · refine Run.y (gv := vI) (fun _ => ?_) (fun _ => ?_)
    · exact Run.x 0
    · exact Run.x 0

theorem ok_impl_LonFrom (a0 : Pj) (a1 : Pt) : Fun Tryz.prog 156 [] #[vPj a0, vPt a1] (vIv (F_impl_LonFrom a0 a1)) [] := by
  refine Fun.ofH 400 E_ok mixed Tryz.func156 (by kernel_rfl) (by kernel_rfl) ?_
  unfold F_impl_LonFrom
  refine Run.q (e := vB) (gv := vIv) (ok_impl_ValidProjection _) fun r1 _ => ?_
  refine Run.y (gv := vIv) (fun _ => ?_) (fun _ => ?_)
  · refine Run.z [true, true, true, true] ?_
    refine Run.q (e := vIv) (gv := vIv) (ok_impl_Whole) fun r2 _ => ?_
    exact Run.x 0
  · refine Run.z [false] ?_
    refine Run.q (e := vB) (gv := vIv) (ok_impl_ValidPoint _) fun r3 _ => ?_
    refine Run.z [false, false] ?_
    refine Run.y (gv := vIv) (fun _ => ?_) (fun _ => ?_)
    · refine Run.q (e := vIv) (gv := vIv) (ok_impl_Whole) fun r4 _ => ?_
      exact Run.x 0
    · refine Run.q (e := vI) (gv := vIv) (ok_impl_WrapLon _) fun r5 _ => ?_
      refine Run.q (e := vIv) (gv := vIv) (ok_impl_RadiansOf _) fun r6 _ => ?_
      exact Run.x 0

theorem ok_impl_transverse (a0 : Pj) (a1 : Pt) : Fun Tryz.prog 71 [] #[vPj a0, vPt a1] (vT_Iv_Iv_Iv_I (F_impl_transverse a0 a1)) [] := by
  refine Fun.ofH 400 E_ok mixed Tryz.func71 (by kernel_rfl) (by kernel_rfl) ?_
  unfold F_impl_transverse
  refine Run.q (e := vB) (gv := vT_Iv_Iv_Iv_I) (ok_impl_isTransverse _) fun r1 _ => ?_
  refine Run.y (gv := vT_Iv_Iv_Iv_I) (fun _ => ?_) (fun _ => ?_)
  · refine Run.z [true, true, true, true] ?_
    exact Run.x 0
  · refine Run.z [false] ?_
    refine Run.q (e := vB) (gv := vT_Iv_Iv_Iv_I) (ok_impl_ValidPoint _) fun r2 _ => ?_
    refine Run.z [false, false] ?_
    refine Run.y (gv := vT_Iv_Iv_Iv_I) (fun _ => ?_) (fun _ => ?_)
    · exact Run.x 0
    · refine Run.y (gv := vT_Iv_Iv_Iv_I) (fun _ => ?_) (fun _ => ?_)
      · refine Run.z [true, true, true, true, true] ?_
        refine Run.q (e := vI) (gv := vT_Iv_Iv_Iv_I) (ok_impl_WrapLon _) fun r3 _ => ?_
        refine Run.z [true] ?_
        refine Run.q (e := vI) (gv := vT_Iv_Iv_Iv_I) (ok_impl_abs _) fun r4 _ => ?_
        refine Run.z [true, true] ?_
        refine Run.y (gv := vT_Iv_Iv_Iv_I) (fun _ => ?_) (fun _ => ?_)
        · exact Run.x 0
        · refine Run.q (e := vIv) (gv := vT_Iv_Iv_Iv_I) (ok_impl_LatOf _) fun r5 _ => ?_
          refine Run.q (e := vIv) (gv := vT_Iv_Iv_Iv_I) (ok_impl_LonFrom _ _) fun r6 _ => ?_
          refine Run.q (e := vIv) (gv := vT_Iv_Iv_Iv_I) (ok_impl_CosI _) fun r7 _ => ?_
          refine Run.q (e := vIv) (gv := vT_Iv_Iv_Iv_I) (ok_impl_SinI _) fun r8 _ => ?_
          refine Run.q (e := vIv) (gv := vT_Iv_Iv_Iv_I) (ok_impl_MulI _ _) fun r9 _ => ?_
          exact Run.x 0
      · refine Run.z [false, false, false, false, false, false, false, false, false] ?_
        refine Run.q (e := vIv) (gv := vT_Iv_Iv_Iv_I) (ok_impl_LatOf _) fun r10 _ => ?_
        refine Run.q (e := vIv) (gv := vT_Iv_Iv_Iv_I) (ok_impl_LonFrom _ _) fun r11 _ => ?_
        refine Run.q (e := vIv) (gv := vT_Iv_Iv_Iv_I) (ok_impl_CosI _) fun r12 _ => ?_
        refine Run.q (e := vIv) (gv := vT_Iv_Iv_Iv_I) (ok_impl_SinI _) fun r13 _ => ?_
        refine Run.q (e := vIv) (gv := vT_Iv_Iv_Iv_I) (ok_impl_MulI _ _) fun r14 _ => ?_
        exact Run.x 0

theorem ok_impl_AtanhI_1 (a0 : I64) : Fun Tryz.prog 158 [] #[vI a0] (vIv (F_impl_AtanhI_1 a0)) [] := by
  refine Fun.ofH 400 E_ok mixed Tryz.func158 (by kernel_rfl) (by kernel_rfl) ?_
  unfold F_impl_AtanhI_1
  refine Run.y (gv := vIv) (fun _ => ?_) (fun _ => ?_)
  · refine Run.q (e := vIv) (gv := vIv) (ok_impl_Whole) fun r1 _ => ?_
    exact Run.x 0
  · refine Run.q (e := vIv) (gv := vIv) (ok_impl_at _) fun r2 _ => ?_
    refine Run.q (e := vIv) (gv := vIv) (ok_impl_at _) fun r3 _ => ?_
    refine Run.q (e := vIv) (gv := vIv) (ok_impl_DivI _ _) fun r4 _ => ?_
    refine Run.q (e := vIv) (gv := vIv) (ok_impl_LogI _) fun r5 _ => ?_
    refine Run.q (e := vIv) (gv := vIv) (ok_impl_HalfI _) fun r6 _ => ?_
    exact Run.x 0

theorem ok_impl_odd_1__p_impl_AtanhI_1 (a0 : I64) : Fun Tryz.prog 222 [(#[.func (.func 158) #[] #[]], 56)] #[vI a0, .pointer (some ⟨0, 0, none⟩)] (vIv (F_impl_odd_1__p_impl_AtanhI_1 a0)) [(#[.func (.func 158) #[] #[]], 56)] := by
  refine Fun.ofH 400 E_ok mixed Tryz.func222 (by kernel_rfl) (by kernel_rfl) ?_
  unfold F_impl_odd_1__p_impl_AtanhI_1
  refine Run.y (gv := vIv) (fun _ => ?_) (fun _ => ?_)
  · refine Run.q (e := vIv) (gv := vIv) (ok_impl_AtanhI_1 _) fun r1 _ => ?_
    refine Run.q (e := vIv) (gv := vIv) (ok_impl_NegI _) fun r2 _ => ?_
    exact Run.x 1
  · refine Run.q (e := vIv) (gv := vIv) (ok_impl_AtanhI_1 _) fun r3 _ => ?_
    exact Run.x 1

theorem ok_impl_monotonic__impl_odd_1_p_impl_AtanhI_1 (a0 : Iv) : Fun Tryz.prog 138 [(#[.func (.func 158) #[] #[]], 56)] #[vIv a0, .func (.func 222) #[] #[.pointer (some ⟨0, 0, none⟩)]] (vIv (F_impl_monotonic__impl_odd_1_p_impl_AtanhI_1 a0)) [(#[.func (.func 158) #[] #[]], 56)] := by
  refine Fun.ofH 400 E_ok mixed Tryz.func138 (by kernel_rfl) (by kernel_rfl) ?_
  unfold F_impl_monotonic__impl_odd_1_p_impl_AtanhI_1
  refine Run.q (e := vB) (gv := vIv) (ok_impl_IsWhole _) fun r1 _ => ?_
  refine Run.y (gv := vIv) (fun _ => ?_) (fun _ => ?_)
  · refine Run.q (e := vIv) (gv := vIv) (ok_impl_Whole) fun r2 _ => ?_
    exact Run.x 1
  · refine Run.w (e := vIv) (gv := vIv) [0] (ok_impl_odd_1__p_impl_AtanhI_1 _) fun r3 _ => ?_
    refine Run.w (e := vIv) (gv := vIv) [0] (ok_impl_odd_1__p_impl_AtanhI_1 _) fun r4 _ => ?_
    refine Run.q (e := vB) (gv := vIv) (ok_impl_areBounded _ _) fun r5 _ => ?_
    refine Run.y (gv := vIv) (fun _ => ?_) (fun _ => ?_)
    · refine Run.q (e := vIv) (gv := vIv) (ok_impl_Whole) fun r6 _ => ?_
      exact Run.x 1
    · refine Run.q (e := vIv) (gv := vIv) (ok_impl_bounded _ _ _) fun r7 _ => ?_
      exact Run.x 1

theorem ok_impl_AtanhI (a0 : Iv) : Fun Tryz.prog 73 [] #[vIv a0] (vIv (F_impl_AtanhI a0)) [] := by
  refine Fun.ofH 400 E_ok mixed Tryz.func73 (by kernel_rfl) (by kernel_rfl) ?_
  unfold F_impl_AtanhI
  refine Run.o (by kernel_rfl) ?_ ?_
  · refine Run.m (by kernel_rfl) (by kernel_rfl) (ok_impl_odd 158) (by kernel_rfl) (by kernel_rfl) (by kernel_rfl) ?_
    refine Run.w (e := vIv) (gv := vIv) [2] (ok_impl_monotonic__impl_odd_1_p_impl_AtanhI_1 _) fun r1 hr1 => ?_
    exact Run.x 0
  · refine Run.m (by kernel_rfl) (by kernel_rfl) (ok_impl_odd 158) (by kernel_rfl) (by kernel_rfl) (by kernel_rfl) ?_
    refine Run.w (e := vIv) (gv := vIv) [2] (ok_impl_monotonic__impl_odd_1_p_impl_AtanhI_1 _) fun r2 hr2 => ?_
    exact Run.x 0

theorem ok_impl_planar (a0 : Iv) (a1 : Iv) : Fun Tryz.prog 72 [] #[vIv a0, vIv a1] (vT_Pn_I (F_impl_planar a0 a1)) [] := by
  refine Fun.ofH 400 E_ok mixed Tryz.func72 (by kernel_rfl) (by kernel_rfl) ?_
  unfold F_impl_planar
  refine Run.q (e := vB) (gv := vT_Pn_I) (ok_impl_areBounded _ _) fun r1 _ => ?_
  refine Run.y (gv := vT_Pn_I) (fun _ => ?_) (fun _ => ?_)
  · exact Run.x 0
  · exact Run.x 0

theorem ok_impl_TransverseForward (a0 : Pj) (a1 : Pt) : Fun Tryz.prog 23 [] #[vPj a0, vPt a1] (vT_Pn_I (F_impl_TransverseForward a0 a1)) [] := by
  refine Fun.ofH 400 E_ok mixed Tryz.func23 (by kernel_rfl) (by kernel_rfl) ?_
  unfold F_impl_TransverseForward
  refine Run.q (e := vT_Iv_Iv_Iv_I) (gv := vT_Pn_I) (ok_impl_transverse _ _) fun r1 _ => ?_
  refine Run.y (gv := vT_Pn_I) (fun _ => ?_) (fun _ => ?_)
  · exact Run.x 0
  · refine Run.q (e := vIv) (gv := vT_Pn_I) (ok_impl_AtanhI _) fun r2 _ => ?_
    refine Run.q (e := vIv) (gv := vT_Pn_I) (ok_impl_SinI _) fun r3 _ => ?_
    refine Run.q (e := vIv) (gv := vT_Pn_I) (ok_impl_CosI _) fun r4 _ => ?_
    refine Run.q (e := vIv) (gv := vT_Pn_I) (ok_impl_CosI _) fun r5 _ => ?_
    refine Run.q (e := vIv) (gv := vT_Pn_I) (ok_impl_MulI _ _) fun r6 _ => ?_
    refine Run.q (e := vIv) (gv := vT_Pn_I) (ok_impl_DirectionI _ _) fun r7 _ => ?_
    refine Run.q (e := vIv) (gv := vT_Pn_I) (ok_impl_RadiansOf _) fun r8 _ => ?_
    refine Run.q (e := vIv) (gv := vT_Pn_I) (ok_impl_SubI _ _) fun r9 _ => ?_
    refine Run.q (e := vT_Pn_I) (gv := vT_Pn_I) (ok_impl_planar _ _) fun r10 _ => ?_
    exact Run.x 0

theorem ok_laws_eqPlanar (a0 : Pn) (a1 : Pn) : Fun Tryz.prog 24 [] #[vPn a0, vPn a1] (vB (F_laws_eqPlanar a0 a1)) [] := by
  refine Fun.ofH 400 E_ok mixed Tryz.func24 (by kernel_rfl) (by kernel_rfl) ?_
  unfold F_laws_eqPlanar
  refine Run.q (e := vB) (gv := vB) (ok_laws_eqInterval _ _) fun r1 _ => ?_
  refine Run.y (gv := vB) (fun _ => ?_) (fun _ => ?_)
  · exact Run.x 0
  · refine Run.q (e := vB) (gv := vB) (ok_laws_eqInterval _ _) fun r2 _ => ?_
    refine Run.y (gv := vB) (fun _ => ?_) (fun _ => ?_)
    · exact Run.x 0
    · exact Run.x 0

theorem ok_laws_FnExactTransverseForward (a0 : Pj) (a1 : Pt) : Fun Tryz.prog 7 [] #[vPj a0, vPt a1] (vB (F_laws_FnExactTransverseForward a0 a1)) [] := by
  refine Fun.ofH 400 E_ok mixed Tryz.func7 (by kernel_rfl) (by kernel_rfl) ?_
  unfold F_laws_FnExactTransverseForward
  refine Run.q (e := vPj) (gv := vB) (ok_laws_toProjection _) fun r1 _ => ?_
  refine Run.q (e := vPt) (gv := vB) (ok_laws_toPoint _) fun r2 _ => ?_
  refine Run.q (e := vT_Pn_I) (gv := vB) (ok_spec_TransverseForward _ _) fun r3 _ => ?_
  refine Run.q (e := vPj) (gv := vB) (ok_laws_toProjection _) fun r4 _ => ?_
  refine Run.q (e := vPt) (gv := vB) (ok_laws_toPoint _) fun r5 _ => ?_
  refine Run.q (e := vT_Pn_I) (gv := vB) (ok_impl_TransverseForward _ _) fun r6 _ => ?_
  refine Run.q (e := vB) (gv := vB) (ok_laws_eqPlanar _ _) fun r7 _ => ?_
  refine Run.y (gv := vB) (fun _ => ?_) (fun _ => ?_)
  · refine Run.z [true, true, true, true] ?_
    exact Run.x 0
  · refine Run.z [false, false, false] ?_
    refine Run.y (gv := vB) (fun _ => ?_) (fun _ => ?_)
    · exact Run.x 0
    · exact Run.x 0

theorem ok_spec_l18Kind (a0 : I64) : Fun Tryz.prog 163 [] #[vI a0] (vB (F_spec_l18Kind a0)) [] := by
  refine Fun.ofH 400 E_ok mixed Tryz.func163 (by kernel_rfl) (by kernel_rfl) ?_
  unfold F_spec_l18Kind
  refine Run.q (e := vB) (gv := vB) (ok_spec_l00In _ _ _) fun r1 _ => ?_
  exact Run.x 0

theorem ok_spec_l18Ok__pPj (b0 : Pj) : Fun Tryz.prog 76 [(#[.int .i64 b0.kind.val, .int .i64 b0.lat0.val, .int .i64 b0.lon0.val, .int .i64 b0.lat1.val, .int .i64 b0.lat2.val], 28)] #[.pointer (some ⟨0, 0, none⟩)] (vB (F_spec_l18Ok__pPj b0)) [(#[.int .i64 b0.kind.val, .int .i64 b0.lat0.val, .int .i64 b0.lon0.val, .int .i64 b0.lat1.val, .int .i64 b0.lat2.val], 28)] := by
  refine Fun.ofH 400 E_ok mixed Tryz.func76 (by kernel_rfl) (by kernel_rfl) ?_
  unfold F_spec_l18Ok__pPj
  refine Run.q (e := vB) (gv := vB) (ok_spec_l18Kind _) fun r1 _ => ?_
  refine Run.y (gv := vB) (fun _ => ?_) (fun _ => ?_)
  · refine Run.z [true, true, true] ?_
    refine Run.q (e := vB) (gv := vB) (ok_spec_ValidProjection _) fun r2 _ => ?_
    refine Run.z [true] ?_
    exact Run.x 1
  · refine Run.z [false, false, false, false] ?_
    exact Run.x 1

theorem ok_spec_SamePlace (a0 : Pt) (a1 : Pt) : Fun Tryz.prog 78 [] #[vPt a0, vPt a1] (vT_B_I (F_spec_SamePlace a0 a1)) [] := by
  refine Fun.ofH 400 E_ok mixed Tryz.func78 (by kernel_rfl) (by kernel_rfl) ?_
  unfold F_spec_SamePlace
  refine Run.q (e := vB) (gv := vT_B_I) (ok_spec_l11Ok _) fun r1 _ => ?_
  refine Run.y (gv := vT_B_I) (fun _ => ?_) (fun _ => ?_)
  · refine Run.z [true, true, true, true] ?_
    exact Run.x 0
  · refine Run.z [false] ?_
    refine Run.q (e := vB) (gv := vT_B_I) (ok_spec_l11Ok _) fun r2 _ => ?_
    refine Run.z [false, false] ?_
    refine Run.y (gv := vT_B_I) (fun _ => ?_) (fun _ => ?_)
    · exact Run.x 0
    · refine Run.y (gv := vT_B_I) (fun _ => ?_) (fun _ => ?_)
      · refine Run.z [true, true, true, true, true, true, true] ?_
        exact Run.x 0
      · refine Run.z [false, false, false, false, false] ?_
        refine Run.y (gv := vT_B_I) (fun _ => ?_) (fun _ => ?_)
        · refine Run.z [true] ?_
          refine Run.q (e := vB) (gv := vT_B_I) (ok_spec_l11Pole _) fun r3 _ => ?_
          refine Run.z [false, true, false] ?_
          exact Run.x 0
        · refine Run.z [false, false, false, false] ?_
          exact Run.x 0

theorem ok_spec_l18Local__pPj (b0 : Pj) (a0 : Pt) : Fun Tryz.prog 79 [(#[.int .i64 b0.kind.val, .int .i64 b0.lat0.val, .int .i64 b0.lon0.val, .int .i64 b0.lat1.val, .int .i64 b0.lat2.val], 28)] #[.pointer (some ⟨0, 0, none⟩), vPt a0] (vVc (F_spec_l18Local__pPj b0 a0)) [(#[.int .i64 b0.kind.val, .int .i64 b0.lat0.val, .int .i64 b0.lon0.val, .int .i64 b0.lat1.val, .int .i64 b0.lat2.val], 28)] := by
  refine Fun.ofH 400 E_ok mixed Tryz.func79 (by kernel_rfl) (by kernel_rfl) ?_
  unfold F_spec_l18Local__pPj
  refine Run.q (e := vIv) (gv := vVc) (ok_spec_RadiansOf _) fun r1 _ => ?_
  refine Run.q (e := vIv) (gv := vVc) (ok_spec_RadiansOf _) fun r2 _ => ?_
  refine Run.q (e := vI) (gv := vVc) (ok_spec_l11Wrap _) fun r3 _ => ?_
  refine Run.q (e := vIv) (gv := vVc) (ok_spec_RadiansOf _) fun r4 _ => ?_
  refine Run.q (e := vIv) (gv := vVc) (ok_spec_CosI _) fun r5 _ => ?_
  refine Run.q (e := vIv) (gv := vVc) (ok_spec_SinI _) fun r6 _ => ?_
  refine Run.q (e := vIv) (gv := vVc) (ok_spec_MulI _ _) fun r7 _ => ?_
  refine Run.q (e := vIv) (gv := vVc) (ok_spec_CosI _) fun r8 _ => ?_
  refine Run.q (e := vIv) (gv := vVc) (ok_spec_SinI _) fun r9 _ => ?_
  refine Run.q (e := vIv) (gv := vVc) (ok_spec_MulI _ _) fun r10 _ => ?_
  refine Run.q (e := vIv) (gv := vVc) (ok_spec_SinI _) fun r11 _ => ?_
  refine Run.q (e := vIv) (gv := vVc) (ok_spec_CosI _) fun r12 _ => ?_
  refine Run.q (e := vIv) (gv := vVc) (ok_spec_MulI _ _) fun r13 _ => ?_
  refine Run.q (e := vIv) (gv := vVc) (ok_spec_CosI _) fun r14 _ => ?_
  refine Run.q (e := vIv) (gv := vVc) (ok_spec_MulI _ _) fun r15 _ => ?_
  refine Run.q (e := vIv) (gv := vVc) (ok_spec_SubI _ _) fun r16 _ => ?_
  refine Run.q (e := vIv) (gv := vVc) (ok_spec_SinI _) fun r17 _ => ?_
  refine Run.q (e := vIv) (gv := vVc) (ok_spec_SinI _) fun r18 _ => ?_
  refine Run.q (e := vIv) (gv := vVc) (ok_spec_MulI _ _) fun r19 _ => ?_
  refine Run.q (e := vIv) (gv := vVc) (ok_spec_CosI _) fun r20 _ => ?_
  refine Run.q (e := vIv) (gv := vVc) (ok_spec_CosI _) fun r21 _ => ?_
  refine Run.q (e := vIv) (gv := vVc) (ok_spec_MulI _ _) fun r22 _ => ?_
  refine Run.q (e := vIv) (gv := vVc) (ok_spec_CosI _) fun r23 _ => ?_
  refine Run.q (e := vIv) (gv := vVc) (ok_spec_MulI _ _) fun r24 _ => ?_
  refine Run.q (e := vIv) (gv := vVc) (ok_spec_AddI _ _) fun r25 _ => ?_
  exact Run.x 1

theorem ok_spec_LessI (a0 : Iv) (a1 : Iv) : Fun Tryz.prog 164 [] #[vIv a0, vIv a1] (vI (F_spec_LessI a0 a1)) [] := by
  refine Fun.ofH 400 E_ok mixed Tryz.func164 (by kernel_rfl) (by kernel_rfl) ?_
  unfold F_spec_LessI
  refine Run.q (e := vB) (gv := vI) (ok_spec_l04Ok _) fun r1 _ => ?_
  refine Run.y (gv := vI) (fun _ => ?_) (fun _ => ?_)
  · refine Run.z [true, true, true, true] ?_
    exact Run.x 0
  · refine Run.z [false] ?_
    refine Run.q (e := vB) (gv := vI) (ok_spec_l04Ok _) fun r2 _ => ?_
    refine Run.z [false, false] ?_
    refine Run.y (gv := vI) (fun _ => ?_) (fun _ => ?_)
    · exact Run.x 0
    · refine Run.y (gv := vI) (fun _ => ?_) (fun _ => ?_)
      · exact Run.x 0
      · refine Run.y (gv := vI) (fun _ => ?_) (fun _ => ?_)
        · exact Run.x 0
        · exact Run.x 0

theorem ok_spec_l10Ends (a0 : Iv) : Fun Tryz.prog 272 [] #[vIv a0] (vT_I_I (F_spec_l10Ends a0)) [] := by
  refine Fun.ofH 400 E_ok mixed Tryz.func272 (by kernel_rfl) (by kernel_rfl) ?_
  unfold F_spec_l10Ends
  refine Run.q (e := vIv) (gv := vT_I_I) (ok_spec_AbsI _) fun r1 _ => ?_
  exact Run.x 0

theorem ok_spec_l10Sum (a0 : I64) (a1 : I64) (a2 : I64) : Fun Tryz.prog 274 [] #[vI a0, vI a1, vI a2] (vWd (F_spec_l10Sum a0 a1 a2)) [] := by
  refine Fun.ofH 400 E_ok mixed Tryz.func274 (by kernel_rfl) (by kernel_rfl) ?_
  unfold F_spec_l10Sum
  refine Run.q (e := vWd) (gv := vWd) (ok_spec_l02Mul _ _) fun r1 _ => ?_
  refine Run.q (e := vWd) (gv := vWd) (ok_spec_l02Mul _ _) fun r2 _ => ?_
  refine Run.q (e := vWd) (gv := vWd) (ok_spec_l02Plus _ _) fun r3 _ => ?_
  refine Run.q (e := vWd) (gv := vWd) (ok_spec_l02Mul _ _) fun r4 _ => ?_
  refine Run.q (e := vWd) (gv := vWd) (ok_spec_l02Plus _ _) fun r5 _ => ?_
  exact Run.x 0

theorem ok_spec_NormV (a0 : Vc) : Fun Tryz.prog 225 [] #[vVc a0] (vIv (F_spec_NormV a0)) [] := by
  refine Fun.ofH 400 E_ok mixed Tryz.func225 (by kernel_rfl) (by kernel_rfl) ?_
  unfold F_spec_NormV
  refine Run.q (e := vB) (gv := vIv) (ok_spec_IsWhole _) fun r1 _ => ?_
  refine Run.y (gv := vIv) (fun _ => ?_) (fun _ => ?_)
  · refine Run.z [true, true, true, true, true, true, true, true] ?_
    refine Run.q (e := vIv) (gv := vIv) (ok_spec_Whole) fun r2 _ => ?_
    exact Run.x 0
  · refine Run.z [false, false] ?_
    refine Run.q (e := vB) (gv := vIv) (ok_spec_IsWhole _) fun r3 _ => ?_
    refine Run.z [false] ?_
    refine Run.y (gv := vIv) (fun _ => ?_) (fun _ => ?_)
    · refine Run.z [true, true, true, true] ?_
      refine Run.q (e := vIv) (gv := vIv) (ok_spec_Whole) fun r4 _ => ?_
      exact Run.x 0
    · refine Run.z [false, false] ?_
      refine Run.q (e := vB) (gv := vIv) (ok_spec_IsWhole _) fun r5 _ => ?_
      refine Run.z [false] ?_
      refine Run.y (gv := vIv) (fun _ => ?_) (fun _ => ?_)
      · refine Run.q (e := vIv) (gv := vIv) (ok_spec_Whole) fun r6 _ => ?_
        exact Run.x 0
      · refine Run.q (e := vT_I_I) (gv := vIv) (ok_spec_l10Ends _) fun r7 _ => ?_
        refine Run.q (e := vT_I_I) (gv := vIv) (ok_spec_l10Ends _) fun r8 _ => ?_
        refine Run.q (e := vT_I_I) (gv := vIv) (ok_spec_l10Ends _) fun r9 _ => ?_
        refine Run.q (e := vWd) (gv := vIv) (ok_spec_l10Sum _ _ _) fun r10 _ => ?_
        refine Run.q (e := vU) (gv := vIv) (ok_spec_l02Root _) fun r11 _ => ?_
        refine Run.q (e := vWd) (gv := vIv) (ok_spec_l10Sum _ _ _) fun r12 _ => ?_
        refine Run.q (e := vU) (gv := vIv) (ok_spec_l02Root _) fun r13 _ => ?_
        refine Run.q (e := vWd) (gv := vIv) (ok_spec_l02Mul _ _) fun r14 _ => ?_
        refine Run.y (gv := vIv) (fun _ => ?_) (fun _ => ?_)
        · refine Run.y (gv := vIv) (fun _ => ?_) (fun _ => ?_)
          · refine Run.q (e := vIv) (gv := vIv) (ok_spec_Whole) fun r15 _ => ?_
            exact Run.x 0
          · exact Run.x 0
        · refine Run.y (gv := vIv) (fun _ => ?_) (fun _ => ?_)
          · refine Run.q (e := vIv) (gv := vIv) (ok_spec_Whole) fun r16 _ => ?_
            exact Run.x 0
          · exact Run.x 0

theorem ok_spec_l15Flat (a0 : Vc) : Fun Tryz.prog 165 [] #[vVc a0] (vIv (F_spec_l15Flat a0)) [] := by
  refine Fun.ofH 400 E_ok mixed Tryz.func165 (by kernel_rfl) (by kernel_rfl) ?_
  unfold F_spec_l15Flat
  refine Run.q (e := vIv) (gv := vIv) (ok_spec_NormV _) fun r1 _ => ?_
  exact Run.x 0

theorem ok_spec_l18Factor (a0 : I64) (a1 : Vc) : Fun Tryz.prog 80 [] #[vI a0, vVc a1] (vT_Iv_I (F_spec_l18Factor a0 a1)) [] := by
  refine Fun.ofH 400 E_ok mixed Tryz.func80 (by kernel_rfl) (by kernel_rfl) ?_
  unfold F_spec_l18Factor
  refine Run.q (e := vIv) (gv := vT_Iv_I) (ok_spec_Integer _) fun r1 _ => ?_
  refine Run.q (e := vIv) (gv := vT_Iv_I) (ok_spec_Integer _) fun r2 _ => ?_
  refine Run.y (gv := vT_Iv_I) (fun _ => ?_) (fun _ => ?_)
  · refine Run.q (e := vI) (gv := vT_Iv_I) (ok_spec_LessI _ _) fun r3 _ => ?_
    refine Run.y (gv := vT_Iv_I) (fun _ => ?_) (fun _ => ?_)
    · exact Run.x 0
    · refine Run.q (e := vIv) (gv := vT_Iv_I) (ok_spec_DivI _ _) fun r4 _ => ?_
      exact Run.x 0
  · refine Run.y (gv := vT_Iv_I) (fun _ => ?_) (fun _ => ?_)
    · refine Run.q (e := vIv) (gv := vT_Iv_I) (ok_spec_Integer _) fun r5 _ => ?_
      refine Run.q (e := vIv) (gv := vT_Iv_I) (ok_spec_AddI _ _) fun r6 _ => ?_
      refine Run.q (e := vIv) (gv := vT_Iv_I) (ok_spec_DivI _ _) fun r7 _ => ?_
      exact Run.x 0
    · refine Run.y (gv := vT_Iv_I) (fun _ => ?_) (fun _ => ?_)
      · refine Run.q (e := vI) (gv := vT_Iv_I) (ok_spec_LessI _ _) fun r8 _ => ?_
        refine Run.y (gv := vT_Iv_I) (fun _ => ?_) (fun _ => ?_)
        · exact Run.x 0
        · refine Run.y (gv := vT_Iv_I) (fun _ => ?_) (fun _ => ?_)
          · refine Run.q (e := vIv) (gv := vT_Iv_I) (ok_spec_Whole) fun r9 _ => ?_
            exact Run.x 0
          · exact Run.x 0
      · refine Run.y (gv := vT_Iv_I) (fun _ => ?_) (fun _ => ?_)
        · refine Run.q (e := vIv) (gv := vT_Iv_I) (ok_spec_l15Flat _) fun r10 _ => ?_
          refine Run.y (gv := vT_Iv_I) (fun _ => ?_) (fun _ => ?_)
          · refine Run.q (e := vIv) (gv := vT_Iv_I) (ok_spec_DirectionI _ _) fun r11 _ => ?_
            refine Run.q (e := vIv) (gv := vT_Iv_I) (ok_spec_DivI _ _) fun r12 _ => ?_
            exact Run.x 0
          · refine Run.q (e := vIv) (gv := vT_Iv_I) (ok_spec_DivI _ _) fun r13 _ => ?_
            refine Run.q (e := vIv) (gv := vT_Iv_I) (ok_spec_HullI _ _) fun r14 _ => ?_
            exact Run.x 0
        · refine Run.q (e := vIv) (gv := vT_Iv_I) (ok_spec_Integer _) fun r15 _ => ?_
          refine Run.q (e := vIv) (gv := vT_Iv_I) (ok_spec_AddI _ _) fun r16 _ => ?_
          refine Run.q (e := vIv) (gv := vT_Iv_I) (ok_spec_DivI _ _) fun r17 _ => ?_
          refine Run.q (e := vIv) (gv := vT_Iv_I) (ok_spec_SqrtI _) fun r18 _ => ?_
          exact Run.x 0

theorem ok_spec_AzimuthalForward (a0 : Pj) (a1 : Pt) : Fun Tryz.prog 25 [] #[vPj a0, vPt a1] (vT_Pn_I (F_spec_AzimuthalForward a0 a1)) [] := by
  refine Fun.ofH 400 E_ok mixed Tryz.func25 (by kernel_rfl) (by kernel_rfl) ?_
  unfold F_spec_AzimuthalForward
  refine Run.w (e := vB) (gv := vT_Pn_I) [0] (ok_spec_l18Ok__pPj _) fun r1 _ => ?_
  refine Run.y (gv := vT_Pn_I) (fun _ => ?_) (fun _ => ?_)
  · refine Run.z [true, true, true, true] ?_
    exact Run.x 0
  · refine Run.z [false] ?_
    refine Run.q (e := vB) (gv := vT_Pn_I) (ok_spec_l11Ok _) fun r2 _ => ?_
    refine Run.z [false, false] ?_
    refine Run.y (gv := vT_Pn_I) (fun _ => ?_) (fun _ => ?_)
    · exact Run.x 0
    · refine Run.q (e := vI) (gv := vT_Pn_I) (ok_spec_l11Wrap _) fun r3 _ => ?_
      refine Run.q (e := vT_B_I) (gv := vT_Pn_I) (ok_spec_SamePlace _ _) fun r4 _ => ?_
      refine Run.y (gv := vT_Pn_I) (fun _ => ?_) (fun _ => ?_)
      · exact Run.x 0
      · refine Run.w (e := vVc) (gv := vT_Pn_I) [0] (ok_spec_l18Local__pPj _ _) fun r5 _ => ?_
        refine Run.q (e := vT_Iv_I) (gv := vT_Pn_I) (ok_spec_l18Factor _ _) fun r6 _ => ?_
        refine Run.y (gv := vT_Pn_I) (fun _ => ?_) (fun _ => ?_)
        · exact Run.x 0
        · refine Run.q (e := vIv) (gv := vT_Pn_I) (ok_spec_MulI _ _) fun r7 _ => ?_
          refine Run.q (e := vIv) (gv := vT_Pn_I) (ok_spec_MulI _ _) fun r8 _ => ?_
          refine Run.q (e := vB) (gv := vT_Pn_I) (ok_spec_IsWhole _) fun r9 _ => ?_
          refine Run.y (gv := vT_Pn_I) (fun _ => ?_) (fun _ => ?_)
          · refine Run.z [true, true, true, true] ?_
            exact Run.x 0
          · refine Run.z [false, false] ?_
            refine Run.q (e := vB) (gv := vT_Pn_I) (ok_spec_IsWhole _) fun r10 _ => ?_
            refine Run.z [false] ?_
            refine Run.y (gv := vT_Pn_I) (fun _ => ?_) (fun _ => ?_)
            · exact Run.x 0
            · exact Run.x 0

theorem ok_impl_isAzimuthalOne (a0 : Pj) : Fun Tryz.prog 168 [] #[vPj a0] (vB (F_impl_isAzimuthalOne a0)) [] := by
  refine Fun.ofH 400 E_ok mixed Tryz.func168 (by kernel_rfl) (by kernel_rfl) ?_
  unfold F_impl_isAzimuthalOne
  refine Run.q (e := vB) (gv := vB) (ok_impl_ValidProjection _) fun r1 _ => ?_
  refine Run.y (gv := vB) (fun _ => ?_) (fun _ => ?_)
  · refine Run.z [true, true] ?_
    refine Run.q (e := vB) (gv := vB) (ok_impl_isAzimuthal _) fun r2 _ => ?_
    refine Run.z [true] ?_
    exact Run.x 0
  · refine Run.z [false, false, false] ?_
    exact Run.x 0

end Go.Proofs.YtgofhiehdpggkaaGreat.Abs
