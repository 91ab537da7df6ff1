/- The program's functions are these; part 5 (written by w.py). -/
import Derived.Test.YtcdkepbgjgcjfaaGreatDsE
import Derived.Test.YtcdkepbgjgcjfaaGreatDsF3
import Derived.Test.YtcdkepbgjgcjfaaGreatDsQpre
import Derived.Test.YtcdkepbgjgcjfaaGreatDsK4
set_option linter.unusedVariables false
set_option linter.unusedSimpArgs false
namespace Go.Proofs.YtcdkepbgjgcjfaaGreat.Abs
open Go Go.RowKit

theorem ok_impl_FixFloor (a0 : I64) (a1 : I64) : Fun Tryz.prog 309 [] #[vI a0, vI a1] (vT_I_B (F_impl_FixFloor a0 a1)) [] := by
 refine Fun.ofH 400 E_ok mixed Tryz.func309 (by kernel_rfl) (by kernel_rfl) ?_
 unfold F_impl_FixFloor
 refine Run.q (e := vT_I_B) (gv := vT_I_B) (ok_impl_MulDivFloor _ _ _) fun r1 _ => ?_
 refine Run.q (e := vT_I_B) (gv := vT_I_B) (ok_impl_fixed _ _) fun r2 _ => ?_
 exact Run.x 0

theorem ok_impl_mulDivCeil (a0 : I64) (a1 : I64) (a2 : I64) : Fun Tryz.prog 318 [] #[vI a0, vI a1, vI a2] (vT_I_B (F_impl_mulDivCeil a0 a1 a2)) [] := by
 refine Fun.ofH 400 E_ok mixed Tryz.func318 (by kernel_rfl) (by kernel_rfl) ?_
 unfold F_impl_mulDivCeil
 refine Run.q (e := vWd) (gv := vT_I_B) (ok_impl_WideMul _ _) fun r1 _ => ?_
 refine Run.q (e := vT_Wd_I_B) (gv := vT_I_B) (ok_impl_WideDiv _ _) fun r2 _ => ?_
 refine Run.y (gv := vT_I_B) (fun _ => ?_) (fun _ => ?_)
 ·exact Run.x 0
 ·refine Run.q (e := vT_I_B) (gv := vT_I_B) (ok_impl_WideInt _) fun r3 _ => ?_
  refine Run.y (gv := vT_I_B) (fun _ => ?_) (fun _ => ?_)
  ·refine Run.z [true, true, true, true, true] ?_
   exact Run.x 0
  ·refine Run.z [false, false] ?_
   refine Run.y (gv := vT_I_B) (fun _ => ?_) (fun _ => ?_)
   ·refine Run.z [true, false, true, false] ?_
    refine Run.y (gv := vT_I_B) (fun _ => ?_) (fun _ => ?_)
    ·exact Run.x 0
    ·refine Run.y (gv := vT_I_B) (fun _ => ?_) (fun _ => ?_)
     ·exact Run.x 0
     ·exact Run.x 0
   ·refine Run.z [false, false, false, false, false] ?_
    refine Run.y (gv := vT_I_B) (fun _ => ?_) (fun _ => ?_)
    ·exact Run.x 0
    ·exact Run.x 0

theorem ok_impl_FixCeil (a0 : I64) (a1 : I64) : Fun Tryz.prog 310 [] #[vI a0, vI a1] (vT_I_B (F_impl_FixCeil a0 a1)) [] := by
 refine Fun.ofH 400 E_ok mixed Tryz.func310 (by kernel_rfl) (by kernel_rfl) ?_
 unfold F_impl_FixCeil
 refine Run.q (e := vT_I_B) (gv := vT_I_B) (ok_impl_mulDivCeil _ _ _) fun r1 _ => ?_
 refine Run.q (e := vT_I_B) (gv := vT_I_B) (ok_impl_fixed _ _) fun r2 _ => ?_
 exact Run.x 0

theorem ok_impl_Quotient (a0 : I64) (a1 : I64) : Fun Tryz.prog 286 [] #[vI a0, vI a1] (vIv (F_impl_Quotient a0 a1)) [] := by
 refine Fun.ofH 400 E_ok mixed Tryz.func286 (by kernel_rfl) (by kernel_rfl) ?_
 unfold F_impl_Quotient
 refine Run.y (gv := vIv) (fun _ => ?_) (fun _ => ?_)
 ·refine Run.y (gv := vIv) (fun _ => ?_) (fun _ => ?_)
  ·refine Run.z [true, true, true] ?_
   refine Run.q (e := vIv) (gv := vIv) (ok_impl_Whole) fun r1 _ => ?_
   exact Run.x 0
  ·refine Run.z [false, false] ?_
   refine Run.y (gv := vIv) (fun _ => ?_) (fun _ => ?_)
   ·refine Run.q (e := vIv) (gv := vIv) (ok_impl_Whole) fun r2 _ => ?_
    exact Run.x 0
   ·refine Run.q (e := vT_I_B) (gv := vIv) (ok_impl_FixFloor _ _) fun r3 _ => ?_
    refine Run.q (e := vT_I_B) (gv := vIv) (ok_impl_FixCeil _ _) fun r4 _ => ?_
    refine Run.y (gv := vIv) (fun _ => ?_) (fun _ => ?_)
    ·refine Run.z [true] ?_
     refine Run.q (e := vIv) (gv := vIv) (ok_impl_bounded _ _ _) fun r5 _ => ?_
     exact Run.x 0
    ·refine Run.z [false] ?_
     refine Run.q (e := vIv) (gv := vIv) (ok_impl_bounded _ _ _) fun r6 _ => ?_
     exact Run.x 0
 ·refine Run.q (e := vT_I_B) (gv := vIv) (ok_impl_FixFloor _ _) fun r7 _ => ?_
  refine Run.q (e := vT_I_B) (gv := vIv) (ok_impl_FixCeil _ _) fun r8 _ => ?_
  refine Run.y (gv := vIv) (fun _ => ?_) (fun _ => ?_)
  ·refine Run.z [true] ?_
   refine Run.q (e := vIv) (gv := vIv) (ok_impl_bounded _ _ _) fun r9 _ => ?_
   exact Run.x 0
  ·refine Run.z [false] ?_
   refine Run.q (e := vIv) (gv := vIv) (ok_impl_bounded _ _ _) fun r10 _ => ?_
   exact Run.x 0

theorem ok_impl_ArcSeries (a0 : Iv) : Fun Tryz.prog 307 [] #[vIv a0] (vIv (F_impl_ArcSeries a0)) [] := by
 refine Fun.ofH 400 E_ok mixed Tryz.func307 (by kernel_rfl) (by kernel_rfl) ?_
 unfold F_impl_ArcSeries
 refine Run.q (e := vB) (gv := vIv) (ok_impl_InsideI _ _) fun r1 _ => ?_
 refine Run.y (gv := vIv) (fun _ => ?_) (fun _ => ?_)
 ·refine Run.q (e := vIv) (gv := vIv) (ok_impl_Whole) fun r2 _ => ?_
  exact Run.x 0
 ·refine Run.q (e := vIv) (gv := vIv) (ok_impl_SqrI _) fun r3 _ => ?_
  refine Run.q (e := vIv) (gv := vIv) (ok_impl_Quotient _ _) fun r4 _ => ?_
  refine Run.u 400 E_ok mixed Tryz.func307 ?_
  refine Run.z [true] ?_
  refine Run.q (e := vIv) (gv := vIv) (ok_impl_Quotient _ _) fun r5 _ => ?_
  refine Run.q (e := vIv) (gv := vIv) (ok_impl_MulI _ _) fun r6 _ => ?_
  refine Run.q (e := vIv) (gv := vIv) (ok_impl_SubI _ _) fun r7 _ => ?_
  refine Run.u 400 E_ok mixed Tryz.func307 ?_
  refine Run.z [true] ?_
  refine Run.q (e := vIv) (gv := vIv) (ok_impl_Quotient _ _) fun r8 _ => ?_
  refine Run.q (e := vIv) (gv := vIv) (ok_impl_MulI _ _) fun r9 _ => ?_
  refine Run.q (e := vIv) (gv := vIv) (ok_impl_SubI _ _) fun r10 _ => ?_
  refine Run.u 400 E_ok mixed Tryz.func307 ?_
  refine Run.z [true] ?_
  refine Run.q (e := vIv) (gv := vIv) (ok_impl_Quotient _ _) fun r11 _ => ?_
  refine Run.q (e := vIv) (gv := vIv) (ok_impl_MulI _ _) fun r12 _ => ?_
  refine Run.q (e := vIv) (gv := vIv) (ok_impl_SubI _ _) fun r13 _ => ?_
  refine Run.u 400 E_ok mixed Tryz.func307 ?_
  refine Run.z [true] ?_
  refine Run.q (e := vIv) (gv := vIv) (ok_impl_Quotient _ _) fun r14 _ => ?_
  refine Run.q (e := vIv) (gv := vIv) (ok_impl_MulI _ _) fun r15 _ => ?_
  refine Run.q (e := vIv) (gv := vIv) (ok_impl_SubI _ _) fun r16 _ => ?_
  refine Run.u 400 E_ok mixed Tryz.func307 ?_
  refine Run.z [true] ?_
  refine Run.q (e := vIv) (gv := vIv) (ok_impl_Quotient _ _) fun r17 _ => ?_
  refine Run.q (e := vIv) (gv := vIv) (ok_impl_MulI _ _) fun r18 _ => ?_
  refine Run.q (e := vIv) (gv := vIv) (ok_impl_SubI _ _) fun r19 _ => ?_
  refine Run.u 400 E_ok mixed Tryz.func307 ?_
  refine Run.z [true] ?_
  refine Run.q (e := vIv) (gv := vIv) (ok_impl_Quotient _ _) fun r20 _ => ?_
  refine Run.q (e := vIv) (gv := vIv) (ok_impl_MulI _ _) fun r21 _ => ?_
  refine Run.q (e := vIv) (gv := vIv) (ok_impl_SubI _ _) fun r22 _ => ?_
  refine Run.u 400 E_ok mixed Tryz.func307 ?_
  refine Run.z [true] ?_
  refine Run.q (e := vIv) (gv := vIv) (ok_impl_Quotient _ _) fun r23 _ => ?_
  refine Run.q (e := vIv) (gv := vIv) (ok_impl_MulI _ _) fun r24 _ => ?_
  refine Run.q (e := vIv) (gv := vIv) (ok_impl_SubI _ _) fun r25 _ => ?_
  refine Run.u 400 E_ok mixed Tryz.func307 ?_
  refine Run.z [true] ?_
  refine Run.q (e := vIv) (gv := vIv) (ok_impl_Quotient _ _) fun r26 _ => ?_
  refine Run.q (e := vIv) (gv := vIv) (ok_impl_MulI _ _) fun r27 _ => ?_
  refine Run.q (e := vIv) (gv := vIv) (ok_impl_SubI _ _) fun r28 _ => ?_
  refine Run.u 400 E_ok mixed Tryz.func307 ?_
  refine Run.z [true] ?_
  refine Run.q (e := vIv) (gv := vIv) (ok_impl_Quotient _ _) fun r29 _ => ?_
  refine Run.q (e := vIv) (gv := vIv) (ok_impl_MulI _ _) fun r30 _ => ?_
  refine Run.q (e := vIv) (gv := vIv) (ok_impl_SubI _ _) fun r31 _ => ?_
  refine Run.u 400 E_ok mixed Tryz.func307 ?_
  refine Run.z [true] ?_
  refine Run.q (e := vIv) (gv := vIv) (ok_impl_Quotient _ _) fun r32 _ => ?_
  refine Run.q (e := vIv) (gv := vIv) (ok_impl_MulI _ _) fun r33 _ => ?_
  refine Run.q (e := vIv) (gv := vIv) (ok_impl_SubI _ _) fun r34 _ => ?_
  refine Run.u 400 E_ok mixed Tryz.func307 ?_
  refine Run.z [false] ?_
  refine Run.q (e := vIv) (gv := vIv) (ok_impl_MulI _ _) fun r35 _ => ?_
  refine Run.q (e := vIv) (gv := vIv) (ok_impl_tiny) fun r36 _ => ?_
  refine Run.q (e := vIv) (gv := vIv) (ok_impl_AddI _ _) fun r37 _ => ?_
  exact Run.x 0

theorem ok_impl_DoubleI (a0 : Iv) : Fun Tryz.prog 194 [] #[vIv a0] (vIv (F_impl_DoubleI a0)) [] := by
 refine Fun.ofH 400 E_ok mixed Tryz.func194 (by kernel_rfl) (by kernel_rfl) ?_
 unfold F_impl_DoubleI
 refine Run.q (e := vIv) (gv := vIv) (ok_impl_AddI _ _) fun r1 _ => ?_
 exact Run.x 0

theorem ok_impl_fourfold (a0 : Iv) : Fun Tryz.prog 284 [] #[vIv a0] (vIv (F_impl_fourfold a0)) [] := by
 refine Fun.ofH 400 E_ok mixed Tryz.func284 (by kernel_rfl) (by kernel_rfl) ?_
 unfold F_impl_fourfold
 refine Run.q (e := vIv) (gv := vIv) (ok_impl_halved _) fun r1 _ => ?_
 refine Run.q (e := vIv) (gv := vIv) (ok_impl_halved _) fun r2 _ => ?_
 refine Run.q (e := vIv) (gv := vIv) (ok_impl_ArcSeries _) fun r3 _ => ?_
 refine Run.q (e := vIv) (gv := vIv) (ok_impl_DoubleI _) fun r4 _ => ?_
 refine Run.q (e := vIv) (gv := vIv) (ok_impl_DoubleI _) fun r5 _ => ?_
 exact Run.x 0

theorem ok_impl_AtanAt_r : ∀ (fu : Nat) (a0 : I64) (hm : min (0 - a0.val).toNat 1 < fu), Fun Tryz.prog 238 [] #[vI a0] (vIv (F_impl_AtanAt_r fu a0)) [] := by
 intro fu
 induction fu with
 | zero => intro a0 hm; exact absurd hm (Nat.not_lt_zero _)
 | succ fu ih =>
  intro a0 hm
  refine Fun.ofH 400 E_ok mixed Tryz.func238 (by kernel_rfl) (by kernel_rfl) ?_
  unfold F_impl_AtanAt_r
  unfold F_impl_AtanAt_b
  refine Run.q (e := vB) (gv := vIv) (ok_impl_isOpen _) fun r1 hr1 => ?_
  refine Run.y (gv := vIv) (fun h2 => ?_) (fun h2 => ?_)
  ·refine Run.q (e := vIv) (gv := vIv) (ok_impl_halfCircle) fun r3 hr3 => ?_
   exact Run.x 0
  ·refine Run.y (gv := vIv) (fun h4 => ?_) (fun h4 => ?_)
   ·refine Run.q (e := vIv) (gv := vIv) (ih (w64 (0 - a0.val)) (by rw [hr1] at h2; simp [F_impl_isOpen, c64_val] at h2; simp only [w64_val, decide_eq_true_eq, decide_eq_false_iff_not] at *; omega)) fun r5 hr5 => ?_
    refine Run.q (e := vIv) (gv := vIv) (ok_impl_NegI _) fun r6 hr6 => ?_
    exact Run.x 0
   ·refine Run.y (gv := vIv) (fun h7 => ?_) (fun h7 => ?_)
    ·refine Run.q (e := vIv) (gv := vIv) (ok_impl_TurnI _) fun r8 hr8 => ?_
     refine Run.q (e := vIv) (gv := vIv) (ok_impl_Integer _) fun r9 hr9 => ?_
     refine Run.q (e := vIv) (gv := vIv) (ok_impl_at _) fun r10 hr10 => ?_
     refine Run.q (e := vIv) (gv := vIv) (ok_impl_DivI _ _) fun r11 hr11 => ?_
     refine Run.q (e := vIv) (gv := vIv) (ok_impl_fourfold _) fun r12 hr12 => ?_
     refine Run.q (e := vIv) (gv := vIv) (ok_impl_SubI _ _) fun r13 hr13 => ?_
     exact Run.x 0
    ·refine Run.q (e := vIv) (gv := vIv) (ok_impl_at _) fun r14 hr14 => ?_
     refine Run.q (e := vIv) (gv := vIv) (ok_impl_fourfold _) fun r15 hr15 => ?_
     exact Run.x 0
theorem ok_impl_AtanAt (a0 : I64) : Fun Tryz.prog 238 [] #[vI a0] (vIv (F_impl_AtanAt a0)) [] := ok_impl_AtanAt_r 2 a0 (by omega)

theorem ok_impl_AtanI (a0 : Iv) : Fun Tryz.prog 173 [] #[vIv a0] (vIv (F_impl_AtanI a0)) [] := by
 refine Fun.ofH 400 E_ok mixed Tryz.func173 (by kernel_rfl) (by kernel_rfl) ?_
 unfold F_impl_AtanI
 refine Run.q (e := vB) (gv := vIv) (ok_impl_IsWhole _) fun r1 _ => ?_
 refine Run.y (gv := vIv) (fun _ => ?_) (fun _ => ?_)
 ·refine Run.q (e := vIv) (gv := vIv) (ok_impl_halfCircle) fun r2 _ => ?_
  exact Run.x 0
 ·refine Run.q (e := vIv) (gv := vIv) (ok_impl_AtanAt _) fun r3 _ => ?_
  refine Run.q (e := vIv) (gv := vIv) (ok_impl_AtanAt _) fun r4 _ => ?_
  refine Run.q (e := vIv) (gv := vIv) (ok_impl_HullI _ _) fun r5 _ => ?_
  exact Run.x 0

theorem ok_impl_DirectionAt (a0 : I64) (a1 : I64) : Fun Tryz.prog 170 [] #[vI a0, vI a1] (vIv (F_impl_DirectionAt a0 a1)) [] := by
 refine Fun.ofH 400 E_ok mixed Tryz.func170 (by kernel_rfl) (by kernel_rfl) ?_
 unfold F_impl_DirectionAt
 refine Run.q (e := vB) (gv := vIv) (ok_impl_isOpen _) fun r1 _ => ?_
 refine Run.y (gv := vIv) (fun _ => ?_) (fun _ => ?_)
 ·refine Run.z [true, true, true, true, true, true, true, true, true] ?_
  refine Run.q (e := vIv) (gv := vIv) (ok_impl_Whole) fun r2 _ => ?_
  exact Run.x 0
 ·refine Run.z [false] ?_
  refine Run.q (e := vB) (gv := vIv) (ok_impl_isOpen _) fun r3 _ => ?_
  refine Run.z [false, false] ?_
  refine Run.y (gv := vIv) (fun _ => ?_) (fun _ => ?_)
  ·refine Run.z [true, true, true, true, true] ?_
   refine Run.q (e := vIv) (gv := vIv) (ok_impl_Whole) fun r4 _ => ?_
   exact Run.x 0
  ·refine Run.z [false, false] ?_
   refine Run.y (gv := vIv) (fun _ => ?_) (fun _ => ?_)
   ·refine Run.z [true, false, true, false] ?_
    refine Run.y (gv := vIv) (fun _ => ?_) (fun _ => ?_)
    ·refine Run.q (e := vIv) (gv := vIv) (ok_impl_Whole) fun r5 _ => ?_
     exact Run.x 0
    ·refine Run.q (e := vI) (gv := vIv) (ok_impl_abs _) fun r6 _ => ?_
     refine Run.q (e := vI) (gv := vIv) (ok_impl_abs _) fun r7 _ => ?_
     refine Run.y (gv := vIv) (fun _ => ?_) (fun _ => ?_)
     ·refine Run.q (e := vIv) (gv := vIv) (ok_impl_TurnI _) fun r8 _ => ?_
      refine Run.y (gv := vIv) (fun _ => ?_) (fun _ => ?_)
      ·refine Run.q (e := vIv) (gv := vIv) (ok_impl_TurnI _) fun r9 _ => ?_
       refine Run.q (e := vIv) (gv := vIv) (ok_impl_at _) fun r10 _ => ?_
       refine Run.q (e := vIv) (gv := vIv) (ok_impl_at _) fun r11 _ => ?_
       refine Run.q (e := vIv) (gv := vIv) (ok_impl_DivI _ _) fun r12 _ => ?_
       refine Run.q (e := vIv) (gv := vIv) (ok_impl_AtanI _) fun r13 _ => ?_
       refine Run.q (e := vIv) (gv := vIv) (ok_impl_SubI _ _) fun r14 _ => ?_
       exact Run.x 0
      ·refine Run.q (e := vIv) (gv := vIv) (ok_impl_at _) fun r15 _ => ?_
       refine Run.q (e := vIv) (gv := vIv) (ok_impl_at _) fun r16 _ => ?_
       refine Run.q (e := vIv) (gv := vIv) (ok_impl_DivI _ _) fun r17 _ => ?_
       refine Run.q (e := vIv) (gv := vIv) (ok_impl_AtanI _) fun r18 _ => ?_
       refine Run.q (e := vIv) (gv := vIv) (ok_impl_SubI _ _) fun r19 _ => ?_
       exact Run.x 0
     ·refine Run.q (e := vIv) (gv := vIv) (ok_impl_at _) fun r20 _ => ?_
      refine Run.q (e := vIv) (gv := vIv) (ok_impl_at _) fun r21 _ => ?_
      refine Run.q (e := vIv) (gv := vIv) (ok_impl_DivI _ _) fun r22 _ => ?_
      refine Run.q (e := vIv) (gv := vIv) (ok_impl_AtanI _) fun r23 _ => ?_
      refine Run.y (gv := vIv) (fun _ => ?_) (fun _ => ?_)
      ·exact Run.x 0
      ·refine Run.y (gv := vIv) (fun _ => ?_) (fun _ => ?_)
       ·refine Run.q (e := vIv) (gv := vIv) (ok_impl_TurnI _) fun r24 _ => ?_
        refine Run.q (e := vIv) (gv := vIv) (ok_impl_AddI _ _) fun r25 _ => ?_
        exact Run.x 0
       ·refine Run.q (e := vIv) (gv := vIv) (ok_impl_TurnI _) fun r26 _ => ?_
        refine Run.q (e := vIv) (gv := vIv) (ok_impl_AddI _ _) fun r27 _ => ?_
        exact Run.x 0
   ·refine Run.z [false, false, false, false, false] ?_
    refine Run.q (e := vI) (gv := vIv) (ok_impl_abs _) fun r28 _ => ?_
    refine Run.q (e := vI) (gv := vIv) (ok_impl_abs _) fun r29 _ => ?_
    refine Run.y (gv := vIv) (fun _ => ?_) (fun _ => ?_)
    ·refine Run.q (e := vIv) (gv := vIv) (ok_impl_TurnI _) fun r30 _ => ?_
     refine Run.y (gv := vIv) (fun _ => ?_) (fun _ => ?_)
     ·refine Run.q (e := vIv) (gv := vIv) (ok_impl_TurnI _) fun r31 _ => ?_
      refine Run.q (e := vIv) (gv := vIv) (ok_impl_at _) fun r32 _ => ?_
      refine Run.q (e := vIv) (gv := vIv) (ok_impl_at _) fun r33 _ => ?_
      refine Run.q (e := vIv) (gv := vIv) (ok_impl_DivI _ _) fun r34 _ => ?_
      refine Run.q (e := vIv) (gv := vIv) (ok_impl_AtanI _) fun r35 _ => ?_
      refine Run.q (e := vIv) (gv := vIv) (ok_impl_SubI _ _) fun r36 _ => ?_
      exact Run.x 0
     ·refine Run.q (e := vIv) (gv := vIv) (ok_impl_at _) fun r37 _ => ?_
      refine Run.q (e := vIv) (gv := vIv) (ok_impl_at _) fun r38 _ => ?_
      refine Run.q (e := vIv) (gv := vIv) (ok_impl_DivI _ _) fun r39 _ => ?_
      refine Run.q (e := vIv) (gv := vIv) (ok_impl_AtanI _) fun r40 _ => ?_
      refine Run.q (e := vIv) (gv := vIv) (ok_impl_SubI _ _) fun r41 _ => ?_
      exact Run.x 0
    ·refine Run.q (e := vIv) (gv := vIv) (ok_impl_at _) fun r42 _ => ?_
     refine Run.q (e := vIv) (gv := vIv) (ok_impl_at _) fun r43 _ => ?_
     refine Run.q (e := vIv) (gv := vIv) (ok_impl_DivI _ _) fun r44 _ => ?_
     refine Run.q (e := vIv) (gv := vIv) (ok_impl_AtanI _) fun r45 _ => ?_
     refine Run.y (gv := vIv) (fun _ => ?_) (fun _ => ?_)
     ·exact Run.x 0
     ·refine Run.y (gv := vIv) (fun _ => ?_) (fun _ => ?_)
      ·refine Run.q (e := vIv) (gv := vIv) (ok_impl_TurnI _) fun r46 _ => ?_
       refine Run.q (e := vIv) (gv := vIv) (ok_impl_AddI _ _) fun r47 _ => ?_
       exact Run.x 0
      ·refine Run.q (e := vIv) (gv := vIv) (ok_impl_TurnI _) fun r48 _ => ?_
       refine Run.q (e := vIv) (gv := vIv) (ok_impl_AddI _ _) fun r49 _ => ?_
       exact Run.x 0

theorem ok_impl_DirectionI (a0 : Iv) (a1 : Iv) : Fun Tryz.prog 76 [] #[vIv a0, vIv a1] (vIv (F_impl_DirectionI a0 a1)) [] := by
 refine Fun.ofH 400 E_ok mixed Tryz.func76 (by kernel_rfl) (by kernel_rfl) ?_
 unfold F_impl_DirectionI
 refine Run.q (e := vB) (gv := vIv) (ok_impl_areBounded _ _) fun r1 _ => ?_
 refine Run.y (gv := vIv) (fun _ => ?_) (fun _ => ?_)
 ·refine Run.z [true, true, true, true, true, true, true, true, true, true, true, true, true] ?_
  refine Run.q (e := vIv) (gv := vIv) (ok_impl_Whole) fun r2 _ => ?_
  exact Run.x 0
 ·refine Run.z [false] ?_
  refine Run.q (e := vB) (gv := vIv) (ok_impl_HasI _ _) fun r3 _ => ?_
  refine Run.z [false] ?_
  refine Run.y (gv := vIv) (fun _ => ?_) (fun _ => ?_)
  ·refine Run.z [true] ?_
   refine Run.q (e := vB) (gv := vIv) (ok_impl_HasI _ _) fun r4 _ => ?_
   refine Run.z [false, true, false] ?_
   refine Run.y (gv := vIv) (fun _ => ?_) (fun _ => ?_)
   ·refine Run.z [true, true, true, true, true, true, true, true] ?_
    refine Run.q (e := vIv) (gv := vIv) (ok_impl_Whole) fun r5 _ => ?_
    exact Run.x 0
   ·refine Run.z [false, false, false] ?_
    refine Run.y (gv := vIv) (fun _ => ?_) (fun _ => ?_)
    ·refine Run.z [true, true, false, true, false] ?_
     refine Run.y (gv := vIv) (fun _ => ?_) (fun _ => ?_)
     ·refine Run.z [true, true, false, true, false] ?_
      refine Run.y (gv := vIv) (fun _ => ?_) (fun _ => ?_)
      ·refine Run.q (e := vIv) (gv := vIv) (ok_impl_Whole) fun r6 _ => ?_
       exact Run.x 0
      ·refine Run.q (e := vIv) (gv := vIv) (ok_impl_DirectionAt _ _) fun r7 _ => ?_
       refine Run.q (e := vIv) (gv := vIv) (ok_impl_DirectionAt _ _) fun r8 _ => ?_
       refine Run.q (e := vIv) (gv := vIv) (ok_impl_HullI _ _) fun r9 _ => ?_
       refine Run.q (e := vIv) (gv := vIv) (ok_impl_DirectionAt _ _) fun r10 _ => ?_
       refine Run.q (e := vIv) (gv := vIv) (ok_impl_DirectionAt _ _) fun r11 _ => ?_
       refine Run.q (e := vIv) (gv := vIv) (ok_impl_HullI _ _) fun r12 _ => ?_
       refine Run.q (e := vIv) (gv := vIv) (ok_impl_HullI _ _) fun r13 _ => ?_
       exact Run.x 0
     ·refine Run.z [false, false, false, false, false, false] ?_
      refine Run.q (e := vIv) (gv := vIv) (ok_impl_DirectionAt _ _) fun r14 _ => ?_
      refine Run.q (e := vIv) (gv := vIv) (ok_impl_DirectionAt _ _) fun r15 _ => ?_
      refine Run.q (e := vIv) (gv := vIv) (ok_impl_HullI _ _) fun r16 _ => ?_
      refine Run.q (e := vIv) (gv := vIv) (ok_impl_DirectionAt _ _) fun r17 _ => ?_
      refine Run.q (e := vIv) (gv := vIv) (ok_impl_DirectionAt _ _) fun r18 _ => ?_
      refine Run.q (e := vIv) (gv := vIv) (ok_impl_HullI _ _) fun r19 _ => ?_
      refine Run.q (e := vIv) (gv := vIv) (ok_impl_HullI _ _) fun r20 _ => ?_
      exact Run.x 0
    ·refine Run.z [false, false, false, false, false, false, false, false, false, false, false, false] ?_
     refine Run.q (e := vIv) (gv := vIv) (ok_impl_DirectionAt _ _) fun r21 _ => ?_
     refine Run.q (e := vIv) (gv := vIv) (ok_impl_DirectionAt _ _) fun r22 _ => ?_
     refine Run.q (e := vIv) (gv := vIv) (ok_impl_HullI _ _) fun r23 _ => ?_
     refine Run.q (e := vIv) (gv := vIv) (ok_impl_DirectionAt _ _) fun r24 _ => ?_
     refine Run.q (e := vIv) (gv := vIv) (ok_impl_DirectionAt _ _) fun r25 _ => ?_
     refine Run.q (e := vIv) (gv := vIv) (ok_impl_HullI _ _) fun r26 _ => ?_
     refine Run.q (e := vIv) (gv := vIv) (ok_impl_HullI _ _) fun r27 _ => ?_
     exact Run.x 0
  ·refine Run.z [false, false, false, false, false, false, false, false] ?_
   refine Run.y (gv := vIv) (fun _ => ?_) (fun _ => ?_)
   ·refine Run.z [true, true, false, true, false] ?_
    refine Run.y (gv := vIv) (fun _ => ?_) (fun _ => ?_)
    ·refine Run.z [true, true, false, true, false] ?_
     refine Run.y (gv := vIv) (fun _ => ?_) (fun _ => ?_)
     ·refine Run.q (e := vIv) (gv := vIv) (ok_impl_Whole) fun r28 _ => ?_
      exact Run.x 0
     ·refine Run.q (e := vIv) (gv := vIv) (ok_impl_DirectionAt _ _) fun r29 _ => ?_
      refine Run.q (e := vIv) (gv := vIv) (ok_impl_DirectionAt _ _) fun r30 _ => ?_
      refine Run.q (e := vIv) (gv := vIv) (ok_impl_HullI _ _) fun r31 _ => ?_
      refine Run.q (e := vIv) (gv := vIv) (ok_impl_DirectionAt _ _) fun r32 _ => ?_
      refine Run.q (e := vIv) (gv := vIv) (ok_impl_DirectionAt _ _) fun r33 _ => ?_
      refine Run.q (e := vIv) (gv := vIv) (ok_impl_HullI _ _) fun r34 _ => ?_
      refine Run.q (e := vIv) (gv := vIv) (ok_impl_HullI _ _) fun r35 _ => ?_
      exact Run.x 0
    ·refine Run.z [false, false, false, false, false, false] ?_
     refine Run.q (e := vIv) (gv := vIv) (ok_impl_DirectionAt _ _) fun r36 _ => ?_
     refine Run.q (e := vIv) (gv := vIv) (ok_impl_DirectionAt _ _) fun r37 _ => ?_
     refine Run.q (e := vIv) (gv := vIv) (ok_impl_HullI _ _) fun r38 _ => ?_
     refine Run.q (e := vIv) (gv := vIv) (ok_impl_DirectionAt _ _) fun r39 _ => ?_
     refine Run.q (e := vIv) (gv := vIv) (ok_impl_DirectionAt _ _) fun r40 _ => ?_
     refine Run.q (e := vIv) (gv := vIv) (ok_impl_HullI _ _) fun r41 _ => ?_
     refine Run.q (e := vIv) (gv := vIv) (ok_impl_HullI _ _) fun r42 _ => ?_
     exact Run.x 0
   ·refine Run.z [false, false, false, false, false, false, false, false, false, false, false, false] ?_
    refine Run.q (e := vIv) (gv := vIv) (ok_impl_DirectionAt _ _) fun r43 _ => ?_
    refine Run.q (e := vIv) (gv := vIv) (ok_impl_DirectionAt _ _) fun r44 _ => ?_
    refine Run.q (e := vIv) (gv := vIv) (ok_impl_HullI _ _) fun r45 _ => ?_
    refine Run.q (e := vIv) (gv := vIv) (ok_impl_DirectionAt _ _) fun r46 _ => ?_
    refine Run.q (e := vIv) (gv := vIv) (ok_impl_DirectionAt _ _) fun r47 _ => ?_
    refine Run.q (e := vIv) (gv := vIv) (ok_impl_HullI _ _) fun r48 _ => ?_
    refine Run.q (e := vIv) (gv := vIv) (ok_impl_HullI _ _) fun r49 _ => ?_
    exact Run.x 0

theorem ok_impl_knownI (a0 : Iv) : Fun Tryz.prog 82 [] #[vIv a0] (vT_Iv_I (F_impl_knownI a0)) [] := by
 refine Fun.ofH 400 E_ok mixed Tryz.func82 (by kernel_rfl) (by kernel_rfl) ?_
 unfold F_impl_knownI
 refine Run.q (e := vB) (gv := vT_Iv_I) (ok_impl_IsWhole _) fun r1 _ => ?_
 refine Run.y (gv := vT_Iv_I) (fun _ => ?_) (fun _ => ?_)
 ·exact Run.x 0
 ·exact Run.x 0

theorem ok_impl_AzimuthTo (a0 : Pt) (a1 : Pt) : Fun Tryz.prog 35 [] #[vPt a0, vPt a1] (vT_Iv_I (F_impl_AzimuthTo a0 a1)) [] := by
 refine Fun.ofH 400 E_ok mixed Tryz.func35 (by kernel_rfl) (by kernel_rfl) ?_
 unfold F_impl_AzimuthTo
 refine Run.q (e := vB) (gv := vT_Iv_I) (ok_impl_areValid _ _) fun r1 _ => ?_
 refine Run.y (gv := vT_Iv_I) (fun _ => ?_) (fun _ => ?_)
 ·exact Run.x 0
 ·refine Run.q (e := vIv) (gv := vT_Iv_I) (ok_impl_LatOf _) fun r2 _ => ?_
  refine Run.q (e := vIv) (gv := vT_Iv_I) (ok_impl_LatOf _) fun r3 _ => ?_
  refine Run.q (e := vIv) (gv := vT_Iv_I) (ok_impl_differenceOf _ _) fun r4 _ => ?_
  refine Run.q (e := vVc) (gv := vT_Iv_I) (ok_impl_localOf _ _ _) fun r5 _ => ?_
  refine Run.q (e := vIv) (gv := vT_Iv_I) (ok_impl_DirectionI _ _) fun r6 _ => ?_
  refine Run.q (e := vT_Iv_I) (gv := vT_Iv_I) (ok_impl_knownI _) fun r7 _ => ?_
  exact Run.x 0

theorem ok_impl_LonOf (a0 : Pt) : Fun Tryz.prog 129 [] #[vPt a0] (vIv (F_impl_LonOf a0)) [] := by
 refine Fun.ofH 400 E_ok mixed Tryz.func129 (by kernel_rfl) (by kernel_rfl) ?_
 unfold F_impl_LonOf
 refine Run.q (e := vB) (gv := vIv) (ok_impl_ValidPoint _) fun r1 _ => ?_
 refine Run.y (gv := vIv) (fun _ => ?_) (fun _ => ?_)
 ·refine Run.q (e := vIv) (gv := vIv) (ok_impl_Whole) fun r2 _ => ?_
  exact Run.x 0
 ·refine Run.q (e := vIv) (gv := vIv) (ok_impl_RadiansOf _) fun r3 _ => ?_
  exact Run.x 0

theorem ok_impl_vectorOf (a0 : Pt) : Fun Tryz.prog 119 [] #[vPt a0] (vVc (F_impl_vectorOf a0)) [] := by
 refine Fun.ofH 400 E_ok mixed Tryz.func119 (by kernel_rfl) (by kernel_rfl) ?_
 unfold F_impl_vectorOf
 refine Run.q (e := vIv) (gv := vVc) (ok_impl_LatOf _) fun r1 _ => ?_
 refine Run.q (e := vIv) (gv := vVc) (ok_impl_LonOf _) fun r2 _ => ?_
 refine Run.q (e := vIv) (gv := vVc) (ok_impl_CosI _) fun r3 _ => ?_
 refine Run.q (e := vIv) (gv := vVc) (ok_impl_CosI _) fun r4 _ => ?_
 refine Run.q (e := vIv) (gv := vVc) (ok_impl_MulI _ _) fun r5 _ => ?_
 refine Run.q (e := vIv) (gv := vVc) (ok_impl_CosI _) fun r6 _ => ?_
 refine Run.q (e := vIv) (gv := vVc) (ok_impl_SinI _) fun r7 _ => ?_
 refine Run.q (e := vIv) (gv := vVc) (ok_impl_MulI _ _) fun r8 _ => ?_
 refine Run.q (e := vIv) (gv := vVc) (ok_impl_SinI _) fun r9 _ => ?_
 exact Run.x 0

theorem ok_impl_CrossV (a0 : Vc) (a1 : Vc) : Fun Tryz.prog 121 [] #[vVc a0, vVc a1] (vVc (F_impl_CrossV a0 a1)) [] := by
 refine Fun.ofH 400 E_ok mixed Tryz.func121 (by kernel_rfl) (by kernel_rfl) ?_
 unfold F_impl_CrossV
 refine Run.q (e := vIv) (gv := vVc) (ok_impl_MulI _ _) fun r1 _ => ?_
 refine Run.q (e := vIv) (gv := vVc) (ok_impl_MulI _ _) fun r2 _ => ?_
 refine Run.q (e := vIv) (gv := vVc) (ok_impl_SubI _ _) fun r3 _ => ?_
 refine Run.q (e := vIv) (gv := vVc) (ok_impl_MulI _ _) fun r4 _ => ?_
 refine Run.q (e := vIv) (gv := vVc) (ok_impl_MulI _ _) fun r5 _ => ?_
 refine Run.q (e := vIv) (gv := vVc) (ok_impl_SubI _ _) fun r6 _ => ?_
 refine Run.q (e := vIv) (gv := vVc) (ok_impl_MulI _ _) fun r7 _ => ?_
 refine Run.q (e := vIv) (gv := vVc) (ok_impl_MulI _ _) fun r8 _ => ?_
 refine Run.q (e := vIv) (gv := vVc) (ok_impl_SubI _ _) fun r9 _ => ?_
 exact Run.x 0

theorem ok_impl_WideAdd (a0 : Wd) (a1 : Wd) : Fun Tryz.prog 260 [] #[vWd a0, vWd a1] (vT_Wd_B (F_impl_WideAdd a0 a1)) [] := by
 refine Fun.ofH 400 E_ok mixed Tryz.func260 (by kernel_rfl) (by kernel_rfl) ?_
 unfold F_impl_WideAdd
 refine Run.k (c := (decide (0 ≤ (a0.lo.val : Int)) && (decide (0 ≤ (a1.lo.val : Int)) && (decide (0 ≤ (0 : Int)) && decide ((0 : Int) ≤ 1))))) (by kernel_rfl) (by simp only [Bool.and_eq_true, decide_eq_true_eq]; exact ⟨U64.lo a0.lo, U64.lo a1.lo, U64.lo (cu64 0), (by decide)⟩) ?_
 refine Run.k (c := (decide (0 ≤ ((wu64 a0.hi.val).val : Int)) && (decide (0 ≤ ((wu64 a1.hi.val).val : Int)) && (decide (0 ≤ ((adc_hi a0.lo a1.lo (cu64 0)).val : Int)) && decide (((adc_hi a0.lo a1.lo (cu64 0)).val : Int) ≤ 1))))) (by kernel_rfl) (by simp only [Bool.and_eq_true, decide_eq_true_eq]; exact ⟨U64.lo (wu64 a0.hi.val), U64.lo (wu64 a1.hi.val), U64.lo (adc_hi a0.lo a1.lo (cu64 0)), (adc_hi_le _ _ _ (by decide))⟩) ?_
 refine Run.y (gv := vT_Wd_B) (fun _ => ?_) (fun _ => ?_)
 ·exact Run.x 0
 ·exact Run.x 0

theorem ok_impl_rootOfSquares (a0 : I64) (a1 : I64) (a2 : I64) : Fun Tryz.prog 205 [] #[vI a0, vI a1, vI a2] (vT_I_I (F_impl_rootOfSquares a0 a1 a2)) [] := by
 refine Fun.ofH 400 E_ok mixed Tryz.func205 (by kernel_rfl) (by kernel_rfl) ?_
 unfold F_impl_rootOfSquares
 refine Run.q (e := vWd) (gv := vT_I_I) (ok_impl_WideMul _ _) fun r1 _ => ?_
 refine Run.q (e := vWd) (gv := vT_I_I) (ok_impl_WideMul _ _) fun r2 _ => ?_
 refine Run.q (e := vT_Wd_B) (gv := vT_I_I) (ok_impl_WideAdd _ _) fun r3 _ => ?_
 refine Run.q (e := vWd) (gv := vT_I_I) (ok_impl_WideMul _ _) fun r4 _ => ?_
 refine Run.q (e := vT_Wd_B) (gv := vT_I_I) (ok_impl_WideAdd _ _) fun r5 _ => ?_
 refine Run.q (e := vT_U_B) (gv := vT_I_I) (ok_impl_WideSqrt _) fun r6 _ => ?_
 refine Run.q (e := vWd) (gv := vT_I_I) (ok_impl_WideMul _ _) fun r7 _ => ?_
 refine Run.y (gv := vT_I_I) (fun _ => ?_) (fun _ => ?_)
 ·exact Run.x 0
 ·exact Run.x 0

theorem ok_impl_NormV (a0 : Vc) : Fun Tryz.prog 120 [] #[vVc a0] (vIv (F_impl_NormV a0)) [] := by
 refine Fun.ofH 400 E_ok mixed Tryz.func120 (by kernel_rfl) (by kernel_rfl) ?_
 unfold F_impl_NormV
 refine Run.q (e := vB) (gv := vIv) (ok_impl_areBounded _ _) fun r1 _ => ?_
 refine Run.y (gv := vIv) (fun _ => ?_) (fun _ => ?_)
 ·refine Run.z [true, true, true, true] ?_
  refine Run.q (e := vIv) (gv := vIv) (ok_impl_Whole) fun r2 _ => ?_
  exact Run.x 0
 ·refine Run.z [false, false] ?_
  refine Run.q (e := vB) (gv := vIv) (ok_impl_IsWhole _) fun r3 _ => ?_
  refine Run.z [false] ?_
  refine Run.y (gv := vIv) (fun _ => ?_) (fun _ => ?_)
  ·refine Run.q (e := vIv) (gv := vIv) (ok_impl_Whole) fun r4 _ => ?_
   exact Run.x 0
  ·refine Run.q (e := vIv) (gv := vIv) (ok_impl_AbsI _) fun r5 _ => ?_
   refine Run.q (e := vIv) (gv := vIv) (ok_impl_AbsI _) fun r6 _ => ?_
   refine Run.q (e := vIv) (gv := vIv) (ok_impl_AbsI _) fun r7 _ => ?_
   refine Run.q (e := vT_I_I) (gv := vIv) (ok_impl_rootOfSquares _ _ _) fun r8 _ => ?_
   refine Run.q (e := vT_I_I) (gv := vIv) (ok_impl_rootOfSquares _ _ _) fun r9 _ => ?_
   refine Run.q (e := vIv) (gv := vIv) (ok_impl_bounded _ _ _) fun r10 _ => ?_
   exact Run.x 0

theorem ok_impl_DotV (a0 : Vc) (a1 : Vc) : Fun Tryz.prog 122 [] #[vVc a0, vVc a1] (vIv (F_impl_DotV a0 a1)) [] := by
 refine Fun.ofH 400 E_ok mixed Tryz.func122 (by kernel_rfl) (by kernel_rfl) ?_
 unfold F_impl_DotV
 refine Run.q (e := vIv) (gv := vIv) (ok_impl_MulI _ _) fun r1 _ => ?_
 refine Run.q (e := vIv) (gv := vIv) (ok_impl_MulI _ _) fun r2 _ => ?_
 refine Run.q (e := vIv) (gv := vIv) (ok_impl_AddI _ _) fun r3 _ => ?_
 refine Run.q (e := vIv) (gv := vIv) (ok_impl_MulI _ _) fun r4 _ => ?_
 refine Run.q (e := vIv) (gv := vIv) (ok_impl_AddI _ _) fun r5 _ => ?_
 exact Run.x 0

theorem ok_impl_AngleBetween (a0 : Pt) (a1 : Pt) : Fun Tryz.prog 36 [] #[vPt a0, vPt a1] (vT_Iv_I (F_impl_AngleBetween a0 a1)) [] := by
 refine Fun.ofH 400 E_ok mixed Tryz.func36 (by kernel_rfl) (by kernel_rfl) ?_
 unfold F_impl_AngleBetween
 refine Run.q (e := vB) (gv := vT_Iv_I) (ok_impl_areValid _ _) fun r1 _ => ?_
 refine Run.y (gv := vT_Iv_I) (fun _ => ?_) (fun _ => ?_)
 ·exact Run.x 0
 ·refine Run.q (e := vVc) (gv := vT_Iv_I) (ok_impl_vectorOf _) fun r2 _ => ?_
  refine Run.q (e := vVc) (gv := vT_Iv_I) (ok_impl_vectorOf _) fun r3 _ => ?_
  refine Run.q (e := vVc) (gv := vT_Iv_I) (ok_impl_CrossV _ _) fun r4 _ => ?_
  refine Run.q (e := vIv) (gv := vT_Iv_I) (ok_impl_NormV _) fun r5 _ => ?_
  refine Run.q (e := vIv) (gv := vT_Iv_I) (ok_impl_DotV _ _) fun r6 _ => ?_
  refine Run.q (e := vIv) (gv := vT_Iv_I) (ok_impl_DirectionI _ _) fun r7 _ => ?_
  refine Run.q (e := vT_Iv_I) (gv := vT_Iv_I) (ok_impl_knownI _) fun r8 _ => ?_
  exact Run.x 0

theorem ok_impl_fromAxis (a0 : Vc) : Fun Tryz.prog 210 [] #[vVc a0] (vIv (F_impl_fromAxis a0)) [] := by
 refine Fun.ofH 400 E_ok mixed Tryz.func210 (by kernel_rfl) (by kernel_rfl) ?_
 unfold F_impl_fromAxis
 refine Run.q (e := vIv) (gv := vIv) (ok_impl_NormV _) fun r1 _ => ?_
 exact Run.x 0

theorem ok_impl_PositionOf (a0 : Vc) : Fun Tryz.prog 128 [] #[vVc a0] (vT_Iv_Iv_I (F_impl_PositionOf a0)) [] := by
 refine Fun.ofH 400 E_ok mixed Tryz.func128 (by kernel_rfl) (by kernel_rfl) ?_
 unfold F_impl_PositionOf
 refine Run.q (e := vIv) (gv := vT_Iv_Iv_I) (ok_impl_fromAxis _) fun r1 _ => ?_
 refine Run.q (e := vIv) (gv := vT_Iv_Iv_I) (ok_impl_DirectionI _ _) fun r2 _ => ?_
 refine Run.q (e := vT_Iv_I) (gv := vT_Iv_Iv_I) (ok_impl_knownI _) fun r3 _ => ?_
 refine Run.y (gv := vT_Iv_Iv_I) (fun _ => ?_) (fun _ => ?_)
 ·exact Run.x 0
 ·refine Run.q (e := vIv) (gv := vT_Iv_Iv_I) (ok_impl_DirectionI _ _) fun r4 _ => ?_
  exact Run.x 0

theorem ok_impl_Destination (a0 : Pt) (a1 : Iv) (a2 : Iv) : Fun Tryz.prog 39 [] #[vPt a0, vIv a1, vIv a2] (vT_Iv_Iv_I (F_impl_Destination a0 a1 a2)) [] := by
 refine Fun.ofH 400 E_ok mixed Tryz.func39 (by kernel_rfl) (by kernel_rfl) ?_
 unfold F_impl_Destination
 refine Run.q (e := vB) (gv := vT_Iv_Iv_I) (ok_impl_ValidPoint _) fun r1 _ => ?_
 refine Run.y (gv := vT_Iv_Iv_I) (fun _ => ?_) (fun _ => ?_)
 ·exact Run.x 0
 ·refine Run.q (e := vIv) (gv := vT_Iv_Iv_I) (ok_impl_LatOf _) fun r2 _ => ?_
  refine Run.q (e := vIv) (gv := vT_Iv_Iv_I) (ok_impl_SinI _) fun r3 _ => ?_
  refine Run.q (e := vIv) (gv := vT_Iv_Iv_I) (ok_impl_CosI _) fun r4 _ => ?_
  refine Run.q (e := vIv) (gv := vT_Iv_Iv_I) (ok_impl_CosI _) fun r5 _ => ?_
  refine Run.q (e := vIv) (gv := vT_Iv_Iv_I) (ok_impl_MulI _ _) fun r6 _ => ?_
  refine Run.q (e := vIv) (gv := vT_Iv_Iv_I) (ok_impl_SinI _) fun r7 _ => ?_
  refine Run.q (e := vIv) (gv := vT_Iv_Iv_I) (ok_impl_MulI _ _) fun r8 _ => ?_
  refine Run.q (e := vIv) (gv := vT_Iv_Iv_I) (ok_impl_CosI _) fun r9 _ => ?_
  refine Run.q (e := vIv) (gv := vT_Iv_Iv_I) (ok_impl_MulI _ _) fun r10 _ => ?_
  refine Run.q (e := vIv) (gv := vT_Iv_Iv_I) (ok_impl_SubI _ _) fun r11 _ => ?_
  refine Run.q (e := vIv) (gv := vT_Iv_Iv_I) (ok_impl_SinI _) fun r12 _ => ?_
  refine Run.q (e := vIv) (gv := vT_Iv_Iv_I) (ok_impl_MulI _ _) fun r13 _ => ?_
  refine Run.q (e := vIv) (gv := vT_Iv_Iv_I) (ok_impl_SinI _) fun r14 _ => ?_
  refine Run.q (e := vIv) (gv := vT_Iv_Iv_I) (ok_impl_MulI _ _) fun r15 _ => ?_
  refine Run.q (e := vIv) (gv := vT_Iv_Iv_I) (ok_impl_CosI _) fun r16 _ => ?_
  refine Run.q (e := vIv) (gv := vT_Iv_Iv_I) (ok_impl_MulI _ _) fun r17 _ => ?_
  refine Run.q (e := vIv) (gv := vT_Iv_Iv_I) (ok_impl_CosI _) fun r18 _ => ?_
  refine Run.q (e := vIv) (gv := vT_Iv_Iv_I) (ok_impl_MulI _ _) fun r19 _ => ?_
  refine Run.q (e := vIv) (gv := vT_Iv_Iv_I) (ok_impl_AddI _ _) fun r20 _ => ?_
  refine Run.q (e := vT_Iv_Iv_I) (gv := vT_Iv_Iv_I) (ok_impl_PositionOf _) fun r21 _ => ?_
  refine Run.y (gv := vT_Iv_Iv_I) (fun _ => ?_) (fun _ => ?_)
  ·exact Run.x 0
  ·refine Run.q (e := vIv) (gv := vT_Iv_Iv_I) (ok_impl_LonOf _) fun r22 _ => ?_
   refine Run.q (e := vIv) (gv := vT_Iv_Iv_I) (ok_impl_AddI _ _) fun r23 _ => ?_
   exact Run.x 0

end Go.Proofs.YtcdkepbgjgcjfaaGreat.Abs
