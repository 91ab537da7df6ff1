/- The program's functions are these; part 6 (written by w.py). -/
import Derived.Test.YtbpkpmmmeneagaaGreatE
import Derived.Test.YtbpkpmmmeneagaaGreatF5
import Derived.Test.YtbpkpmmmeneagaaGreatQpre
import Derived.Test.YtbpkpmmmeneagaaGreatK4
import Derived.Test.YtbpkpmmmeneagaaGreatK5
set_option linter.unusedVariables false
set_option linter.unusedSimpArgs false
namespace Go.Proofs.YtbpkpmmmeneagaaGreat.Abs
open Go Go.RowKit

theorem ok_impl_fourfold (a0 : Iv) : Fun Tryz.prog 259 [] #[vIv a0] (vIv (F_impl_fourfold a0)) [] := by
 refine Fun.ofH 400 E_ok mixed Tryz.func259 (by kernel_rfl) (by kernel_rfl) ?_
 unfold F_impl_fourfold
 refine Run.q (e := vIv) (gv := vIv) (ok_impl_halved _) fun r1 _ => ?_
 refine Run.q (e := vIv) (gv := vIv) (ok_impl_halved _) fun r2 _ => ?_
 refine Run.q (e := vIv) (gv := vIv) (ok_impl_ArcSeries _) fun r3 _ => ?_
 refine Run.q (e := vIv) (gv := vIv) (ok_impl_DoubleI _) fun r4 _ => ?_
 refine Run.q (e := vIv) (gv := vIv) (ok_impl_DoubleI _) fun r5 _ => ?_
 exact Run.x 0

theorem ok_impl_AtanAt_r : ∀ (fu : Nat) (a0 : I64) (hm : min (0 - a0.val).toNat 1 < fu), Fun Tryz.prog 227 [] #[vI a0] (vIv (F_impl_AtanAt_r fu a0)) [] := by
 intro fu
 induction fu with
 | zero => intro a0 hm; exact absurd hm (Nat.not_lt_zero _)
 | succ fu ih =>
  intro a0 hm
  refine Fun.ofH 400 E_ok mixed Tryz.func227 (by kernel_rfl) (by kernel_rfl) ?_
  unfold F_impl_AtanAt_r
  unfold F_impl_AtanAt_b
  refine Run.q (e := vB) (gv := vIv) (ok_impl_isOpen _) fun r1 hr1 => ?_
  refine Run.y (gv := vIv) (fun h2 => ?_) (fun h2 => ?_)
  ·refine Run.q (e := vIv) (gv := vIv) (ok_impl_halfCircle) fun r3 hr3 => ?_
   exact Run.x 0
  ·refine Run.y (gv := vIv) (fun h4 => ?_) (fun h4 => ?_)
   ·refine Run.q (e := vIv) (gv := vIv) (ih (w64 (0 - a0.val)) (by rw [hr1] at h2; simp [F_impl_isOpen, c64_val] at h2; simp only [w64_val, decide_eq_true_eq, decide_eq_false_iff_not] at *; omega)) fun r5 hr5 => ?_
    refine Run.q (e := vIv) (gv := vIv) (ok_impl_NegI _) fun r6 hr6 => ?_
    exact Run.x 0
   ·refine Run.y (gv := vIv) (fun h7 => ?_) (fun h7 => ?_)
    ·refine Run.q (e := vIv) (gv := vIv) (ok_impl_TurnI _) fun r8 hr8 => ?_
     refine Run.q (e := vIv) (gv := vIv) (ok_impl_Integer _) fun r9 hr9 => ?_
     refine Run.q (e := vIv) (gv := vIv) (ok_impl_at _) fun r10 hr10 => ?_
     refine Run.q (e := vIv) (gv := vIv) (ok_impl_DivI _ _) fun r11 hr11 => ?_
     refine Run.q (e := vIv) (gv := vIv) (ok_impl_fourfold _) fun r12 hr12 => ?_
     refine Run.q (e := vIv) (gv := vIv) (ok_impl_SubI _ _) fun r13 hr13 => ?_
     exact Run.x 0
    ·refine Run.q (e := vIv) (gv := vIv) (ok_impl_at _) fun r14 hr14 => ?_
     refine Run.q (e := vIv) (gv := vIv) (ok_impl_fourfold _) fun r15 hr15 => ?_
     exact Run.x 0
theorem ok_impl_AtanAt (a0 : I64) : Fun Tryz.prog 227 [] #[vI a0] (vIv (F_impl_AtanAt a0)) [] := ok_impl_AtanAt_r 2 a0 (by omega)

theorem ok_impl_AtanI (a0 : Iv) : Fun Tryz.prog 177 [] #[vIv a0] (vIv (F_impl_AtanI a0)) [] := by
 refine Fun.ofH 400 E_ok mixed Tryz.func177 (by kernel_rfl) (by kernel_rfl) ?_
 unfold F_impl_AtanI
 refine Run.q (e := vB) (gv := vIv) (ok_impl_IsWhole _) fun r1 _ => ?_
 refine Run.y (gv := vIv) (fun _ => ?_) (fun _ => ?_)
 ·refine Run.q (e := vIv) (gv := vIv) (ok_impl_halfCircle) fun r2 _ => ?_
  exact Run.x 0
 ·refine Run.q (e := vIv) (gv := vIv) (ok_impl_AtanAt _) fun r3 _ => ?_
  refine Run.q (e := vIv) (gv := vIv) (ok_impl_AtanAt _) fun r4 _ => ?_
  refine Run.q (e := vIv) (gv := vIv) (ok_impl_HullI _ _) fun r5 _ => ?_
  exact Run.x 0

theorem ok_impl_DirectionAt (a0 : I64) (a1 : I64) : Fun Tryz.prog 151 [] #[vI a0, vI a1] (vIv (F_impl_DirectionAt a0 a1)) [] := by
 refine Fun.ofH 400 E_ok mixed Tryz.func151 (by kernel_rfl) (by kernel_rfl) ?_
 unfold F_impl_DirectionAt
 refine Run.q (e := vB) (gv := vIv) (ok_impl_isOpen _) fun r1 _ => ?_
 refine Run.y (gv := vIv) (fun _ => ?_) (fun _ => ?_)
 ·refine Run.z [true, true, true, true, true, true, true, true, true] ?_
  refine Run.q (e := vIv) (gv := vIv) (ok_impl_Whole) fun r2 _ => ?_
  exact Run.x 0
 ·refine Run.z [false] ?_
  refine Run.q (e := vB) (gv := vIv) (ok_impl_isOpen _) fun r3 _ => ?_
  refine Run.z [false, false] ?_
  refine Run.y (gv := vIv) (fun _ => ?_) (fun _ => ?_)
  ·refine Run.z [true, true, true, true, true] ?_
   refine Run.q (e := vIv) (gv := vIv) (ok_impl_Whole) fun r4 _ => ?_
   exact Run.x 0
  ·refine Run.z [false, false] ?_
   refine Run.y (gv := vIv) (fun _ => ?_) (fun _ => ?_)
   ·refine Run.z [true, false, true, false] ?_
    refine Run.y (gv := vIv) (fun _ => ?_) (fun _ => ?_)
    ·refine Run.q (e := vIv) (gv := vIv) (ok_impl_Whole) fun r5 _ => ?_
     exact Run.x 0
    ·refine Run.q (e := vI) (gv := vIv) (ok_impl_abs _) fun r6 _ => ?_
     refine Run.q (e := vI) (gv := vIv) (ok_impl_abs _) fun r7 _ => ?_
     refine Run.y (gv := vIv) (fun _ => ?_) (fun _ => ?_)
     ·refine Run.q (e := vIv) (gv := vIv) (ok_impl_TurnI _) fun r8 _ => ?_
      refine Run.y (gv := vIv) (fun _ => ?_) (fun _ => ?_)
      ·refine Run.q (e := vIv) (gv := vIv) (ok_impl_TurnI _) fun r9 _ => ?_
       refine Run.q (e := vIv) (gv := vIv) (ok_impl_at _) fun r10 _ => ?_
       refine Run.q (e := vIv) (gv := vIv) (ok_impl_at _) fun r11 _ => ?_
       refine Run.q (e := vIv) (gv := vIv) (ok_impl_DivI _ _) fun r12 _ => ?_
       refine Run.q (e := vIv) (gv := vIv) (ok_impl_AtanI _) fun r13 _ => ?_
       refine Run.q (e := vIv) (gv := vIv) (ok_impl_SubI _ _) fun r14 _ => ?_
       exact Run.x 0
      ·refine Run.q (e := vIv) (gv := vIv) (ok_impl_at _) fun r15 _ => ?_
       refine Run.q (e := vIv) (gv := vIv) (ok_impl_at _) fun r16 _ => ?_
       refine Run.q (e := vIv) (gv := vIv) (ok_impl_DivI _ _) fun r17 _ => ?_
       refine Run.q (e := vIv) (gv := vIv) (ok_impl_AtanI _) fun r18 _ => ?_
       refine Run.q (e := vIv) (gv := vIv) (ok_impl_SubI _ _) fun r19 _ => ?_
       exact Run.x 0
     ·refine Run.q (e := vIv) (gv := vIv) (ok_impl_at _) fun r20 _ => ?_
      refine Run.q (e := vIv) (gv := vIv) (ok_impl_at _) fun r21 _ => ?_
      refine Run.q (e := vIv) (gv := vIv) (ok_impl_DivI _ _) fun r22 _ => ?_
      refine Run.q (e := vIv) (gv := vIv) (ok_impl_AtanI _) fun r23 _ => ?_
      refine Run.y (gv := vIv) (fun _ => ?_) (fun _ => ?_)
      ·exact Run.x 0
      ·refine Run.y (gv := vIv) (fun _ => ?_) (fun _ => ?_)
       ·refine Run.q (e := vIv) (gv := vIv) (ok_impl_TurnI _) fun r24 _ => ?_
        refine Run.q (e := vIv) (gv := vIv) (ok_impl_AddI _ _) fun r25 _ => ?_
        exact Run.x 0
       ·refine Run.q (e := vIv) (gv := vIv) (ok_impl_TurnI _) fun r26 _ => ?_
        refine Run.q (e := vIv) (gv := vIv) (ok_impl_AddI _ _) fun r27 _ => ?_
        exact Run.x 0
   ·refine Run.z [false, false, false, false, false] ?_
    refine Run.q (e := vI) (gv := vIv) (ok_impl_abs _) fun r28 _ => ?_
    refine Run.q (e := vI) (gv := vIv) (ok_impl_abs _) fun r29 _ => ?_
    refine Run.y (gv := vIv) (fun _ => ?_) (fun _ => ?_)
    ·refine Run.q (e := vIv) (gv := vIv) (ok_impl_TurnI _) fun r30 _ => ?_
     refine Run.y (gv := vIv) (fun _ => ?_) (fun _ => ?_)
     ·refine Run.q (e := vIv) (gv := vIv) (ok_impl_TurnI _) fun r31 _ => ?_
      refine Run.q (e := vIv) (gv := vIv) (ok_impl_at _) fun r32 _ => ?_
      refine Run.q (e := vIv) (gv := vIv) (ok_impl_at _) fun r33 _ => ?_
      refine Run.q (e := vIv) (gv := vIv) (ok_impl_DivI _ _) fun r34 _ => ?_
      refine Run.q (e := vIv) (gv := vIv) (ok_impl_AtanI _) fun r35 _ => ?_
      refine Run.q (e := vIv) (gv := vIv) (ok_impl_SubI _ _) fun r36 _ => ?_
      exact Run.x 0
     ·refine Run.q (e := vIv) (gv := vIv) (ok_impl_at _) fun r37 _ => ?_
      refine Run.q (e := vIv) (gv := vIv) (ok_impl_at _) fun r38 _ => ?_
      refine Run.q (e := vIv) (gv := vIv) (ok_impl_DivI _ _) fun r39 _ => ?_
      refine Run.q (e := vIv) (gv := vIv) (ok_impl_AtanI _) fun r40 _ => ?_
      refine Run.q (e := vIv) (gv := vIv) (ok_impl_SubI _ _) fun r41 _ => ?_
      exact Run.x 0
    ·refine Run.q (e := vIv) (gv := vIv) (ok_impl_at _) fun r42 _ => ?_
     refine Run.q (e := vIv) (gv := vIv) (ok_impl_at _) fun r43 _ => ?_
     refine Run.q (e := vIv) (gv := vIv) (ok_impl_DivI _ _) fun r44 _ => ?_
     refine Run.q (e := vIv) (gv := vIv) (ok_impl_AtanI _) fun r45 _ => ?_
     refine Run.y (gv := vIv) (fun _ => ?_) (fun _ => ?_)
     ·exact Run.x 0
     ·refine Run.y (gv := vIv) (fun _ => ?_) (fun _ => ?_)
      ·refine Run.q (e := vIv) (gv := vIv) (ok_impl_TurnI _) fun r46 _ => ?_
       refine Run.q (e := vIv) (gv := vIv) (ok_impl_AddI _ _) fun r47 _ => ?_
       exact Run.x 0
      ·refine Run.q (e := vIv) (gv := vIv) (ok_impl_TurnI _) fun r48 _ => ?_
       refine Run.q (e := vIv) (gv := vIv) (ok_impl_AddI _ _) fun r49 _ => ?_
       exact Run.x 0

theorem ok_impl_DirectionI (a0 : Iv) (a1 : Iv) : Fun Tryz.prog 91 [] #[vIv a0, vIv a1] (vIv (F_impl_DirectionI a0 a1)) [] := by
 refine Fun.ofH 400 E_ok mixed Tryz.func91 (by kernel_rfl) (by kernel_rfl) ?_
 unfold F_impl_DirectionI
 refine Run.q (e := vB) (gv := vIv) (ok_impl_areBounded _ _) fun r1 _ => ?_
 refine Run.y (gv := vIv) (fun _ => ?_) (fun _ => ?_)
 ·refine Run.z [true, true, true, true, true, true, true, true, true, true, true, true, true] ?_
  refine Run.q (e := vIv) (gv := vIv) (ok_impl_Whole) fun r2 _ => ?_
  exact Run.x 0
 ·refine Run.z [false] ?_
  refine Run.q (e := vB) (gv := vIv) (ok_impl_HasI _ _) fun r3 _ => ?_
  refine Run.z [false] ?_
  refine Run.y (gv := vIv) (fun _ => ?_) (fun _ => ?_)
  ·refine Run.z [true] ?_
   refine Run.q (e := vB) (gv := vIv) (ok_impl_HasI _ _) fun r4 _ => ?_
   refine Run.z [false, true, false] ?_
   refine Run.y (gv := vIv) (fun _ => ?_) (fun _ => ?_)
   ·refine Run.z [true, true, true, true, true, true, true, true] ?_
    refine Run.q (e := vIv) (gv := vIv) (ok_impl_Whole) fun r5 _ => ?_
    exact Run.x 0
   ·refine Run.z [false, false, false] ?_
    refine Run.y (gv := vIv) (fun _ => ?_) (fun _ => ?_)
    ·refine Run.z [true, true, false, true, false] ?_
     refine Run.y (gv := vIv) (fun _ => ?_) (fun _ => ?_)
     ·refine Run.z [true, true, false, true, false] ?_
      refine Run.y (gv := vIv) (fun _ => ?_) (fun _ => ?_)
      ·refine Run.q (e := vIv) (gv := vIv) (ok_impl_Whole) fun r6 _ => ?_
       exact Run.x 0
      ·refine Run.q (e := vIv) (gv := vIv) (ok_impl_DirectionAt _ _) fun r7 _ => ?_
       refine Run.q (e := vIv) (gv := vIv) (ok_impl_DirectionAt _ _) fun r8 _ => ?_
       refine Run.q (e := vIv) (gv := vIv) (ok_impl_HullI _ _) fun r9 _ => ?_
       refine Run.q (e := vIv) (gv := vIv) (ok_impl_DirectionAt _ _) fun r10 _ => ?_
       refine Run.q (e := vIv) (gv := vIv) (ok_impl_DirectionAt _ _) fun r11 _ => ?_
       refine Run.q (e := vIv) (gv := vIv) (ok_impl_HullI _ _) fun r12 _ => ?_
       refine Run.q (e := vIv) (gv := vIv) (ok_impl_HullI _ _) fun r13 _ => ?_
       exact Run.x 0
     ·refine Run.z [false, false, false, false, false, false] ?_
      refine Run.q (e := vIv) (gv := vIv) (ok_impl_DirectionAt _ _) fun r14 _ => ?_
      refine Run.q (e := vIv) (gv := vIv) (ok_impl_DirectionAt _ _) fun r15 _ => ?_
      refine Run.q (e := vIv) (gv := vIv) (ok_impl_HullI _ _) fun r16 _ => ?_
      refine Run.q (e := vIv) (gv := vIv) (ok_impl_DirectionAt _ _) fun r17 _ => ?_
      refine Run.q (e := vIv) (gv := vIv) (ok_impl_DirectionAt _ _) fun r18 _ => ?_
      refine Run.q (e := vIv) (gv := vIv) (ok_impl_HullI _ _) fun r19 _ => ?_
      refine Run.q (e := vIv) (gv := vIv) (ok_impl_HullI _ _) fun r20 _ => ?_
      exact Run.x 0
    ·refine Run.z [false, false, false, false, false, false, false, false, false, false, false, false] ?_
     refine Run.q (e := vIv) (gv := vIv) (ok_impl_DirectionAt _ _) fun r21 _ => ?_
     refine Run.q (e := vIv) (gv := vIv) (ok_impl_DirectionAt _ _) fun r22 _ => ?_
     refine Run.q (e := vIv) (gv := vIv) (ok_impl_HullI _ _) fun r23 _ => ?_
     refine Run.q (e := vIv) (gv := vIv) (ok_impl_DirectionAt _ _) fun r24 _ => ?_
     refine Run.q (e := vIv) (gv := vIv) (ok_impl_DirectionAt _ _) fun r25 _ => ?_
     refine Run.q (e := vIv) (gv := vIv) (ok_impl_HullI _ _) fun r26 _ => ?_
     refine Run.q (e := vIv) (gv := vIv) (ok_impl_HullI _ _) fun r27 _ => ?_
     exact Run.x 0
  ·refine Run.z [false, false, false, false, false, false, false, false] ?_
   refine Run.y (gv := vIv) (fun _ => ?_) (fun _ => ?_)
   ·refine Run.z [true, true, false, true, false] ?_
    refine Run.y (gv := vIv) (fun _ => ?_) (fun _ => ?_)
    ·refine Run.z [true, true, false, true, false] ?_
     refine Run.y (gv := vIv) (fun _ => ?_) (fun _ => ?_)
     ·refine Run.q (e := vIv) (gv := vIv) (ok_impl_Whole) fun r28 _ => ?_
      exact Run.x 0
     ·refine Run.q (e := vIv) (gv := vIv) (ok_impl_DirectionAt _ _) fun r29 _ => ?_
      refine Run.q (e := vIv) (gv := vIv) (ok_impl_DirectionAt _ _) fun r30 _ => ?_
      refine Run.q (e := vIv) (gv := vIv) (ok_impl_HullI _ _) fun r31 _ => ?_
      refine Run.q (e := vIv) (gv := vIv) (ok_impl_DirectionAt _ _) fun r32 _ => ?_
      refine Run.q (e := vIv) (gv := vIv) (ok_impl_DirectionAt _ _) fun r33 _ => ?_
      refine Run.q (e := vIv) (gv := vIv) (ok_impl_HullI _ _) fun r34 _ => ?_
      refine Run.q (e := vIv) (gv := vIv) (ok_impl_HullI _ _) fun r35 _ => ?_
      exact Run.x 0
    ·refine Run.z [false, false, false, false, false, false] ?_
     refine Run.q (e := vIv) (gv := vIv) (ok_impl_DirectionAt _ _) fun r36 _ => ?_
     refine Run.q (e := vIv) (gv := vIv) (ok_impl_DirectionAt _ _) fun r37 _ => ?_
     refine Run.q (e := vIv) (gv := vIv) (ok_impl_HullI _ _) fun r38 _ => ?_
     refine Run.q (e := vIv) (gv := vIv) (ok_impl_DirectionAt _ _) fun r39 _ => ?_
     refine Run.q (e := vIv) (gv := vIv) (ok_impl_DirectionAt _ _) fun r40 _ => ?_
     refine Run.q (e := vIv) (gv := vIv) (ok_impl_HullI _ _) fun r41 _ => ?_
     refine Run.q (e := vIv) (gv := vIv) (ok_impl_HullI _ _) fun r42 _ => ?_
     exact Run.x 0
   ·refine Run.z [false, false, false, false, false, false, false, false, false, false, false, false] ?_
    refine Run.q (e := vIv) (gv := vIv) (ok_impl_DirectionAt _ _) fun r43 _ => ?_
    refine Run.q (e := vIv) (gv := vIv) (ok_impl_DirectionAt _ _) fun r44 _ => ?_
    refine Run.q (e := vIv) (gv := vIv) (ok_impl_HullI _ _) fun r45 _ => ?_
    refine Run.q (e := vIv) (gv := vIv) (ok_impl_DirectionAt _ _) fun r46 _ => ?_
    refine Run.q (e := vIv) (gv := vIv) (ok_impl_DirectionAt _ _) fun r47 _ => ?_
    refine Run.q (e := vIv) (gv := vIv) (ok_impl_HullI _ _) fun r48 _ => ?_
    refine Run.q (e := vIv) (gv := vIv) (ok_impl_HullI _ _) fun r49 _ => ?_
    exact Run.x 0

theorem ok_impl_forwardFactor (a0 : I64) (a1 : Vc) : Fun Tryz.prog 139 [] #[vI a0, vVc a1] (vIv (F_impl_forwardFactor a0 a1)) [] := by
 refine Fun.ofH 400 E_ok mixed Tryz.func139 (by kernel_rfl) (by kernel_rfl) ?_
 unfold F_impl_forwardFactor
 refine Run.y (gv := vIv) (fun _ => ?_) (fun _ => ?_)
 ·refine Run.q (e := vIv) (gv := vIv) (ok_impl_Integer _) fun r1 _ => ?_
  refine Run.q (e := vIv) (gv := vIv) (ok_impl_DivI _ _) fun r2 _ => ?_
  exact Run.x 0
 ·refine Run.y (gv := vIv) (fun _ => ?_) (fun _ => ?_)
  ·refine Run.q (e := vIv) (gv := vIv) (ok_impl_Integer _) fun r3 _ => ?_
   refine Run.q (e := vIv) (gv := vIv) (ok_impl_Integer _) fun r4 _ => ?_
   refine Run.q (e := vIv) (gv := vIv) (ok_impl_AddI _ _) fun r5 _ => ?_
   refine Run.q (e := vIv) (gv := vIv) (ok_impl_DivI _ _) fun r6 _ => ?_
   exact Run.x 0
  ·refine Run.y (gv := vIv) (fun _ => ?_) (fun _ => ?_)
   ·refine Run.y (gv := vIv) (fun _ => ?_) (fun _ => ?_)
    ·refine Run.q (e := vIv) (gv := vIv) (ok_impl_Whole) fun r7 _ => ?_
     exact Run.x 0
    ·refine Run.q (e := vIv) (gv := vIv) (ok_impl_Integer _) fun r8 _ => ?_
     exact Run.x 0
   ·refine Run.y (gv := vIv) (fun _ => ?_) (fun _ => ?_)
    ·refine Run.q (e := vIv) (gv := vIv) (ok_impl_Integer _) fun r9 _ => ?_
     refine Run.q (e := vIv) (gv := vIv) (ok_impl_Integer _) fun r10 _ => ?_
     refine Run.q (e := vIv) (gv := vIv) (ok_impl_AddI _ _) fun r11 _ => ?_
     refine Run.q (e := vIv) (gv := vIv) (ok_impl_DivI _ _) fun r12 _ => ?_
     refine Run.q (e := vIv) (gv := vIv) (ok_impl_SqrtI _) fun r13 _ => ?_
     exact Run.x 0
    ·refine Run.q (e := vIv) (gv := vIv) (ok_impl_fromAxis _) fun r14 _ => ?_
     refine Run.q (e := vB) (gv := vIv) (ok_impl_isPositive _) fun r15 _ => ?_
     refine Run.y (gv := vIv) (fun _ => ?_) (fun _ => ?_)
     ·refine Run.q (e := vIv) (gv := vIv) (ok_impl_DirectionI _ _) fun r16 _ => ?_
      refine Run.q (e := vIv) (gv := vIv) (ok_impl_DivI _ _) fun r17 _ => ?_
      exact Run.x 0
     ·refine Run.q (e := vIv) (gv := vIv) (ok_impl_Integer _) fun r18 _ => ?_
      refine Run.q (e := vIv) (gv := vIv) (ok_impl_Integer _) fun r19 _ => ?_
      refine Run.q (e := vIv) (gv := vIv) (ok_impl_DivI _ _) fun r20 _ => ?_
      refine Run.q (e := vIv) (gv := vIv) (ok_impl_HullI _ _) fun r21 _ => ?_
      exact Run.x 0

theorem ok_impl_AzimuthalForward (a0 : Pj) (a1 : Pt) : Fun Tryz.prog 76 [] #[vPj a0, vPt a1] (vT_Pn_I (F_impl_AzimuthalForward a0 a1)) [] := by
 refine Fun.ofH 400 E_ok mixed Tryz.func76 (by kernel_rfl) (by kernel_rfl) ?_
 unfold F_impl_AzimuthalForward
 refine Run.q (e := vT_Vc_I) (gv := vT_Pn_I) (ok_impl_LocalOf _ _) fun r1 _ => ?_
 refine Run.y (gv := vT_Pn_I) (fun _ => ?_) (fun _ => ?_)
 ·exact Run.x 0
 ·refine Run.q (e := vPt) (gv := vT_Pn_I) (ok_impl_Projection_centre _) fun r2 _ => ?_
  refine Run.q (e := vT_Pt_I) (gv := vT_Pn_I) (ok_impl_Antipode _) fun r3 _ => ?_
  refine Run.q (e := vB) (gv := vT_Pn_I) (ok_impl_samePlace _ _) fun r4 _ => ?_
  refine Run.y (gv := vT_Pn_I) (fun _ => ?_) (fun _ => ?_)
  ·exact Run.x 0
  ·refine Run.y (gv := vT_Pn_I) (fun _ => ?_) (fun _ => ?_)
   ·refine Run.q (e := vIv) (gv := vT_Pn_I) (ok_impl_Integer _) fun r5 _ => ?_
    refine Run.z [true, true, true] ?_
    refine Run.q (e := vI) (gv := vT_Pn_I) (ok_impl_LessI _ _) fun r6 _ => ?_
    refine Run.z [true, true] ?_
    refine Run.y (gv := vT_Pn_I) (fun _ => ?_) (fun _ => ?_)
    ·exact Run.x 0
    ·refine Run.y (gv := vT_Pn_I) (fun _ => ?_) (fun _ => ?_)
     ·refine Run.z [true, true] ?_
      refine Run.q (e := vIv) (gv := vT_Pn_I) (ok_impl_Integer _) fun r7 _ => ?_
      refine Run.z [true] ?_
      refine Run.q (e := vI) (gv := vT_Pn_I) (ok_impl_LessI _ _) fun r8 _ => ?_
      refine Run.z [true, true] ?_
      refine Run.y (gv := vT_Pn_I) (fun _ => ?_) (fun _ => ?_)
      ·exact Run.x 0
      ·refine Run.q (e := vIv) (gv := vT_Pn_I) (ok_impl_forwardFactor _ _) fun r9 _ => ?_
       refine Run.q (e := vIv) (gv := vT_Pn_I) (ok_impl_MulI _ _) fun r10 _ => ?_
       refine Run.q (e := vIv) (gv := vT_Pn_I) (ok_impl_MulI _ _) fun r11 _ => ?_
       refine Run.q (e := vT_Pn_I) (gv := vT_Pn_I) (ok_impl_planar _ _) fun r12 _ => ?_
       exact Run.x 0
     ·refine Run.z [false, false, false, false, false, false] ?_
      refine Run.q (e := vIv) (gv := vT_Pn_I) (ok_impl_forwardFactor _ _) fun r13 _ => ?_
      refine Run.q (e := vIv) (gv := vT_Pn_I) (ok_impl_MulI _ _) fun r14 _ => ?_
      refine Run.q (e := vIv) (gv := vT_Pn_I) (ok_impl_MulI _ _) fun r15 _ => ?_
      refine Run.q (e := vT_Pn_I) (gv := vT_Pn_I) (ok_impl_planar _ _) fun r16 _ => ?_
      exact Run.x 0
   ·refine Run.z [false, false, false, false, false, false] ?_
    refine Run.y (gv := vT_Pn_I) (fun _ => ?_) (fun _ => ?_)
    ·refine Run.z [true, true] ?_
     refine Run.q (e := vIv) (gv := vT_Pn_I) (ok_impl_Integer _) fun r17 _ => ?_
     refine Run.z [true] ?_
     refine Run.q (e := vI) (gv := vT_Pn_I) (ok_impl_LessI _ _) fun r18 _ => ?_
     refine Run.z [true, true] ?_
     refine Run.y (gv := vT_Pn_I) (fun _ => ?_) (fun _ => ?_)
     ·exact Run.x 0
     ·refine Run.q (e := vIv) (gv := vT_Pn_I) (ok_impl_forwardFactor _ _) fun r19 _ => ?_
      refine Run.q (e := vIv) (gv := vT_Pn_I) (ok_impl_MulI _ _) fun r20 _ => ?_
      refine Run.q (e := vIv) (gv := vT_Pn_I) (ok_impl_MulI _ _) fun r21 _ => ?_
      refine Run.q (e := vT_Pn_I) (gv := vT_Pn_I) (ok_impl_planar _ _) fun r22 _ => ?_
      exact Run.x 0
    ·refine Run.z [false, false, false, false, false, false] ?_
     refine Run.q (e := vIv) (gv := vT_Pn_I) (ok_impl_forwardFactor _ _) fun r23 _ => ?_
     refine Run.q (e := vIv) (gv := vT_Pn_I) (ok_impl_MulI _ _) fun r24 _ => ?_
     refine Run.q (e := vIv) (gv := vT_Pn_I) (ok_impl_MulI _ _) fun r25 _ => ?_
     refine Run.q (e := vT_Pn_I) (gv := vT_Pn_I) (ok_impl_planar _ _) fun r26 _ => ?_
     exact Run.x 0

theorem ok_impl_HalfI (a0 : Iv) : Fun Tryz.prog 170 [] #[vIv a0] (vIv (F_impl_HalfI a0)) [] := by
 refine Fun.ofH 400 E_ok mixed Tryz.func170 (by kernel_rfl) (by kernel_rfl) ?_
 unfold F_impl_HalfI
 refine Run.q (e := vB) (gv := vIv) (ok_impl_IsWhole _) fun r1 _ => ?_
 refine Run.y (gv := vIv) (fun _ => ?_) (fun _ => ?_)
 ·refine Run.q (e := vIv) (gv := vIv) (ok_impl_Whole) fun r2 _ => ?_
  exact Run.x 0
 ·refine Run.z [true, true] ?_
  exact Run.x 0

theorem ok_impl_isometricSphere (a0 : Iv) : Fun Tryz.prog 196 [] #[vIv a0] (vIv (F_impl_isometricSphere a0)) [] := by
 refine Fun.ofH 400 E_ok mixed Tryz.func196 (by kernel_rfl) (by kernel_rfl) ?_
 unfold F_impl_isometricSphere
 refine Run.q (e := vIv) (gv := vIv) (ok_impl_TanI _) fun r1 _ => ?_
 refine Run.q (e := vIv) (gv := vIv) (ok_impl_AsinhI _) fun r2 _ => ?_
 exact Run.x 0

theorem ok_impl_conic_cone__pCn (b0 : Cn) : Fun Tryz.prog 172 [(#[.int .i64 b0.p.kind.val, .int .i64 b0.p.lat0.val, .int .i64 b0.p.lon0.val, .int .i64 b0.p.lat1.val, .int .i64 b0.p.lat2.val, .int .i64 b0.a.lo.val, .int .i64 b0.a.hi.val, .int .i64 b0.b.lo.val, .int .i64 b0.b.hi.val, .int .i64 b0.o.lo.val, .int .i64 b0.o.hi.val, .int .i64 b0.n.lo.val, .int .i64 b0.n.hi.val, .int .i64 b0.g.lo.val, .int .i64 b0.g.hi.val], 111)] #[.pointer (some ⟨0, 0, none⟩)] (vIv (F_impl_conic_cone__pCn b0)) [(#[.int .i64 b0.p.kind.val, .int .i64 b0.p.lat0.val, .int .i64 b0.p.lon0.val, .int .i64 b0.p.lat1.val, .int .i64 b0.p.lat2.val, .int .i64 b0.a.lo.val, .int .i64 b0.a.hi.val, .int .i64 b0.b.lo.val, .int .i64 b0.b.hi.val, .int .i64 b0.o.lo.val, .int .i64 b0.o.hi.val, .int .i64 b0.n.lo.val, .int .i64 b0.n.hi.val, .int .i64 b0.g.lo.val, .int .i64 b0.g.hi.val], 111)] := by
 refine Fun.ofH 400 E_ok mixed Tryz.func172 (by kernel_rfl) (by kernel_rfl) ?_
 unfold F_impl_conic_cone__pCn
 refine Run.y (gv := vIv) (fun _ => ?_) (fun _ => ?_)
 ·refine Run.q (e := vIv) (gv := vIv) (ok_impl_SinI _) fun r1 _ => ?_
  refine Run.q (e := vIv) (gv := vIv) (ok_impl_SinI _) fun r2 _ => ?_
  refine Run.q (e := vIv) (gv := vIv) (ok_impl_AddI _ _) fun r3 _ => ?_
  refine Run.q (e := vIv) (gv := vIv) (ok_impl_HalfI _) fun r4 _ => ?_
  exact Run.x 1
 ·refine Run.y (gv := vIv) (fun _ => ?_) (fun _ => ?_)
  ·refine Run.q (e := vIv) (gv := vIv) (ok_impl_SinI _) fun r5 _ => ?_
   exact Run.x 1
  ·refine Run.y (gv := vIv) (fun _ => ?_) (fun _ => ?_)
   ·refine Run.q (e := vIv) (gv := vIv) (ok_impl_CosI _) fun r6 _ => ?_
    refine Run.q (e := vIv) (gv := vIv) (ok_impl_LogI _) fun r7 _ => ?_
    refine Run.q (e := vIv) (gv := vIv) (ok_impl_CosI _) fun r8 _ => ?_
    refine Run.q (e := vIv) (gv := vIv) (ok_impl_LogI _) fun r9 _ => ?_
    refine Run.q (e := vIv) (gv := vIv) (ok_impl_SubI _ _) fun r10 _ => ?_
    refine Run.q (e := vIv) (gv := vIv) (ok_impl_isometricSphere _) fun r11 _ => ?_
    refine Run.q (e := vIv) (gv := vIv) (ok_impl_isometricSphere _) fun r12 _ => ?_
    refine Run.q (e := vIv) (gv := vIv) (ok_impl_SubI _ _) fun r13 _ => ?_
    refine Run.q (e := vIv) (gv := vIv) (ok_impl_DivI _ _) fun r14 _ => ?_
    exact Run.x 1
   ·refine Run.q (e := vIv) (gv := vIv) (ok_impl_CosI _) fun r15 _ => ?_
    refine Run.q (e := vIv) (gv := vIv) (ok_impl_CosI _) fun r16 _ => ?_
    refine Run.q (e := vIv) (gv := vIv) (ok_impl_SubI _ _) fun r17 _ => ?_
    refine Run.q (e := vIv) (gv := vIv) (ok_impl_SubI _ _) fun r18 _ => ?_
    refine Run.q (e := vIv) (gv := vIv) (ok_impl_DivI _ _) fun r19 _ => ?_
    exact Run.x 1

theorem ok_impl_times (a0 : I64) (a1 : Iv) : Fun Tryz.prog 64 [] #[vI a0, vIv a1] (vIv (F_impl_times a0 a1)) [] := by
 refine Fun.ofH 400 E_ok mixed Tryz.func64 (by kernel_rfl) (by kernel_rfl) ?_
 unfold F_impl_times
 refine Run.q (e := vIv) (gv := vIv) (ok_impl_Integer _) fun r1 _ => ?_
 refine Run.q (e := vIv) (gv := vIv) (ok_impl_MulI _ _) fun r2 _ => ?_
 exact Run.x 0

theorem ok_impl_scaled_L0 : ∀ (fu : Nat) (x_k : I64) (y_0 : Iv) (q0 : -100 ≤ x_k.val) (q1 : x_k.val ≤ 100) (hm : x_k.val.toNat < fu) (t : Array Value) (ht : maskA t [0, 3, 5, 6, 7, 8, 9, 10, 11, 12, 13, 14, 15, 16, 17, 18, 19, 20, 21, 22, 23, 24, 25, 26] = #[undef, .int .i64 x_k.val, .pointer (some ⟨0, 0, none⟩), undef, .pointer (some ⟨1, 0, none⟩), undef, undef, undef, undef, undef, undef, undef, undef, undef, undef, undef, undef, undef, undef, undef, undef, undef, undef, undef, undef, undef, undef]), Cfg Tryz.prog 260 (loopAt Tryz.f260 0) t [(#[.int .i64 y_0.lo.val, .int .i64 y_0.hi.val], 33), (#[.int .i64 0, .int .i64 0], 33)] (RvH [] (vIv (F_impl_scaled_L0 fu x_k y_0))) := by
 intro fu
 induction fu with
 | zero => intro x_k y_0 q0 q1 hm; exact absurd hm (Nat.not_lt_zero _)
 | succ fu ih =>
  intro x_k y_0 q0 q1 hm t ht
  refine Cfg.round E_ok mixed Tryz.func260 ht fun g => ?_
  unfold F_impl_scaled_L0
  refine Run.y (gv := vIv) (fun h1 => ?_) (fun h1 => ?_)
  ·refine Run.q (e := vIv) (gv := vIv) (ok_impl_DoubleI _) fun r2 hr2 => ?_
   exact Run.l (by kernel_rfl) (by kernel_rfl) (by kernel_rfl) (by kernel_rfl) (ih (w64 (x_k.val - 1)) r2 (by first | omega | (simp only [w64_val, wu64_val, c64_val, cu64_val, decide_eq_true_eq, decide_eq_false_iff_not, cond_true, cond_false] at *; omega)) (by first | omega | (simp only [w64_val, wu64_val, c64_val, cu64_val, decide_eq_true_eq, decide_eq_false_iff_not, cond_true, cond_false] at *; omega)) (by first | omega | (simp only [w64_val, wu64_val, c64_val, cu64_val, decide_eq_true_eq, decide_eq_false_iff_not, cond_true, cond_false] at *; omega)))
  ·refine Run.q (e := vB) (gv := vIv) (ok_impl_IsWhole _) fun r3 hr3 => ?_
   refine Run.y (gv := vIv) (fun h4 => ?_) (fun h4 => ?_)
   ·refine Run.q (e := vIv) (gv := vIv) (ok_impl_Whole) fun r5 hr5 => ?_
    exact Run.x 0
   ·refine Run.k (c := (decide (0 ≤ (w64 (0 - x_k.val)).val))) (by kernel_rfl) (by simp only [w64_val, wu64_val, c64_val, cu64_val, decide_eq_true_eq, decide_eq_false_iff_not, cond_true, cond_false] at *; omega) ?_
    refine Run.k (c := (decide (0 ≤ (w64 (0 - x_k.val)).val))) (by kernel_rfl) (by simp only [w64_val, wu64_val, c64_val, cu64_val, decide_eq_true_eq, decide_eq_false_iff_not, cond_true, cond_false] at *; omega) ?_
    exact Run.x 0

theorem ok_impl_scaled (a0 : Iv) (a1 : I64) (p0 : -100 ≤ a1.val) (p1 : a1.val ≤ 100) : Fun Tryz.prog 260 [] #[vIv a0, vI a1] (vIv (F_impl_scaled a0 a1)) [] := by
 refine Fun.ofH 400 E_ok mixed Tryz.func260 (by kernel_rfl) (by kernel_rfl) ?_
 unfold F_impl_scaled
 exact Run.l (by kernel_rfl) (by kernel_rfl) (by kernel_rfl) (by kernel_rfl) (ok_impl_scaled_L0 (a1.val.toNat + 1) a1 a0 (by first | omega | (simp only [w64_val, wu64_val, c64_val, cu64_val, decide_eq_true_eq, decide_eq_false_iff_not, cond_true, cond_false] at *; omega)) (by first | omega | (simp only [w64_val, wu64_val, c64_val, cu64_val, decide_eq_true_eq, decide_eq_false_iff_not, cond_true, cond_false] at *; omega)) (by first | omega | (simp only [w64_val, wu64_val, c64_val, cu64_val, decide_eq_true_eq, decide_eq_false_iff_not, cond_true, cond_false] at *; omega)))

theorem ok_impl_ExpAt (a0 : I64) : Fun Tryz.prog 234 [] #[vI a0] (vIv (F_impl_ExpAt a0)) [] := by
 refine Fun.ofH 400 E_ok mixed Tryz.func234 (by kernel_rfl) (by kernel_rfl) ?_
 unfold F_impl_ExpAt
 refine Run.q (e := vB) (gv := vIv) (ok_impl_ValidFix _) fun r1 hr1 => ?_
 refine Run.y (gv := vIv) (fun h2 => ?_) (fun h2 => ?_)
 ·refine Run.z [true, true, true] ?_
  refine Run.q (e := vIv) (gv := vIv) (ok_impl_Whole) fun r3 hr3 => ?_
  exact Run.x 0
 ·refine Run.z [false, false] ?_
  refine Run.y (gv := vIv) (fun h4 => ?_) (fun h4 => ?_)
  ·refine Run.q (e := vIv) (gv := vIv) (ok_impl_Whole) fun r5 hr5 => ?_
   exact Run.x 0
  ·refine Run.y (gv := vIv) (fun h6 => ?_) (fun h6 => ?_)
   ·exact Run.x 0
   ·refine Run.z [true] ?_
    refine Run.y (gv := vIv) (fun h7 => ?_) (fun h7 => ?_)
    ·refine Run.q (e := vIv) (gv := vIv) (ok_impl_at _) fun r8 hr8 => ?_
     refine Run.q (e := vIv) (gv := vIv) (ok_impl_LogTwoI _) fun r9 hr9 => ?_
     refine Run.q (e := vIv) (gv := vIv) (ok_impl_SubI _ _) fun r10 hr10 => ?_
     refine Run.q (e := vIv) (gv := vIv) (ok_impl_Integer _) fun r11 hr11 => ?_
     refine Run.u 400 E_ok mixed Tryz.func234 ?_
     refine Run.z [true] ?_
     refine Run.q (e := vIv) (gv := vIv) (ok_impl_Integer _) fun r12 hr12 => ?_
     refine Run.q (e := vIv) (gv := vIv) (ok_impl_MulI _ _) fun r13 hr13 => ?_
     refine Run.q (e := vIv) (gv := vIv) (ok_impl_Integer _) fun r14 hr14 => ?_
     refine Run.q (e := vIv) (gv := vIv) (ok_impl_DivI _ _) fun r15 hr15 => ?_
     refine Run.q (e := vIv) (gv := vIv) (ok_impl_AddI _ _) fun r16 hr16 => ?_
     refine Run.u 400 E_ok mixed Tryz.func234 ?_
     refine Run.z [true] ?_
     refine Run.q (e := vIv) (gv := vIv) (ok_impl_Integer _) fun r17 hr17 => ?_
     refine Run.q (e := vIv) (gv := vIv) (ok_impl_MulI _ _) fun r18 hr18 => ?_
     refine Run.q (e := vIv) (gv := vIv) (ok_impl_Integer _) fun r19 hr19 => ?_
     refine Run.q (e := vIv) (gv := vIv) (ok_impl_DivI _ _) fun r20 hr20 => ?_
     refine Run.q (e := vIv) (gv := vIv) (ok_impl_AddI _ _) fun r21 hr21 => ?_
     refine Run.u 400 E_ok mixed Tryz.func234 ?_
     refine Run.z [true] ?_
     refine Run.q (e := vIv) (gv := vIv) (ok_impl_Integer _) fun r22 hr22 => ?_
     refine Run.q (e := vIv) (gv := vIv) (ok_impl_MulI _ _) fun r23 hr23 => ?_
     refine Run.q (e := vIv) (gv := vIv) (ok_impl_Integer _) fun r24 hr24 => ?_
     refine Run.q (e := vIv) (gv := vIv) (ok_impl_DivI _ _) fun r25 hr25 => ?_
     refine Run.q (e := vIv) (gv := vIv) (ok_impl_AddI _ _) fun r26 hr26 => ?_
     refine Run.u 400 E_ok mixed Tryz.func234 ?_
     refine Run.z [true] ?_
     refine Run.q (e := vIv) (gv := vIv) (ok_impl_Integer _) fun r27 hr27 => ?_
     refine Run.q (e := vIv) (gv := vIv) (ok_impl_MulI _ _) fun r28 hr28 => ?_
     refine Run.q (e := vIv) (gv := vIv) (ok_impl_Integer _) fun r29 hr29 => ?_
     refine Run.q (e := vIv) (gv := vIv) (ok_impl_DivI _ _) fun r30 hr30 => ?_
     refine Run.q (e := vIv) (gv := vIv) (ok_impl_AddI _ _) fun r31 hr31 => ?_
     refine Run.u 400 E_ok mixed Tryz.func234 ?_
     refine Run.z [true] ?_
     refine Run.q (e := vIv) (gv := vIv) (ok_impl_Integer _) fun r32 hr32 => ?_
     refine Run.q (e := vIv) (gv := vIv) (ok_impl_MulI _ _) fun r33 hr33 => ?_
     refine Run.q (e := vIv) (gv := vIv) (ok_impl_Integer _) fun r34 hr34 => ?_
     refine Run.q (e := vIv) (gv := vIv) (ok_impl_DivI _ _) fun r35 hr35 => ?_
     refine Run.q (e := vIv) (gv := vIv) (ok_impl_AddI _ _) fun r36 hr36 => ?_
     refine Run.u 400 E_ok mixed Tryz.func234 ?_
     refine Run.z [true] ?_
     refine Run.q (e := vIv) (gv := vIv) (ok_impl_Integer _) fun r37 hr37 => ?_
     refine Run.q (e := vIv) (gv := vIv) (ok_impl_MulI _ _) fun r38 hr38 => ?_
     refine Run.q (e := vIv) (gv := vIv) (ok_impl_Integer _) fun r39 hr39 => ?_
     refine Run.q (e := vIv) (gv := vIv) (ok_impl_DivI _ _) fun r40 hr40 => ?_
     refine Run.q (e := vIv) (gv := vIv) (ok_impl_AddI _ _) fun r41 hr41 => ?_
     refine Run.u 400 E_ok mixed Tryz.func234 ?_
     refine Run.z [true] ?_
     refine Run.q (e := vIv) (gv := vIv) (ok_impl_Integer _) fun r42 hr42 => ?_
     refine Run.q (e := vIv) (gv := vIv) (ok_impl_MulI _ _) fun r43 hr43 => ?_
     refine Run.q (e := vIv) (gv := vIv) (ok_impl_Integer _) fun r44 hr44 => ?_
     refine Run.q (e := vIv) (gv := vIv) (ok_impl_DivI _ _) fun r45 hr45 => ?_
     refine Run.q (e := vIv) (gv := vIv) (ok_impl_AddI _ _) fun r46 hr46 => ?_
     refine Run.u 400 E_ok mixed Tryz.func234 ?_
     refine Run.z [true] ?_
     refine Run.q (e := vIv) (gv := vIv) (ok_impl_Integer _) fun r47 hr47 => ?_
     refine Run.q (e := vIv) (gv := vIv) (ok_impl_MulI _ _) fun r48 hr48 => ?_
     refine Run.q (e := vIv) (gv := vIv) (ok_impl_Integer _) fun r49 hr49 => ?_
     refine Run.q (e := vIv) (gv := vIv) (ok_impl_DivI _ _) fun r50 hr50 => ?_
     refine Run.q (e := vIv) (gv := vIv) (ok_impl_AddI _ _) fun r51 hr51 => ?_
     refine Run.u 400 E_ok mixed Tryz.func234 ?_
     refine Run.z [true] ?_
     refine Run.q (e := vIv) (gv := vIv) (ok_impl_Integer _) fun r52 hr52 => ?_
     refine Run.q (e := vIv) (gv := vIv) (ok_impl_MulI _ _) fun r53 hr53 => ?_
     refine Run.q (e := vIv) (gv := vIv) (ok_impl_Integer _) fun r54 hr54 => ?_
     refine Run.q (e := vIv) (gv := vIv) (ok_impl_DivI _ _) fun r55 hr55 => ?_
     refine Run.q (e := vIv) (gv := vIv) (ok_impl_AddI _ _) fun r56 hr56 => ?_
     refine Run.u 400 E_ok mixed Tryz.func234 ?_
     refine Run.z [false] ?_
     refine Run.q (e := vIv) (gv := vIv) (ok_impl_widened _ _) fun r57 hr57 => ?_
     refine Run.q (e := vIv) (gv := vIv) (ok_impl_scaled _ _ (by have z := expk_range a0 h6 h4; first | exact z.1 | exact z.2.1 | exact z.2.2.1 | exact z.2.2.2) (by have z := expk_range a0 h6 h4; first | exact z.1 | exact z.2.1 | exact z.2.2.1 | exact z.2.2.2)) fun r58 hr58 => ?_
     exact Run.x 0
    ·refine Run.q (e := vIv) (gv := vIv) (ok_impl_at _) fun r59 hr59 => ?_
     refine Run.q (e := vIv) (gv := vIv) (ok_impl_LogTwoI _) fun r60 hr60 => ?_
     refine Run.q (e := vIv) (gv := vIv) (ok_impl_SubI _ _) fun r61 hr61 => ?_
     refine Run.q (e := vIv) (gv := vIv) (ok_impl_Integer _) fun r62 hr62 => ?_
     refine Run.u 400 E_ok mixed Tryz.func234 ?_
     refine Run.z [true] ?_
     refine Run.q (e := vIv) (gv := vIv) (ok_impl_Integer _) fun r63 hr63 => ?_
     refine Run.q (e := vIv) (gv := vIv) (ok_impl_MulI _ _) fun r64 hr64 => ?_
     refine Run.q (e := vIv) (gv := vIv) (ok_impl_Integer _) fun r65 hr65 => ?_
     refine Run.q (e := vIv) (gv := vIv) (ok_impl_DivI _ _) fun r66 hr66 => ?_
     refine Run.q (e := vIv) (gv := vIv) (ok_impl_AddI _ _) fun r67 hr67 => ?_
     refine Run.u 400 E_ok mixed Tryz.func234 ?_
     refine Run.z [true] ?_
     refine Run.q (e := vIv) (gv := vIv) (ok_impl_Integer _) fun r68 hr68 => ?_
     refine Run.q (e := vIv) (gv := vIv) (ok_impl_MulI _ _) fun r69 hr69 => ?_
     refine Run.q (e := vIv) (gv := vIv) (ok_impl_Integer _) fun r70 hr70 => ?_
     refine Run.q (e := vIv) (gv := vIv) (ok_impl_DivI _ _) fun r71 hr71 => ?_
     refine Run.q (e := vIv) (gv := vIv) (ok_impl_AddI _ _) fun r72 hr72 => ?_
     refine Run.u 400 E_ok mixed Tryz.func234 ?_
     refine Run.z [true] ?_
     refine Run.q (e := vIv) (gv := vIv) (ok_impl_Integer _) fun r73 hr73 => ?_
     refine Run.q (e := vIv) (gv := vIv) (ok_impl_MulI _ _) fun r74 hr74 => ?_
     refine Run.q (e := vIv) (gv := vIv) (ok_impl_Integer _) fun r75 hr75 => ?_
     refine Run.q (e := vIv) (gv := vIv) (ok_impl_DivI _ _) fun r76 hr76 => ?_
     refine Run.q (e := vIv) (gv := vIv) (ok_impl_AddI _ _) fun r77 hr77 => ?_
     refine Run.u 400 E_ok mixed Tryz.func234 ?_
     refine Run.z [true] ?_
     refine Run.q (e := vIv) (gv := vIv) (ok_impl_Integer _) fun r78 hr78 => ?_
     refine Run.q (e := vIv) (gv := vIv) (ok_impl_MulI _ _) fun r79 hr79 => ?_
     refine Run.q (e := vIv) (gv := vIv) (ok_impl_Integer _) fun r80 hr80 => ?_
     refine Run.q (e := vIv) (gv := vIv) (ok_impl_DivI _ _) fun r81 hr81 => ?_
     refine Run.q (e := vIv) (gv := vIv) (ok_impl_AddI _ _) fun r82 hr82 => ?_
     refine Run.u 400 E_ok mixed Tryz.func234 ?_
     refine Run.z [true] ?_
     refine Run.q (e := vIv) (gv := vIv) (ok_impl_Integer _) fun r83 hr83 => ?_
     refine Run.q (e := vIv) (gv := vIv) (ok_impl_MulI _ _) fun r84 hr84 => ?_
     refine Run.q (e := vIv) (gv := vIv) (ok_impl_Integer _) fun r85 hr85 => ?_
     refine Run.q (e := vIv) (gv := vIv) (ok_impl_DivI _ _) fun r86 hr86 => ?_
     refine Run.q (e := vIv) (gv := vIv) (ok_impl_AddI _ _) fun r87 hr87 => ?_
     refine Run.u 400 E_ok mixed Tryz.func234 ?_
     refine Run.z [true] ?_
     refine Run.q (e := vIv) (gv := vIv) (ok_impl_Integer _) fun r88 hr88 => ?_
     refine Run.q (e := vIv) (gv := vIv) (ok_impl_MulI _ _) fun r89 hr89 => ?_
     refine Run.q (e := vIv) (gv := vIv) (ok_impl_Integer _) fun r90 hr90 => ?_
     refine Run.q (e := vIv) (gv := vIv) (ok_impl_DivI _ _) fun r91 hr91 => ?_
     refine Run.q (e := vIv) (gv := vIv) (ok_impl_AddI _ _) fun r92 hr92 => ?_
     refine Run.u 400 E_ok mixed Tryz.func234 ?_
     refine Run.z [true] ?_
     refine Run.q (e := vIv) (gv := vIv) (ok_impl_Integer _) fun r93 hr93 => ?_
     refine Run.q (e := vIv) (gv := vIv) (ok_impl_MulI _ _) fun r94 hr94 => ?_
     refine Run.q (e := vIv) (gv := vIv) (ok_impl_Integer _) fun r95 hr95 => ?_
     refine Run.q (e := vIv) (gv := vIv) (ok_impl_DivI _ _) fun r96 hr96 => ?_
     refine Run.q (e := vIv) (gv := vIv) (ok_impl_AddI _ _) fun r97 hr97 => ?_
     refine Run.u 400 E_ok mixed Tryz.func234 ?_
     refine Run.z [true] ?_
     refine Run.q (e := vIv) (gv := vIv) (ok_impl_Integer _) fun r98 hr98 => ?_
     refine Run.q (e := vIv) (gv := vIv) (ok_impl_MulI _ _) fun r99 hr99 => ?_
     refine Run.q (e := vIv) (gv := vIv) (ok_impl_Integer _) fun r100 hr100 => ?_
     refine Run.q (e := vIv) (gv := vIv) (ok_impl_DivI _ _) fun r101 hr101 => ?_
     refine Run.q (e := vIv) (gv := vIv) (ok_impl_AddI _ _) fun r102 hr102 => ?_
     refine Run.u 400 E_ok mixed Tryz.func234 ?_
     refine Run.z [true] ?_
     refine Run.q (e := vIv) (gv := vIv) (ok_impl_Integer _) fun r103 hr103 => ?_
     refine Run.q (e := vIv) (gv := vIv) (ok_impl_MulI _ _) fun r104 hr104 => ?_
     refine Run.q (e := vIv) (gv := vIv) (ok_impl_Integer _) fun r105 hr105 => ?_
     refine Run.q (e := vIv) (gv := vIv) (ok_impl_DivI _ _) fun r106 hr106 => ?_
     refine Run.q (e := vIv) (gv := vIv) (ok_impl_AddI _ _) fun r107 hr107 => ?_
     refine Run.u 400 E_ok mixed Tryz.func234 ?_
     refine Run.z [false] ?_
     refine Run.q (e := vIv) (gv := vIv) (ok_impl_widened _ _) fun r108 hr108 => ?_
     refine Run.q (e := vIv) (gv := vIv) (ok_impl_scaled _ _ (by have z := expk_range a0 h6 h4; first | exact z.1 | exact z.2.1 | exact z.2.2.1 | exact z.2.2.2) (by have z := expk_range a0 h6 h4; first | exact z.1 | exact z.2.1 | exact z.2.2.1 | exact z.2.2.2)) fun r109 hr109 => ?_
     exact Run.x 0

theorem ok_impl_monotonic__impl_ExpAt (a0 : Iv) : Fun Tryz.prog 181 [] #[vIv a0, .func (.func 234) #[] #[]] (vIv (F_impl_monotonic__impl_ExpAt a0)) [] := by
 refine Fun.ofH 400 E_ok mixed Tryz.func181 (by kernel_rfl) (by kernel_rfl) ?_
 unfold F_impl_monotonic__impl_ExpAt
 refine Run.q (e := vB) (gv := vIv) (ok_impl_IsWhole _) fun r1 _ => ?_
 refine Run.y (gv := vIv) (fun _ => ?_) (fun _ => ?_)
 ·refine Run.q (e := vIv) (gv := vIv) (ok_impl_Whole) fun r2 _ => ?_
  exact Run.x 0
 ·refine Run.q (e := vIv) (gv := vIv) (ok_impl_ExpAt _) fun r3 _ => ?_
  refine Run.q (e := vIv) (gv := vIv) (ok_impl_ExpAt _) fun r4 _ => ?_
  refine Run.q (e := vB) (gv := vIv) (ok_impl_areBounded _ _) fun r5 _ => ?_
  refine Run.y (gv := vIv) (fun _ => ?_) (fun _ => ?_)
  ·refine Run.q (e := vIv) (gv := vIv) (ok_impl_Whole) fun r6 _ => ?_
   exact Run.x 0
  ·refine Run.q (e := vIv) (gv := vIv) (ok_impl_bounded _ _ _) fun r7 _ => ?_
   exact Run.x 0

theorem ok_impl_ExpI (a0 : Iv) : Fun Tryz.prog 195 [] #[vIv a0] (vIv (F_impl_ExpI a0)) [] := by
 refine Fun.ofH 400 E_ok mixed Tryz.func195 (by kernel_rfl) (by kernel_rfl) ?_
 unfold F_impl_ExpI
 refine Run.q (e := vIv) (gv := vIv) (ok_impl_monotonic__impl_ExpAt _) fun r1 _ => ?_
 exact Run.x 0

theorem ok_impl_conic_constant__pCn (b0 : Cn) : Fun Tryz.prog 173 [(#[.int .i64 b0.p.kind.val, .int .i64 b0.p.lat0.val, .int .i64 b0.p.lon0.val, .int .i64 b0.p.lat1.val, .int .i64 b0.p.lat2.val, .int .i64 b0.a.lo.val, .int .i64 b0.a.hi.val, .int .i64 b0.b.lo.val, .int .i64 b0.b.hi.val, .int .i64 b0.o.lo.val, .int .i64 b0.o.hi.val, .int .i64 b0.n.lo.val, .int .i64 b0.n.hi.val, .int .i64 b0.g.lo.val, .int .i64 b0.g.hi.val], 111)] #[.pointer (some ⟨0, 0, none⟩)] (vIv (F_impl_conic_constant__pCn b0)) [(#[.int .i64 b0.p.kind.val, .int .i64 b0.p.lat0.val, .int .i64 b0.p.lon0.val, .int .i64 b0.p.lat1.val, .int .i64 b0.p.lat2.val, .int .i64 b0.a.lo.val, .int .i64 b0.a.hi.val, .int .i64 b0.b.lo.val, .int .i64 b0.b.hi.val, .int .i64 b0.o.lo.val, .int .i64 b0.o.hi.val, .int .i64 b0.n.lo.val, .int .i64 b0.n.hi.val, .int .i64 b0.g.lo.val, .int .i64 b0.g.hi.val], 111)] := by
 refine Fun.ofH 400 E_ok mixed Tryz.func173 (by kernel_rfl) (by kernel_rfl) ?_
 unfold F_impl_conic_constant__pCn
 refine Run.y (gv := vIv) (fun _ => ?_) (fun _ => ?_)
 ·refine Run.q (e := vIv) (gv := vIv) (ok_impl_CosI _) fun r1 _ => ?_
  refine Run.q (e := vIv) (gv := vIv) (ok_impl_SqrI _) fun r2 _ => ?_
  refine Run.q (e := vIv) (gv := vIv) (ok_impl_times _ _) fun r3 _ => ?_
  refine Run.q (e := vIv) (gv := vIv) (ok_impl_SinI _) fun r4 _ => ?_
  refine Run.q (e := vIv) (gv := vIv) (ok_impl_MulI _ _) fun r5 _ => ?_
  refine Run.q (e := vIv) (gv := vIv) (ok_impl_AddI _ _) fun r6 _ => ?_
  exact Run.x 1
 ·refine Run.y (gv := vIv) (fun _ => ?_) (fun _ => ?_)
  ·refine Run.q (e := vIv) (gv := vIv) (ok_impl_CosI _) fun r7 _ => ?_
   refine Run.q (e := vIv) (gv := vIv) (ok_impl_isometricSphere _) fun r8 _ => ?_
   refine Run.q (e := vIv) (gv := vIv) (ok_impl_MulI _ _) fun r9 _ => ?_
   refine Run.q (e := vIv) (gv := vIv) (ok_impl_ExpI _) fun r10 _ => ?_
   refine Run.q (e := vIv) (gv := vIv) (ok_impl_MulI _ _) fun r11 _ => ?_
   refine Run.q (e := vIv) (gv := vIv) (ok_impl_DivI _ _) fun r12 _ => ?_
   exact Run.x 1
  ·refine Run.q (e := vIv) (gv := vIv) (ok_impl_CosI _) fun r13 _ => ?_
   refine Run.q (e := vIv) (gv := vIv) (ok_impl_DivI _ _) fun r14 _ => ?_
   refine Run.q (e := vIv) (gv := vIv) (ok_impl_AddI _ _) fun r15 _ => ?_
   exact Run.x 1

def R_impl_newConic (r : Cn × I64) : Value → List Blk → Prop := MB 111 (r.2.val != 0) (vCn r.1).cells
theorem ok_impl_newConic (a0 : Pj) : FunR Tryz.prog 122 [] #[vPj a0] (MBx 111 ((F_impl_newConic a0).2.val != 0) (vCn (F_impl_newConic a0).1).cells) := by
 refine FunR.mb (by kernel_rfl) (FunR.of 400 E_ok mixed Tryz.func122 (by kernel_rfl) ?_)
 show Run _ _ (R_impl_newConic (F_impl_newConic a0)) _
 unfold F_impl_newConic
 refine Run.gq (Rg := R_impl_newConic) (e := vB) (ok_impl_ValidProjection _) fun r1 hr1 => ?_
 refine Run.gy (Rg := R_impl_newConic) (fun h2 => ?_) (fun h2 => ?_)
 ·refine Run.z [true, true, true, true, true] ?_
  exact Run.mbn (by kernel_rfl) (by kernel_rfl)
 ·refine Run.z [false, false] ?_
  refine Run.gq (Rg := R_impl_newConic) (e := vB) (ok_impl_isConic _) fun r3 hr3 => ?_
  refine Run.z [false, false] ?_
  refine Run.gy (Rg := R_impl_newConic) (fun h4 => ?_) (fun h4 => ?_)
  ·exact Run.mbn (by kernel_rfl) (by kernel_rfl)
  ·refine Run.gq (Rg := R_impl_newConic) (e := vIv) (ok_impl_RadiansOf _) fun r5 hr5 => ?_
   refine Run.gq (Rg := R_impl_newConic) (e := vIv) (ok_impl_RadiansOf _) fun r6 hr6 => ?_
   refine Run.gq (Rg := R_impl_newConic) (e := vIv) (ok_impl_RadiansOf _) fun r7 hr7 => ?_
   refine Run.gw (Rg := R_impl_newConic) (e := vIv) [1] (ok_impl_conic_cone__pCn _) fun r8 hr8 => ?_
   refine Run.gw (Rg := R_impl_newConic) (e := vIv) [1] (ok_impl_conic_constant__pCn _) fun r9 hr9 => ?_
   exact Run.mbp 1 (by kernel_rfl) (by kernel_rfl) (by kernel_rfl)

theorem ok_impl_conic_radius__pCn (b0 : Cn) (a0 : Iv) : Fun Tryz.prog 140 [(#[.int .i64 b0.p.kind.val, .int .i64 b0.p.lat0.val, .int .i64 b0.p.lon0.val, .int .i64 b0.p.lat1.val, .int .i64 b0.p.lat2.val, .int .i64 b0.a.lo.val, .int .i64 b0.a.hi.val, .int .i64 b0.b.lo.val, .int .i64 b0.b.hi.val, .int .i64 b0.o.lo.val, .int .i64 b0.o.hi.val, .int .i64 b0.n.lo.val, .int .i64 b0.n.hi.val, .int .i64 b0.g.lo.val, .int .i64 b0.g.hi.val], 111)] #[.pointer (some ⟨0, 0, none⟩), vIv a0] (vIv (F_impl_conic_radius__pCn b0 a0)) [(#[.int .i64 b0.p.kind.val, .int .i64 b0.p.lat0.val, .int .i64 b0.p.lon0.val, .int .i64 b0.p.lat1.val, .int .i64 b0.p.lat2.val, .int .i64 b0.a.lo.val, .int .i64 b0.a.hi.val, .int .i64 b0.b.lo.val, .int .i64 b0.b.hi.val, .int .i64 b0.o.lo.val, .int .i64 b0.o.hi.val, .int .i64 b0.n.lo.val, .int .i64 b0.n.hi.val, .int .i64 b0.g.lo.val, .int .i64 b0.g.hi.val], 111)] := by
 refine Fun.ofH 400 E_ok mixed Tryz.func140 (by kernel_rfl) (by kernel_rfl) ?_
 unfold F_impl_conic_radius__pCn
 refine Run.y (gv := vIv) (fun _ => ?_) (fun _ => ?_)
 ·refine Run.q (e := vIv) (gv := vIv) (ok_impl_times _ _) fun r1 _ => ?_
  refine Run.q (e := vIv) (gv := vIv) (ok_impl_SinI _) fun r2 _ => ?_
  refine Run.q (e := vIv) (gv := vIv) (ok_impl_MulI _ _) fun r3 _ => ?_
  refine Run.q (e := vIv) (gv := vIv) (ok_impl_SubI _ _) fun r4 _ => ?_
  refine Run.q (e := vIv) (gv := vIv) (ok_impl_SqrtI _) fun r5 _ => ?_
  refine Run.q (e := vIv) (gv := vIv) (ok_impl_DivI _ _) fun r6 _ => ?_
  exact Run.x 1
 ·refine Run.y (gv := vIv) (fun _ => ?_) (fun _ => ?_)
  ·refine Run.q (e := vIv) (gv := vIv) (ok_impl_isometricSphere _) fun r7 _ => ?_
   refine Run.q (e := vIv) (gv := vIv) (ok_impl_MulI _ _) fun r8 _ => ?_
   refine Run.q (e := vIv) (gv := vIv) (ok_impl_NegI _) fun r9 _ => ?_
   refine Run.q (e := vIv) (gv := vIv) (ok_impl_ExpI _) fun r10 _ => ?_
   refine Run.q (e := vIv) (gv := vIv) (ok_impl_MulI _ _) fun r11 _ => ?_
   exact Run.x 1
  ·refine Run.q (e := vIv) (gv := vIv) (ok_impl_SubI _ _) fun r12 _ => ?_
   exact Run.x 1

theorem ok_impl_ConicForward (a0 : Pj) (a1 : Pt) : Fun Tryz.prog 77 [] #[vPj a0, vPt a1] (vT_Pn_I (F_impl_ConicForward a0 a1)) [] := by
 refine Fun.ofH 400 E_ok mixed Tryz.func77 (by kernel_rfl) (by kernel_rfl) ?_
 unfold F_impl_ConicForward
 refine Run.bmb (nn := fun r : Cn × I64 => (r.2.val != 0)) (cl := fun r : Cn × I64 => (vCn r.1).cells) (gv := vT_Pn_I) (by kernel_rfl) (by kernel_rfl) (ok_impl_newConic _) (by kernel_rfl) (fun _ => rfl) (fun r1 hr1 => ?_) (fun r1 hr1 => ?_)
 ·refine Run.z [true, true, true, true, true] ?_
  exact Run.x 0
 ·refine Run.z [false, false] ?_
  refine Run.q (e := vB) (gv := vT_Pn_I) (ok_impl_ValidPoint _) fun r2 hr2 => ?_
  refine Run.z [false, false] ?_
  refine Run.y (gv := vT_Pn_I) (fun h3 => ?_) (fun h3 => ?_)
  ·exact Run.x 0
  ·refine Run.q (e := vB) (gv := vT_Pn_I) (ok_impl_isPole _) fun r4 hr4 => ?_
   refine Run.y (gv := vT_Pn_I) (fun h5 => ?_) (fun h5 => ?_)
   ·refine Run.z [true, true, true] ?_
    refine Run.y (gv := vT_Pn_I) (fun h6 => ?_) (fun h6 => ?_)
    ·exact Run.x 0
    ·refine Run.q (e := vIv) (gv := vT_Pn_I) (ok_impl_LatOf _) fun r7 hr7 => ?_
     refine Run.w (e := vIv) (gv := vT_Pn_I) [3] (ok_impl_conic_radius__pCn _ _) fun r8 hr8 => ?_
     refine Run.q (e := vIv) (gv := vT_Pn_I) (ok_impl_LonFrom _ _) fun r9 hr9 => ?_
     refine Run.q (e := vIv) (gv := vT_Pn_I) (ok_impl_MulI _ _) fun r10 hr10 => ?_
     refine Run.q (e := vIv) (gv := vT_Pn_I) (ok_impl_SinI _) fun r11 hr11 => ?_
     refine Run.q (e := vIv) (gv := vT_Pn_I) (ok_impl_MulI _ _) fun r12 hr12 => ?_
     refine Run.w (e := vIv) (gv := vT_Pn_I) [3] (ok_impl_conic_radius__pCn _ _) fun r13 hr13 => ?_
     refine Run.q (e := vIv) (gv := vT_Pn_I) (ok_impl_CosI _) fun r14 hr14 => ?_
     refine Run.q (e := vIv) (gv := vT_Pn_I) (ok_impl_MulI _ _) fun r15 hr15 => ?_
     refine Run.q (e := vIv) (gv := vT_Pn_I) (ok_impl_SubI _ _) fun r16 hr16 => ?_
     refine Run.q (e := vT_Pn_I) (gv := vT_Pn_I) (ok_impl_planar _ _) fun r17 hr17 => ?_
     exact Run.x 0
   ·refine Run.z [false, false, false, false] ?_
    refine Run.q (e := vIv) (gv := vT_Pn_I) (ok_impl_LatOf _) fun r18 hr18 => ?_
    refine Run.w (e := vIv) (gv := vT_Pn_I) [3] (ok_impl_conic_radius__pCn _ _) fun r19 hr19 => ?_
    refine Run.q (e := vIv) (gv := vT_Pn_I) (ok_impl_LonFrom _ _) fun r20 hr20 => ?_
    refine Run.q (e := vIv) (gv := vT_Pn_I) (ok_impl_MulI _ _) fun r21 hr21 => ?_
    refine Run.q (e := vIv) (gv := vT_Pn_I) (ok_impl_SinI _) fun r22 hr22 => ?_
    refine Run.q (e := vIv) (gv := vT_Pn_I) (ok_impl_MulI _ _) fun r23 hr23 => ?_
    refine Run.w (e := vIv) (gv := vT_Pn_I) [3] (ok_impl_conic_radius__pCn _ _) fun r24 hr24 => ?_
    refine Run.q (e := vIv) (gv := vT_Pn_I) (ok_impl_CosI _) fun r25 hr25 => ?_
    refine Run.q (e := vIv) (gv := vT_Pn_I) (ok_impl_MulI _ _) fun r26 hr26 => ?_
    refine Run.q (e := vIv) (gv := vT_Pn_I) (ok_impl_SubI _ _) fun r27 hr27 => ?_
    refine Run.q (e := vT_Pn_I) (gv := vT_Pn_I) (ok_impl_planar _ _) fun r28 hr28 => ?_
    exact Run.x 0

theorem ok_impl_isPseudoOne (a0 : Pj) : Fun Tryz.prog 141 [] #[vPj a0] (vB (F_impl_isPseudoOne a0)) [] := by
 refine Fun.ofH 400 E_ok mixed Tryz.func141 (by kernel_rfl) (by kernel_rfl) ?_
 unfold F_impl_isPseudoOne
 refine Run.q (e := vB) (gv := vB) (ok_impl_ValidProjection _) fun r1 _ => ?_
 refine Run.y (gv := vB) (fun _ => ?_) (fun _ => ?_)
 ·refine Run.z [true, true] ?_
  refine Run.q (e := vB) (gv := vB) (ok_impl_isPseudo _) fun r2 _ => ?_
  refine Run.z [true] ?_
  exact Run.x 0
 ·refine Run.z [false, false, false] ?_
  exact Run.x 0

theorem ok_impl_PiI : Fun Tryz.prog 238 [] #[] (vIv (F_impl_PiI)) [] := by
 refine Fun.ofH 400 E_ok mixed Tryz.func238 (by kernel_rfl) (by kernel_rfl) ?_
 unfold F_impl_PiI
 refine Run.q (e := vIv) (gv := vIv) (ok_impl_TurnI _) fun r1 _ => ?_
 exact Run.x 0

theorem ok_impl_leftFactor (a0 : I64) : Fun Tryz.prog 235 [] #[vI a0] (vIv (F_impl_leftFactor a0)) [] := by
 refine Fun.ofH 400 E_ok mixed Tryz.func235 (by kernel_rfl) (by kernel_rfl) ?_
 unfold F_impl_leftFactor
 refine Run.y (gv := vIv) (fun _ => ?_) (fun _ => ?_)
 ·refine Run.q (e := vIv) (gv := vIv) (ok_impl_PiI) fun r1 _ => ?_
  exact Run.x 0
 ·refine Run.q (e := vIv) (gv := vIv) (ok_impl_Integer _) fun r2 _ => ?_
  refine Run.q (e := vIv) (gv := vIv) (ok_impl_TurnI _) fun r3 _ => ?_
  refine Run.q (e := vIv) (gv := vIv) (ok_impl_AddI _ _) fun r4 _ => ?_
  exact Run.x 0

theorem ok_impl_quarter : Fun Tryz.prog 261 [] #[] (vI (F_impl_quarter)) [] := by
 refine Fun.ofH 400 E_ok mixed Tryz.func261 (by kernel_rfl) (by kernel_rfl) ?_
 unfold F_impl_quarter
 refine Run.q (e := vIv) (gv := vI) (ok_impl_TurnI _) fun r1 _ => ?_
 exact Run.x 0

theorem ok_impl_leftSide (a0 : I64) (a1 : I64) : Fun Tryz.prog 262 [] #[vI a0, vI a1] (vIv (F_impl_leftSide a0 a1)) [] := by
 refine Fun.ofH 400 E_ok mixed Tryz.func262 (by kernel_rfl) (by kernel_rfl) ?_
 unfold F_impl_leftSide
 refine Run.q (e := vIv) (gv := vIv) (ok_impl_at _) fun r1 _ => ?_
 refine Run.y (gv := vIv) (fun _ => ?_) (fun _ => ?_)
 ·refine Run.q (e := vIv) (gv := vIv) (ok_impl_at _) fun r2 _ => ?_
  refine Run.q (e := vIv) (gv := vIv) (ok_impl_SinI _) fun r3 _ => ?_
  refine Run.q (e := vIv) (gv := vIv) (ok_impl_AddI _ _) fun r4 _ => ?_
  exact Run.x 0
 ·refine Run.q (e := vIv) (gv := vIv) (ok_impl_SinI _) fun r5 _ => ?_
  refine Run.q (e := vIv) (gv := vIv) (ok_impl_AddI _ _) fun r6 _ => ?_
  exact Run.x 0

theorem ok_impl_parameterAt_L1 : ∀ (fu : Nat) (a0 : I64) (a1 : I64) (x_low : I64) (x_lowq : I64) (x_high : I64) (q0 : 0 ≤ x_lowq.val) (q1 : x_lowq.val ≤ x_high.val) (q2 : x_high.val ≤ 6746518853) (hm : (x_high.val - x_lowq.val).toNat < fu) (t : Array Value) (ht : maskA t [2, 3, 7, 9, 10, 11, 12, 13, 14, 15, 16, 17, 18, 19, 20, 21, 22, 23, 24, 25, 26, 27, 28, 29, 30, 31, 32, 33, 34, 35, 36, 37, 38, 39, 40, 41, 42, 43, 44, 45, 46, 47, 48, 49, 50, 51, 52, 53, 54, 55, 56, 57, 58, 59, 60, 61] = #[.int .i64 a0.val, .int .i64 a1.val, undef, undef, .pointer (some ⟨0, 0, none⟩), .int .i64 x_lowq.val, .int .i64 x_high.val, undef, .pointer (some ⟨1, 0, none⟩), undef, undef, undef, undef, undef, undef, undef, undef, undef, undef, undef, undef, undef, undef, undef, undef, undef, undef, undef, undef, undef, undef, undef, undef, undef, undef, undef, undef, undef, undef, undef, undef, undef, undef, undef, undef, undef, undef, undef, undef, undef, undef, undef, undef, undef, undef, undef, undef, undef, undef, undef, undef, undef]), Cfg Tryz.prog 236 (loopAt Tryz.f236 1) t [(#[.int .i64 0, .int .i64 0], 33), (#[.int .i64 x_low.val, .int .i64 0], 33)] (RvH [] (vIv (F_impl_parameterAt_L1 fu a0 a1 x_low x_lowq x_high))) := by
 intro fu
 induction fu with
 | zero => intro a0 a1 x_low x_lowq x_high q0 q1 q2 hm; exact absurd hm (Nat.not_lt_zero _)
 | succ fu ih =>
  intro a0 a1 x_low x_lowq x_high q0 q1 q2 hm t ht
  refine Cfg.round E_ok mixed Tryz.func236 ht fun g => ?_
  unfold F_impl_parameterAt_L1
  refine Run.y (gv := vIv) (fun h12 => ?_) (fun h12 => ?_)
  ·refine Run.z [true] ?_
   refine Run.q (e := vIv) (gv := vIv) (ok_impl_leftSide _ _) fun r13 hr13 => ?_
   refine Run.y (gv := vIv) (fun h14 => ?_) (fun h14 => ?_)
   ·exact Run.l (by kernel_rfl) (by kernel_rfl) (by kernel_rfl) (by kernel_rfl) (ih a0 a1 x_low x_lowq (ishr (w64 (x_lowq.val + x_high.val)) 1) (by first | exact Nat.lt_succ_self _ | (simp only [shr1_val, w64_val, c64_val, decide_eq_true_eq, decide_eq_false_iff_not, cond_true, cond_false] at *; omega)) (by first | exact Nat.lt_succ_self _ | (simp only [shr1_val, w64_val, c64_val, decide_eq_true_eq, decide_eq_false_iff_not, cond_true, cond_false] at *; omega)) (by first | exact Nat.lt_succ_self _ | (simp only [shr1_val, w64_val, c64_val, decide_eq_true_eq, decide_eq_false_iff_not, cond_true, cond_false] at *; omega)) (by first | exact Nat.lt_succ_self _ | (simp only [shr1_val, w64_val, c64_val, decide_eq_true_eq, decide_eq_false_iff_not, cond_true, cond_false] at *; omega)))
   ·exact Run.l (by kernel_rfl) (by kernel_rfl) (by kernel_rfl) (by kernel_rfl) (ih a0 a1 x_low (ishr (w64 (x_lowq.val + x_high.val)) 1) x_high (by first | exact Nat.lt_succ_self _ | (simp only [shr1_val, w64_val, c64_val, decide_eq_true_eq, decide_eq_false_iff_not, cond_true, cond_false] at *; omega)) (by first | exact Nat.lt_succ_self _ | (simp only [shr1_val, w64_val, c64_val, decide_eq_true_eq, decide_eq_false_iff_not, cond_true, cond_false] at *; omega)) (by first | exact Nat.lt_succ_self _ | (simp only [shr1_val, w64_val, c64_val, decide_eq_true_eq, decide_eq_false_iff_not, cond_true, cond_false] at *; omega)) (by first | exact Nat.lt_succ_self _ | (simp only [shr1_val, w64_val, c64_val, decide_eq_true_eq, decide_eq_false_iff_not, cond_true, cond_false] at *; omega)))
  ·exact Run.x 0

theorem ok_impl_parameterAt_L0 : ∀ (fu : Nat) (a0 : I64) (a1 : I64) (x_low : I64) (x_high : I64) (q0 : 0 ≤ x_low.val) (q1 : x_low.val ≤ x_high.val) (q2 : x_high.val ≤ 6746518853) (hm : (x_high.val - x_low.val).toNat < fu) (t : Array Value) (ht : maskA t [2, 3, 7, 8, 9, 10, 11, 12, 13, 14, 15, 16, 17, 18, 19, 20, 21, 22, 23, 24, 25, 26, 27, 28, 29, 30, 31, 32, 33, 34, 35, 36, 37, 38, 39, 40, 41, 42, 43, 44, 45, 46, 47, 48, 49, 50, 51, 52, 53, 54, 55, 56, 57, 58, 59, 60, 61] = #[.int .i64 a0.val, .int .i64 a1.val, undef, undef, .pointer (some ⟨0, 0, none⟩), .int .i64 x_low.val, .int .i64 x_high.val, undef, undef, undef, undef, undef, undef, undef, undef, undef, undef, undef, undef, undef, undef, undef, undef, undef, undef, undef, undef, undef, undef, undef, undef, undef, undef, undef, undef, undef, undef, undef, undef, undef, undef, undef, undef, undef, undef, undef, undef, undef, undef, undef, undef, undef, undef, undef, undef, undef, undef, undef, undef, undef, undef, undef]), Cfg Tryz.prog 236 (loopAt Tryz.f236 0) t [(#[.int .i64 0, .int .i64 0], 33)] (RvH [] (vIv (F_impl_parameterAt_L0 fu a0 a1 x_low x_high))) := by
 intro fu
 induction fu with
 | zero => intro a0 a1 x_low x_high q0 q1 q2 hm; exact absurd hm (Nat.not_lt_zero _)
 | succ fu ih =>
  intro a0 a1 x_low x_high q0 q1 q2 hm t ht
  refine Cfg.round E_ok mixed Tryz.func236 ht fun g => ?_
  unfold F_impl_parameterAt_L0
  refine Run.y (gv := vIv) (fun h8 => ?_) (fun h8 => ?_)
  ·refine Run.z [true] ?_
   refine Run.q (e := vIv) (gv := vIv) (ok_impl_leftSide _ _) fun r9 hr9 => ?_
   refine Run.y (gv := vIv) (fun h10 => ?_) (fun h10 => ?_)
   ·exact Run.l (by kernel_rfl) (by kernel_rfl) (by kernel_rfl) (by kernel_rfl) (ih a0 a1 (ishr (w64 (x_low.val + x_high.val)) 1) x_high (by first | exact Nat.lt_succ_self _ | (simp only [shr1_val, w64_val, c64_val, decide_eq_true_eq, decide_eq_false_iff_not, cond_true, cond_false] at *; omega)) (by first | exact Nat.lt_succ_self _ | (simp only [shr1_val, w64_val, c64_val, decide_eq_true_eq, decide_eq_false_iff_not, cond_true, cond_false] at *; omega)) (by first | exact Nat.lt_succ_self _ | (simp only [shr1_val, w64_val, c64_val, decide_eq_true_eq, decide_eq_false_iff_not, cond_true, cond_false] at *; omega)) (by first | exact Nat.lt_succ_self _ | (simp only [shr1_val, w64_val, c64_val, decide_eq_true_eq, decide_eq_false_iff_not, cond_true, cond_false] at *; omega)))
   ·exact Run.l (by kernel_rfl) (by kernel_rfl) (by kernel_rfl) (by kernel_rfl) (ih a0 a1 x_low (ishr (w64 (x_low.val + x_high.val)) 1) (by first | exact Nat.lt_succ_self _ | (simp only [shr1_val, w64_val, c64_val, decide_eq_true_eq, decide_eq_false_iff_not, cond_true, cond_false] at *; omega)) (by first | exact Nat.lt_succ_self _ | (simp only [shr1_val, w64_val, c64_val, decide_eq_true_eq, decide_eq_false_iff_not, cond_true, cond_false] at *; omega)) (by first | exact Nat.lt_succ_self _ | (simp only [shr1_val, w64_val, c64_val, decide_eq_true_eq, decide_eq_false_iff_not, cond_true, cond_false] at *; omega)) (by first | exact Nat.lt_succ_self _ | (simp only [shr1_val, w64_val, c64_val, decide_eq_true_eq, decide_eq_false_iff_not, cond_true, cond_false] at *; omega)))
  ·refine Run.q (e := vI) (gv := vIv) (ok_impl_quarter) fun r11 hr11 => ?_
   exact Run.l (by kernel_rfl) (by kernel_rfl) (by kernel_rfl) (by kernel_rfl) (ok_impl_parameterAt_L1 ((r11.val - x_low.val).toNat + 1) a0 a1 x_low x_low r11 (by first | exact Nat.lt_succ_self _ | (have z := impl_quarter1; (first | rw [← hr7] at z | rw [← hr11] at z); (try simp only [c64_val]); omega)) (by first | exact Nat.lt_succ_self _ | (have z := impl_quarter1; (first | rw [← hr7] at z | rw [← hr11] at z); (try simp only [c64_val]); omega)) (by first | exact Nat.lt_succ_self _ | (have z := impl_quarter1; (first | rw [← hr7] at z | rw [← hr11] at z); (try simp only [c64_val]); omega)) (by first | exact Nat.lt_succ_self _ | (have z := impl_quarter1; (first | rw [← hr7] at z | rw [← hr11] at z); (try simp only [c64_val]); omega)))

theorem ok_impl_parameterAt_r : ∀ (fu : Nat) (a0 : I64) (a1 : I64) (hm : min (0 - a1.val).toNat 1 < fu), Fun Tryz.prog 236 [] #[vI a0, vI a1] (vIv (F_impl_parameterAt_r fu a0 a1)) [] := by
 intro fu
 induction fu with
 | zero => intro a0 a1 hm; exact absurd hm (Nat.not_lt_zero _)
 | succ fu ih =>
  intro a0 a1 hm
  refine Fun.ofH 400 E_ok mixed Tryz.func236 (by kernel_rfl) (by kernel_rfl) ?_
  unfold F_impl_parameterAt_r
  refine Run.q (e := vB) (gv := vIv) (ok_impl_ValidFix _) fun r1 hr1 => ?_
  refine Run.y (gv := vIv) (fun h2 => ?_) (fun h2 => ?_)
  ·refine Run.q (e := vIv) (gv := vIv) (ok_impl_halfCircle) fun r3 hr3 => ?_
   exact Run.x 0
  ·refine Run.y (gv := vIv) (fun h4 => ?_) (fun h4 => ?_)
   ·refine Run.q (e := vIv) (gv := vIv) (ih a0 (w64 (0 - a1.val)) (by have q := a1.lo; rw [hr1] at h2; simp [F_impl_ValidFix, F_impl_within, bindP, c64_val] at h2; simp only [w64_val, decide_eq_true_eq, decide_eq_false_iff_not] at *; omega)) fun r5 hr5 => ?_
    refine Run.q (e := vIv) (gv := vIv) (ok_impl_NegI _) fun r6 hr6 => ?_
    exact Run.x 0
   ·refine Run.q (e := vI) (gv := vIv) (ok_impl_quarter) fun r7 hr7 => ?_
    exact Run.l (by kernel_rfl) (by kernel_rfl) (by kernel_rfl) (by kernel_rfl) (ok_impl_parameterAt_L0 ((r7.val - (c64 0).val).toNat + 1) a0 a1 (c64 0) r7 (by first | exact Nat.lt_succ_self _ | (have z := impl_quarter1; (first | rw [← hr7] at z | rw [← hr11] at z); (try simp only [c64_val]); omega)) (by first | exact Nat.lt_succ_self _ | (have z := impl_quarter1; (first | rw [← hr7] at z | rw [← hr11] at z); (try simp only [c64_val]); omega)) (by first | exact Nat.lt_succ_self _ | (have z := impl_quarter1; (first | rw [← hr7] at z | rw [← hr11] at z); (try simp only [c64_val]); omega)) (by first | exact Nat.lt_succ_self _ | (have z := impl_quarter1; (first | rw [← hr7] at z | rw [← hr11] at z); (try simp only [c64_val]); omega)))
theorem ok_impl_parameterAt (a0 : I64) (a1 : I64) : Fun Tryz.prog 236 [] #[vI a0, vI a1] (vIv (F_impl_parameterAt a0 a1)) [] := ok_impl_parameterAt_r 2 a0 a1 (by omega)

theorem ok_impl_ThetaOf (a0 : I64) (a1 : Iv) : Fun Tryz.prog 197 [] #[vI a0, vIv a1] (vIv (F_impl_ThetaOf a0 a1)) [] := by
 refine Fun.ofH 400 E_ok mixed Tryz.func197 (by kernel_rfl) (by kernel_rfl) ?_
 unfold F_impl_ThetaOf
 refine Run.q (e := vB) (gv := vIv) (ok_impl_isPseudo _) fun r1 _ => ?_
 refine Run.y (gv := vIv) (fun _ => ?_) (fun _ => ?_)
 ·refine Run.q (e := vIv) (gv := vIv) (ok_impl_Whole) fun r2 _ => ?_
  exact Run.x 0
 ·refine Run.y (gv := vIv) (fun _ => ?_) (fun _ => ?_)
  ·exact Run.x 0
  ·refine Run.q (e := vIv) (gv := vIv) (ok_impl_leftFactor _) fun r3 _ => ?_
   refine Run.q (e := vIv) (gv := vIv) (ok_impl_SinI _) fun r4 _ => ?_
   refine Run.q (e := vIv) (gv := vIv) (ok_impl_MulI _ _) fun r5 _ => ?_
   refine Run.q (e := vIv) (gv := vIv) (ok_impl_parameterAt _ _) fun r6 _ => ?_
   refine Run.q (e := vIv) (gv := vIv) (ok_impl_parameterAt _ _) fun r7 _ => ?_
   refine Run.q (e := vIv) (gv := vIv) (ok_impl_HullI _ _) fun r8 _ => ?_
   exact Run.x 0

theorem ok_impl_pseudoRadius (a0 : I64) : Fun Tryz.prog 237 [] #[vI a0] (vIv (F_impl_pseudoRadius a0)) [] := by
 refine Fun.ofH 400 E_ok mixed Tryz.func237 (by kernel_rfl) (by kernel_rfl) ?_
 unfold F_impl_pseudoRadius
 refine Run.y (gv := vIv) (fun _ => ?_) (fun _ => ?_)
 ·refine Run.q (e := vIv) (gv := vIv) (ok_impl_Integer _) fun r1 _ => ?_
  refine Run.q (e := vIv) (gv := vIv) (ok_impl_SqrtI _) fun r2 _ => ?_
  exact Run.x 0
 ·refine Run.q (e := vIv) (gv := vIv) (ok_impl_Integer _) fun r3 _ => ?_
  refine Run.q (e := vIv) (gv := vIv) (ok_impl_PiI) fun r4 _ => ?_
  refine Run.q (e := vIv) (gv := vIv) (ok_impl_AddI _ _) fun r5 _ => ?_
  refine Run.q (e := vIv) (gv := vIv) (ok_impl_SqrtI _) fun r6 _ => ?_
  exact Run.x 0

theorem ok_impl_parallelLength (a0 : I64) (a1 : Iv) : Fun Tryz.prog 198 [] #[vI a0, vIv a1] (vIv (F_impl_parallelLength a0 a1)) [] := by
 refine Fun.ofH 400 E_ok mixed Tryz.func198 (by kernel_rfl) (by kernel_rfl) ?_
 unfold F_impl_parallelLength
 refine Run.q (e := vIv) (gv := vIv) (ok_impl_pseudoRadius _) fun r1 _ => ?_
 refine Run.y (gv := vIv) (fun _ => ?_) (fun _ => ?_)
 ·refine Run.q (e := vIv) (gv := vIv) (ok_impl_CosI _) fun r2 _ => ?_
  exact Run.x 0
 ·refine Run.y (gv := vIv) (fun _ => ?_) (fun _ => ?_)
  ·refine Run.q (e := vIv) (gv := vIv) (ok_impl_times _ _) fun r3 _ => ?_
   refine Run.q (e := vIv) (gv := vIv) (ok_impl_CosI _) fun r4 _ => ?_
   refine Run.q (e := vIv) (gv := vIv) (ok_impl_MulI _ _) fun r5 _ => ?_
   refine Run.q (e := vIv) (gv := vIv) (ok_impl_PiI) fun r6 _ => ?_
   refine Run.q (e := vIv) (gv := vIv) (ok_impl_DivI _ _) fun r7 _ => ?_
   exact Run.x 0
  ·refine Run.q (e := vIv) (gv := vIv) (ok_impl_Integer _) fun r8 _ => ?_
   refine Run.q (e := vIv) (gv := vIv) (ok_impl_CosI _) fun r9 _ => ?_
   refine Run.q (e := vIv) (gv := vIv) (ok_impl_AddI _ _) fun r10 _ => ?_
   refine Run.q (e := vIv) (gv := vIv) (ok_impl_DivI _ _) fun r11 _ => ?_
   exact Run.x 0

theorem ok_impl_parallelHeight (a0 : I64) (a1 : Iv) : Fun Tryz.prog 199 [] #[vI a0, vIv a1] (vIv (F_impl_parallelHeight a0 a1)) [] := by
 refine Fun.ofH 400 E_ok mixed Tryz.func199 (by kernel_rfl) (by kernel_rfl) ?_
 unfold F_impl_parallelHeight
 refine Run.q (e := vIv) (gv := vIv) (ok_impl_pseudoRadius _) fun r1 _ => ?_
 refine Run.y (gv := vIv) (fun _ => ?_) (fun _ => ?_)
 ·exact Run.x 0
 ·refine Run.y (gv := vIv) (fun _ => ?_) (fun _ => ?_)
  ·refine Run.q (e := vIv) (gv := vIv) (ok_impl_SinI _) fun r2 _ => ?_
   refine Run.q (e := vIv) (gv := vIv) (ok_impl_MulI _ _) fun r3 _ => ?_
   exact Run.x 0
  ·refine Run.q (e := vIv) (gv := vIv) (ok_impl_times _ _) fun r4 _ => ?_
   refine Run.q (e := vIv) (gv := vIv) (ok_impl_DivI _ _) fun r5 _ => ?_
   exact Run.x 0

theorem ok_impl_ParallelOf (a0 : I64) (a1 : Iv) : Fun Tryz.prog 142 [] #[vI a0, vIv a1] (vT_Iv_Iv (F_impl_ParallelOf a0 a1)) [] := by
 refine Fun.ofH 400 E_ok mixed Tryz.func142 (by kernel_rfl) (by kernel_rfl) ?_
 unfold F_impl_ParallelOf
 refine Run.q (e := vB) (gv := vT_Iv_Iv) (ok_impl_isPseudo _) fun r1 _ => ?_
 refine Run.y (gv := vT_Iv_Iv) (fun _ => ?_) (fun _ => ?_)
 ·refine Run.q (e := vIv) (gv := vT_Iv_Iv) (ok_impl_Whole) fun r2 _ => ?_
  refine Run.q (e := vIv) (gv := vT_Iv_Iv) (ok_impl_Whole) fun r3 _ => ?_
  exact Run.x 0
 ·refine Run.q (e := vIv) (gv := vT_Iv_Iv) (ok_impl_ThetaOf _ _) fun r4 _ => ?_
  refine Run.q (e := vIv) (gv := vT_Iv_Iv) (ok_impl_parallelLength _ _) fun r5 _ => ?_
  refine Run.q (e := vIv) (gv := vT_Iv_Iv) (ok_impl_parallelHeight _ _) fun r6 _ => ?_
  exact Run.x 0

theorem ok_impl_PseudoForward (a0 : Pj) (a1 : Pt) : Fun Tryz.prog 78 [] #[vPj a0, vPt a1] (vT_Pn_I (F_impl_PseudoForward a0 a1)) [] := by
 refine Fun.ofH 400 E_ok mixed Tryz.func78 (by kernel_rfl) (by kernel_rfl) ?_
 unfold F_impl_PseudoForward
 refine Run.q (e := vB) (gv := vT_Pn_I) (ok_impl_isPseudoOne _) fun r1 _ => ?_
 refine Run.y (gv := vT_Pn_I) (fun _ => ?_) (fun _ => ?_)
 ·refine Run.z [true, true, true, true] ?_
  exact Run.x 0
 ·refine Run.z [false] ?_
  refine Run.q (e := vB) (gv := vT_Pn_I) (ok_impl_ValidPoint _) fun r2 _ => ?_
  refine Run.z [false, false] ?_
  refine Run.y (gv := vT_Pn_I) (fun _ => ?_) (fun _ => ?_)
  ·exact Run.x 0
  ·refine Run.q (e := vIv) (gv := vT_Pn_I) (ok_impl_LatOf _) fun r3 _ => ?_
   refine Run.q (e := vT_Iv_Iv) (gv := vT_Pn_I) (ok_impl_ParallelOf _ _) fun r4 _ => ?_
   refine Run.q (e := vIv) (gv := vT_Pn_I) (ok_impl_LonFrom _ _) fun r5 _ => ?_
   refine Run.q (e := vIv) (gv := vT_Pn_I) (ok_impl_MulI _ _) fun r6 _ => ?_
   refine Run.q (e := vT_Pn_I) (gv := vT_Pn_I) (ok_impl_planar _ _) fun r7 _ => ?_
   exact Run.x 0

theorem ok_impl_isTransverse (a0 : Pj) : Fun Tryz.prog 174 [] #[vPj a0] (vB (F_impl_isTransverse a0)) [] := by
 refine Fun.ofH 400 E_ok mixed Tryz.func174 (by kernel_rfl) (by kernel_rfl) ?_
 unfold F_impl_isTransverse
 refine Run.q (e := vB) (gv := vB) (ok_impl_ValidProjection _) fun r1 _ => ?_
 refine Run.y (gv := vB) (fun _ => ?_) (fun _ => ?_)
 ·refine Run.z [true, true, true] ?_
  exact Run.x 0
 ·refine Run.z [false, false, false] ?_
  exact Run.x 0

theorem ok_impl_transverse (a0 : Pj) (a1 : Pt) : Fun Tryz.prog 124 [] #[vPj a0, vPt a1] (vT_Iv_Iv_Iv_I (F_impl_transverse a0 a1)) [] := by
 refine Fun.ofH 400 E_ok mixed Tryz.func124 (by kernel_rfl) (by kernel_rfl) ?_
 unfold F_impl_transverse
 refine Run.q (e := vB) (gv := vT_Iv_Iv_Iv_I) (ok_impl_isTransverse _) fun r1 _ => ?_
 refine Run.y (gv := vT_Iv_Iv_Iv_I) (fun _ => ?_) (fun _ => ?_)
 ·refine Run.z [true, true, true, true] ?_
  exact Run.x 0
 ·refine Run.z [false] ?_
  refine Run.q (e := vB) (gv := vT_Iv_Iv_Iv_I) (ok_impl_ValidPoint _) fun r2 _ => ?_
  refine Run.z [false, false] ?_
  refine Run.y (gv := vT_Iv_Iv_Iv_I) (fun _ => ?_) (fun _ => ?_)
  ·exact Run.x 0
  ·refine Run.y (gv := vT_Iv_Iv_Iv_I) (fun _ => ?_) (fun _ => ?_)
   ·refine Run.z [true, true, true, true, true] ?_
    refine Run.q (e := vI) (gv := vT_Iv_Iv_Iv_I) (ok_impl_WrapLon _) fun r3 _ => ?_
    refine Run.z [true] ?_
    refine Run.q (e := vI) (gv := vT_Iv_Iv_Iv_I) (ok_impl_abs _) fun r4 _ => ?_
    refine Run.z [true, true] ?_
    refine Run.y (gv := vT_Iv_Iv_Iv_I) (fun _ => ?_) (fun _ => ?_)
    ·exact Run.x 0
    ·refine Run.q (e := vIv) (gv := vT_Iv_Iv_Iv_I) (ok_impl_LatOf _) fun r5 _ => ?_
     refine Run.q (e := vIv) (gv := vT_Iv_Iv_Iv_I) (ok_impl_LonFrom _ _) fun r6 _ => ?_
     refine Run.q (e := vIv) (gv := vT_Iv_Iv_Iv_I) (ok_impl_CosI _) fun r7 _ => ?_
     refine Run.q (e := vIv) (gv := vT_Iv_Iv_Iv_I) (ok_impl_SinI _) fun r8 _ => ?_
     refine Run.q (e := vIv) (gv := vT_Iv_Iv_Iv_I) (ok_impl_MulI _ _) fun r9 _ => ?_
     exact Run.x 0
   ·refine Run.z [false, false, false, false, false, false, false, false, false] ?_
    refine Run.q (e := vIv) (gv := vT_Iv_Iv_Iv_I) (ok_impl_LatOf _) fun r10 _ => ?_
    refine Run.q (e := vIv) (gv := vT_Iv_Iv_Iv_I) (ok_impl_LonFrom _ _) fun r11 _ => ?_
    refine Run.q (e := vIv) (gv := vT_Iv_Iv_Iv_I) (ok_impl_CosI _) fun r12 _ => ?_
    refine Run.q (e := vIv) (gv := vT_Iv_Iv_Iv_I) (ok_impl_SinI _) fun r13 _ => ?_
    refine Run.q (e := vIv) (gv := vT_Iv_Iv_Iv_I) (ok_impl_MulI _ _) fun r14 _ => ?_
    exact Run.x 0

theorem ok_impl_AtanhI_1 (a0 : I64) : Fun Tryz.prog 200 [] #[vI a0] (vIv (F_impl_AtanhI_1 a0)) [] := by
 refine Fun.ofH 400 E_ok mixed Tryz.func200 (by kernel_rfl) (by kernel_rfl) ?_
 unfold F_impl_AtanhI_1
 refine Run.y (gv := vIv) (fun _ => ?_) (fun _ => ?_)
 ·refine Run.q (e := vIv) (gv := vIv) (ok_impl_Whole) fun r1 _ => ?_
  exact Run.x 0
 ·refine Run.q (e := vIv) (gv := vIv) (ok_impl_at _) fun r2 _ => ?_
  refine Run.q (e := vIv) (gv := vIv) (ok_impl_at _) fun r3 _ => ?_
  refine Run.q (e := vIv) (gv := vIv) (ok_impl_DivI _ _) fun r4 _ => ?_
  refine Run.q (e := vIv) (gv := vIv) (ok_impl_LogI _) fun r5 _ => ?_
  refine Run.q (e := vIv) (gv := vIv) (ok_impl_HalfI _) fun r6 _ => ?_
  exact Run.x 0

theorem ok_impl_odd_1__p_impl_AtanhI_1 (a0 : I64) : Fun Tryz.prog 228 [(#[.func (.func 200) #[] #[]], 43)] #[vI a0, .pointer (some ⟨0, 0, none⟩)] (vIv (F_impl_odd_1__p_impl_AtanhI_1 a0)) [(#[.func (.func 200) #[] #[]], 43)] := by
 refine Fun.ofH 400 E_ok mixed Tryz.func228 (by kernel_rfl) (by kernel_rfl) ?_
 unfold F_impl_odd_1__p_impl_AtanhI_1
 refine Run.y (gv := vIv) (fun _ => ?_) (fun _ => ?_)
 ·refine Run.q (e := vIv) (gv := vIv) (ok_impl_AtanhI_1 _) fun r1 _ => ?_
  refine Run.q (e := vIv) (gv := vIv) (ok_impl_NegI _) fun r2 _ => ?_
  exact Run.x 1
 ·refine Run.q (e := vIv) (gv := vIv) (ok_impl_AtanhI_1 _) fun r3 _ => ?_
  exact Run.x 1

theorem ok_impl_monotonic__impl_odd_1_p_impl_AtanhI_1 (a0 : Iv) : Fun Tryz.prog 181 [(#[.func (.func 200) #[] #[]], 43)] #[vIv a0, .func (.func 228) #[] #[.pointer (some ⟨0, 0, none⟩)]] (vIv (F_impl_monotonic__impl_odd_1_p_impl_AtanhI_1 a0)) [(#[.func (.func 200) #[] #[]], 43)] := by
 refine Fun.ofH 400 E_ok mixed Tryz.func181 (by kernel_rfl) (by kernel_rfl) ?_
 unfold F_impl_monotonic__impl_odd_1_p_impl_AtanhI_1
 refine Run.q (e := vB) (gv := vIv) (ok_impl_IsWhole _) fun r1 _ => ?_
 refine Run.y (gv := vIv) (fun _ => ?_) (fun _ => ?_)
 ·refine Run.q (e := vIv) (gv := vIv) (ok_impl_Whole) fun r2 _ => ?_
  exact Run.x 1
 ·refine Run.w (e := vIv) (gv := vIv) [0] (ok_impl_odd_1__p_impl_AtanhI_1 _) fun r3 _ => ?_
  refine Run.w (e := vIv) (gv := vIv) [0] (ok_impl_odd_1__p_impl_AtanhI_1 _) fun r4 _ => ?_
  refine Run.q (e := vB) (gv := vIv) (ok_impl_areBounded _ _) fun r5 _ => ?_
  refine Run.y (gv := vIv) (fun _ => ?_) (fun _ => ?_)
  ·refine Run.q (e := vIv) (gv := vIv) (ok_impl_Whole) fun r6 _ => ?_
   exact Run.x 1
  ·refine Run.q (e := vIv) (gv := vIv) (ok_impl_bounded _ _ _) fun r7 _ => ?_
   exact Run.x 1

theorem ok_impl_AtanhI (a0 : Iv) : Fun Tryz.prog 143 [] #[vIv a0] (vIv (F_impl_AtanhI a0)) [] := by
 refine Fun.ofH 400 E_ok mixed Tryz.func143 (by kernel_rfl) (by kernel_rfl) ?_
 unfold F_impl_AtanhI
 refine Run.o (by kernel_rfl) ?_ ?_
 ·refine Run.m (by kernel_rfl) (by kernel_rfl) (ok_impl_odd 200) (by kernel_rfl) (by kernel_rfl) (by kernel_rfl) ?_
  refine Run.w (e := vIv) (gv := vIv) [2] (ok_impl_monotonic__impl_odd_1_p_impl_AtanhI_1 _) fun r1 hr1 => ?_
  exact Run.x 0
 ·refine Run.m (by kernel_rfl) (by kernel_rfl) (ok_impl_odd 200) (by kernel_rfl) (by kernel_rfl) (by kernel_rfl) ?_
  refine Run.w (e := vIv) (gv := vIv) [2] (ok_impl_monotonic__impl_odd_1_p_impl_AtanhI_1 _) fun r2 hr2 => ?_
  exact Run.x 0

theorem ok_impl_TransverseForward (a0 : Pj) (a1 : Pt) : Fun Tryz.prog 79 [] #[vPj a0, vPt a1] (vT_Pn_I (F_impl_TransverseForward a0 a1)) [] := by
 refine Fun.ofH 400 E_ok mixed Tryz.func79 (by kernel_rfl) (by kernel_rfl) ?_
 unfold F_impl_TransverseForward
 refine Run.q (e := vT_Iv_Iv_Iv_I) (gv := vT_Pn_I) (ok_impl_transverse _ _) fun r1 _ => ?_
 refine Run.y (gv := vT_Pn_I) (fun _ => ?_) (fun _ => ?_)
 ·exact Run.x 0
 ·refine Run.q (e := vIv) (gv := vT_Pn_I) (ok_impl_AtanhI _) fun r2 _ => ?_
  refine Run.q (e := vIv) (gv := vT_Pn_I) (ok_impl_SinI _) fun r3 _ => ?_
  refine Run.q (e := vIv) (gv := vT_Pn_I) (ok_impl_CosI _) fun r4 _ => ?_
  refine Run.q (e := vIv) (gv := vT_Pn_I) (ok_impl_CosI _) fun r5 _ => ?_
  refine Run.q (e := vIv) (gv := vT_Pn_I) (ok_impl_MulI _ _) fun r6 _ => ?_
  refine Run.q (e := vIv) (gv := vT_Pn_I) (ok_impl_DirectionI _ _) fun r7 _ => ?_
  refine Run.q (e := vIv) (gv := vT_Pn_I) (ok_impl_RadiansOf _) fun r8 _ => ?_
  refine Run.q (e := vIv) (gv := vT_Pn_I) (ok_impl_SubI _ _) fun r9 _ => ?_
  refine Run.q (e := vT_Pn_I) (gv := vT_Pn_I) (ok_impl_planar _ _) fun r10 _ => ?_
  exact Run.x 0

theorem ok_impl_Project (a0 : Pj) (a1 : Pt) : Fun Tryz.prog 30 [] #[vPj a0, vPt a1] (vT_Pn_I (F_impl_Project a0 a1)) [] := by
 refine Fun.ofH 400 E_ok mixed Tryz.func30 (by kernel_rfl) (by kernel_rfl) ?_
 unfold F_impl_Project
 refine Run.q (e := vI) (gv := vT_Pn_I) (ok_impl_FamilyOf _) fun r1 _ => ?_
 refine Run.y (gv := vT_Pn_I) (fun _ => ?_) (fun _ => ?_)
 ·refine Run.q (e := vT_Pn_I) (gv := vT_Pn_I) (ok_impl_CylinderForward _ _) fun r2 _ => ?_
  exact Run.x 0
 ·refine Run.y (gv := vT_Pn_I) (fun _ => ?_) (fun _ => ?_)
  ·refine Run.q (e := vT_Pn_I) (gv := vT_Pn_I) (ok_impl_AzimuthalForward _ _) fun r3 _ => ?_
   exact Run.x 0
  ·refine Run.y (gv := vT_Pn_I) (fun _ => ?_) (fun _ => ?_)
   ·refine Run.q (e := vT_Pn_I) (gv := vT_Pn_I) (ok_impl_ConicForward _ _) fun r4 _ => ?_
    exact Run.x 0
   ·refine Run.y (gv := vT_Pn_I) (fun _ => ?_) (fun _ => ?_)
    ·refine Run.q (e := vT_Pn_I) (gv := vT_Pn_I) (ok_impl_PseudoForward _ _) fun r5 _ => ?_
     exact Run.x 0
    ·refine Run.y (gv := vT_Pn_I) (fun _ => ?_) (fun _ => ?_)
     ·refine Run.q (e := vT_Pn_I) (gv := vT_Pn_I) (ok_impl_TransverseForward _ _) fun r6 _ => ?_
      exact Run.x 0
     ·exact Run.x 0

theorem ok_impl_knownI (a0 : Iv) : Fun Tryz.prog 31 [] #[vIv a0] (vT_Iv_I (F_impl_knownI a0)) [] := by
 refine Fun.ofH 400 E_ok mixed Tryz.func31 (by kernel_rfl) (by kernel_rfl) ?_
 unfold F_impl_knownI
 refine Run.q (e := vB) (gv := vT_Iv_I) (ok_impl_IsWhole _) fun r1 _ => ?_
 refine Run.y (gv := vT_Iv_I) (fun _ => ?_) (fun _ => ?_)
 ·exact Run.x 0
 ·exact Run.x 0

theorem ok_impl_MapDistance (a0 : Pj) (a1 : Pt) (a2 : Pt) : Fun Tryz.prog 8 [] #[vPj a0, vPt a1, vPt a2] (vT_Iv_I (F_impl_MapDistance a0 a1 a2)) [] := by
 refine Fun.ofH 400 E_ok mixed Tryz.func8 (by kernel_rfl) (by kernel_rfl) ?_
 unfold F_impl_MapDistance
 refine Run.q (e := vT_Pn_I) (gv := vT_Iv_I) (ok_impl_Project _ _) fun r1 _ => ?_
 refine Run.y (gv := vT_Iv_I) (fun _ => ?_) (fun _ => ?_)
 ·exact Run.x 0
 ·refine Run.q (e := vT_Pn_I) (gv := vT_Iv_I) (ok_impl_Project _ _) fun r2 _ => ?_
  refine Run.y (gv := vT_Iv_I) (fun _ => ?_) (fun _ => ?_)
  ·exact Run.x 0
  ·refine Run.q (e := vIv) (gv := vT_Iv_I) (ok_impl_SubI _ _) fun r3 _ => ?_
   refine Run.q (e := vIv) (gv := vT_Iv_I) (ok_impl_SqrI _) fun r4 _ => ?_
   refine Run.q (e := vIv) (gv := vT_Iv_I) (ok_impl_SubI _ _) fun r5 _ => ?_
   refine Run.q (e := vIv) (gv := vT_Iv_I) (ok_impl_SqrI _) fun r6 _ => ?_
   refine Run.q (e := vIv) (gv := vT_Iv_I) (ok_impl_AddI _ _) fun r7 _ => ?_
   refine Run.q (e := vIv) (gv := vT_Iv_I) (ok_impl_SqrtI _) fun r8 _ => ?_
   refine Run.q (e := vT_Iv_I) (gv := vT_Iv_I) (ok_impl_knownI _) fun r9 _ => ?_
   exact Run.x 0

theorem ok_impl_areValid (a0 : Pt) (a1 : Pt) : Fun Tryz.prog 89 [] #[vPt a0, vPt a1] (vB (F_impl_areValid a0 a1)) [] := by
 refine Fun.ofH 400 E_ok mixed Tryz.func89 (by kernel_rfl) (by kernel_rfl) ?_
 unfold F_impl_areValid
 refine Run.q (e := vB) (gv := vB) (ok_impl_ValidPoint _) fun r1 _ => ?_
 refine Run.y (gv := vB) (fun _ => ?_) (fun _ => ?_)
 ·refine Run.z [true] ?_
  refine Run.q (e := vB) (gv := vB) (ok_impl_ValidPoint _) fun r2 _ => ?_
  refine Run.z [true] ?_
  exact Run.x 0
 ·refine Run.z [false, false] ?_
  exact Run.x 0

theorem ok_impl_LonOf (a0 : Pt) : Fun Tryz.prog 150 [] #[vPt a0] (vIv (F_impl_LonOf a0)) [] := by
 refine Fun.ofH 400 E_ok mixed Tryz.func150 (by kernel_rfl) (by kernel_rfl) ?_
 unfold F_impl_LonOf
 refine Run.q (e := vB) (gv := vIv) (ok_impl_ValidPoint _) fun r1 _ => ?_
 refine Run.y (gv := vIv) (fun _ => ?_) (fun _ => ?_)
 ·refine Run.q (e := vIv) (gv := vIv) (ok_impl_Whole) fun r2 _ => ?_
  exact Run.x 0
 ·refine Run.q (e := vIv) (gv := vIv) (ok_impl_RadiansOf _) fun r3 _ => ?_
  exact Run.x 0

theorem ok_impl_vectorOf (a0 : Pt) : Fun Tryz.prog 90 [] #[vPt a0] (vVc (F_impl_vectorOf a0)) [] := by
 refine Fun.ofH 400 E_ok mixed Tryz.func90 (by kernel_rfl) (by kernel_rfl) ?_
 unfold F_impl_vectorOf
 refine Run.q (e := vIv) (gv := vVc) (ok_impl_LatOf _) fun r1 _ => ?_
 refine Run.q (e := vIv) (gv := vVc) (ok_impl_LonOf _) fun r2 _ => ?_
 refine Run.q (e := vIv) (gv := vVc) (ok_impl_CosI _) fun r3 _ => ?_
 refine Run.q (e := vIv) (gv := vVc) (ok_impl_CosI _) fun r4 _ => ?_
 refine Run.q (e := vIv) (gv := vVc) (ok_impl_MulI _ _) fun r5 _ => ?_
 refine Run.q (e := vIv) (gv := vVc) (ok_impl_CosI _) fun r6 _ => ?_
 refine Run.q (e := vIv) (gv := vVc) (ok_impl_SinI _) fun r7 _ => ?_
 refine Run.q (e := vIv) (gv := vVc) (ok_impl_MulI _ _) fun r8 _ => ?_
 refine Run.q (e := vIv) (gv := vVc) (ok_impl_SinI _) fun r9 _ => ?_
 exact Run.x 0

end Go.Proofs.YtbpkpmmmeneagaaGreat.Abs
