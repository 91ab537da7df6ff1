/- The program's functions are these; part 2 (written by w.py). -/
import Derived.Test.YtcdkepbgjgcjfaaGreatPsE
import Derived.Test.YtcdkepbgjgcjfaaGreatPsF4
import Derived.Test.YtcdkepbgjgcjfaaGreatPsQpre
import Derived.Test.YtcdkepbgjgcjfaaGreatPsK1
set_option linter.unusedVariables false
set_option linter.unusedSimpArgs false
namespace Go.Proofs.YtcdkepbgjgcjfaaGreat.Abs
open Go Go.RowKit

theorem ok_spec_MeetI (a0 : Iv) (a1 : Iv) : Fun Tryz.prog 59 [] #[vIv a0, vIv a1] (vT_Iv_B (F_spec_MeetI a0 a1)) [] := by
 refine Fun.ofH 400 E_ok mixed Tryz.func59 (by kernel_rfl) (by kernel_rfl) ?_
 unfold F_spec_MeetI
 refine Run.q (e := vB) (gv := vT_Iv_B) (ok_spec_l04Ok _) fun r1 _ => ?_
 refine Run.y (gv := vT_Iv_B) (fun _ => ?_) (fun _ => ?_)
 ·refine Run.z [true] ?_
  refine Run.q (e := vB) (gv := vT_Iv_B) (ok_spec_l04Ok _) fun r2 _ => ?_
  refine Run.z [true, true] ?_
  refine Run.y (gv := vT_Iv_B) (fun _ => ?_) (fun _ => ?_)
  ·refine Run.q (e := vIv) (gv := vT_Iv_B) (ok_spec_l04Whole) fun r3 _ => ?_
   exact Run.x 0
  ·refine Run.q (e := vB) (gv := vT_Iv_B) (ok_spec_l04Ok _) fun r4 _ => ?_
   refine Run.y (gv := vT_Iv_B) (fun _ => ?_) (fun _ => ?_)
   ·exact Run.x 0
   ·refine Run.q (e := vB) (gv := vT_Iv_B) (ok_spec_l04Ok _) fun r5 _ => ?_
    refine Run.y (gv := vT_Iv_B) (fun _ => ?_) (fun _ => ?_)
    ·exact Run.x 0
    ·refine Run.q (e := vI) (gv := vT_Iv_B) (ok_spec_l00Max _ _) fun r6 _ => ?_
     refine Run.q (e := vI) (gv := vT_Iv_B) (ok_spec_l00Min _ _) fun r7 _ => ?_
     refine Run.y (gv := vT_Iv_B) (fun _ => ?_) (fun _ => ?_)
     ·exact Run.x 0
     ·exact Run.x 0
 ·refine Run.z [false, false, false, false] ?_
  refine Run.q (e := vB) (gv := vT_Iv_B) (ok_spec_l04Ok _) fun r8 _ => ?_
  refine Run.y (gv := vT_Iv_B) (fun _ => ?_) (fun _ => ?_)
  ·exact Run.x 0
  ·refine Run.q (e := vB) (gv := vT_Iv_B) (ok_spec_l04Ok _) fun r9 _ => ?_
   refine Run.y (gv := vT_Iv_B) (fun _ => ?_) (fun _ => ?_)
   ·exact Run.x 0
   ·refine Run.q (e := vI) (gv := vT_Iv_B) (ok_spec_l00Max _ _) fun r10 _ => ?_
    refine Run.q (e := vI) (gv := vT_Iv_B) (ok_spec_l00Min _ _) fun r11 _ => ?_
    refine Run.y (gv := vT_Iv_B) (fun _ => ?_) (fun _ => ?_)
    ·exact Run.x 0
    ·exact Run.x 0

theorem ok_spec_l06Meet (a0 : Iv) : Fun Tryz.prog 256 [] #[vIv a0] (vIv (F_spec_l06Meet a0)) [] := by
 refine Fun.ofH 400 E_ok mixed Tryz.func256 (by kernel_rfl) (by kernel_rfl) ?_
 unfold F_spec_l06Meet
 refine Run.q (e := vIv) (gv := vIv) (ok_spec_l06Ring) fun r1 _ => ?_
 refine Run.q (e := vT_Iv_B) (gv := vIv) (ok_spec_MeetI _ _) fun r2 _ => ?_
 refine Run.y (gv := vIv) (fun _ => ?_) (fun _ => ?_)
 ·refine Run.q (e := vIv) (gv := vIv) (ok_spec_l06Ring) fun r3 _ => ?_
  exact Run.x 0
 ·exact Run.x 0

theorem ok_spec_CosSeries (a0 : Iv) : Fun Tryz.prog 258 [] #[vIv a0] (vIv (F_spec_CosSeries a0)) [] := by
 refine Fun.ofH 400 E_ok mixed Tryz.func258 (by kernel_rfl) (by kernel_rfl) ?_
 unfold F_spec_CosSeries
 refine Run.q (e := vIv) (gv := vIv) (ok_spec_l06Ring) fun r1 _ => ?_
 refine Run.q (e := vB) (gv := vIv) (ok_spec_InsideI _ _) fun r2 _ => ?_
 refine Run.y (gv := vIv) (fun _ => ?_) (fun _ => ?_)
 ·refine Run.q (e := vIv) (gv := vIv) (ok_spec_Whole) fun r3 _ => ?_
  exact Run.x 0
 ·refine Run.q (e := vIv) (gv := vIv) (ok_spec_SqrI _) fun r4 _ => ?_
  refine Run.q (e := vIv) (gv := vIv) (ok_spec_l06Series _ _) fun r5 _ => ?_
  refine Run.q (e := vIv) (gv := vIv) (ok_spec_l06Tiny) fun r6 _ => ?_
  refine Run.q (e := vIv) (gv := vIv) (ok_spec_AddI _ _) fun r7 _ => ?_
  exact Run.x 0

theorem ok_spec_l06At (a0 : I64) (a1 : I64) : Fun Tryz.prog 203 [] #[vI a0, vI a1] (vIv (F_spec_l06At a0 a1)) [] := by
 refine Fun.ofH 400 E_ok mixed Tryz.func203 (by kernel_rfl) (by kernel_rfl) ?_
 unfold F_spec_l06At
 refine Run.q (e := vB) (gv := vIv) (ok_spec_l06Angle _) fun r1 _ => ?_
 refine Run.y (gv := vIv) (fun _ => ?_) (fun _ => ?_)
 ·refine Run.q (e := vIv) (gv := vIv) (ok_spec_l06Ring) fun r2 _ => ?_
  exact Run.x 0
 ·refine Run.q (e := vI) (gv := vIv) (ok_spec_QuarterOf _) fun r3 _ => ?_
  refine Run.q (e := vIv) (gv := vIv) (ok_spec_l05At _) fun r4 _ => ?_
  refine Run.q (e := vIv) (gv := vIv) (ok_spec_TurnI _) fun r5 _ => ?_
  refine Run.q (e := vIv) (gv := vIv) (ok_spec_SubI _ _) fun r6 _ => ?_
  refine Run.y (gv := vIv) (fun _ => ?_) (fun _ => ?_)
  ·refine Run.q (e := vIv) (gv := vIv) (ok_spec_SinSeries _) fun r7 _ => ?_
   refine Run.q (e := vIv) (gv := vIv) (ok_spec_l06Meet _) fun r8 _ => ?_
   exact Run.x 0
  ·refine Run.y (gv := vIv) (fun _ => ?_) (fun _ => ?_)
   ·refine Run.q (e := vIv) (gv := vIv) (ok_spec_CosSeries _) fun r9 _ => ?_
    refine Run.q (e := vIv) (gv := vIv) (ok_spec_l06Meet _) fun r10 _ => ?_
    exact Run.x 0
   ·refine Run.y (gv := vIv) (fun _ => ?_) (fun _ => ?_)
    ·refine Run.q (e := vIv) (gv := vIv) (ok_spec_SinSeries _) fun r11 _ => ?_
     refine Run.q (e := vIv) (gv := vIv) (ok_spec_NegI _) fun r12 _ => ?_
     refine Run.q (e := vIv) (gv := vIv) (ok_spec_l06Meet _) fun r13 _ => ?_
     exact Run.x 0
    ·refine Run.q (e := vIv) (gv := vIv) (ok_spec_CosSeries _) fun r14 _ => ?_
     refine Run.q (e := vIv) (gv := vIv) (ok_spec_NegI _) fun r15 _ => ?_
     refine Run.q (e := vIv) (gv := vIv) (ok_spec_l06Meet _) fun r16 _ => ?_
     exact Run.x 0

theorem ok_spec_HullI (a0 : Iv) (a1 : Iv) : Fun Tryz.prog 202 [] #[vIv a0, vIv a1] (vIv (F_spec_HullI a0 a1)) [] := by
 refine Fun.ofH 400 E_ok mixed Tryz.func202 (by kernel_rfl) (by kernel_rfl) ?_
 unfold F_spec_HullI
 refine Run.q (e := vB) (gv := vIv) (ok_spec_l04Ok _) fun r1 _ => ?_
 refine Run.y (gv := vIv) (fun _ => ?_) (fun _ => ?_)
 ·refine Run.z [true, true, true, true] ?_
  refine Run.q (e := vIv) (gv := vIv) (ok_spec_l04Whole) fun r2 _ => ?_
  exact Run.x 0
 ·refine Run.z [false] ?_
  refine Run.q (e := vB) (gv := vIv) (ok_spec_l04Ok _) fun r3 _ => ?_
  refine Run.z [false, false] ?_
  refine Run.y (gv := vIv) (fun _ => ?_) (fun _ => ?_)
  ·refine Run.q (e := vIv) (gv := vIv) (ok_spec_l04Whole) fun r4 _ => ?_
   exact Run.x 0
  ·refine Run.q (e := vI) (gv := vIv) (ok_spec_l00Min _ _) fun r5 _ => ?_
   refine Run.q (e := vI) (gv := vIv) (ok_spec_l00Max _ _) fun r6 _ => ?_
   refine Run.q (e := vIv) (gv := vIv) (ok_spec_l04Make _ _) fun r7 _ => ?_
   exact Run.x 0

theorem ok_spec_OverlapI (a0 : Iv) (a1 : Iv) : Fun Tryz.prog 10 [] #[vIv a0, vIv a1] (vB (F_spec_OverlapI a0 a1)) [] := by
 refine Fun.ofH 400 E_ok mixed Tryz.func10 (by kernel_rfl) (by kernel_rfl) ?_
 unfold F_spec_OverlapI
 refine Run.q (e := vT_Iv_B) (gv := vB) (ok_spec_MeetI _ _) fun r1 _ => ?_
 exact Run.x 0

theorem ok_spec_l06Over_L0 : ∀ (fu : Nat) (a1 : I64) (a0 : Iv) (x_k : I64) (y_2 : Iv) (hm : (2000 - x_k.val).toNat < fu) (t : Array Value) (ht : maskA t [0, 3, 7, 8, 9, 10, 11, 12, 13, 14, 15, 16, 17, 18, 19, 20, 21, 22, 23, 24, 25, 26, 27, 28, 29, 30, 31, 32, 33, 34, 35, 36, 37, 38, 39, 40, 41, 42, 43, 44, 45, 46, 47, 48, 49, 50, 51] = #[undef, .int .i64 a1.val, .pointer (some ⟨0, 0, none⟩), undef, .pointer (some ⟨1, 0, none⟩), .pointer (some ⟨2, 0, none⟩), .int .i64 x_k.val, undef, undef, undef, undef, undef, undef, undef, undef, undef, undef, undef, undef, undef, undef, undef, undef, undef, undef, undef, undef, undef, undef, undef, undef, undef, undef, undef, undef, undef, undef, undef, undef, undef, undef, undef, undef, undef, undef, undef, undef, undef, undef, undef, undef, undef]), Cfg Tryz.prog 112 (loopAt Tryz.f112 0) t [(#[.int .i64 a0.lo.val, .int .i64 a0.hi.val], 31), (#[.int .i64 0, .int .i64 0], 31), (#[.int .i64 y_2.lo.val, .int .i64 y_2.hi.val], 31)] (RvH [] (vIv (F_spec_l06Over_L0 fu a1 a0 x_k y_2))) := by
 intro fu
 induction fu with
 | zero => intro a1 a0 x_k y_2 hm; exact absurd hm (Nat.not_lt_zero _)
 | succ fu ih =>
  intro a1 a0 x_k y_2 hm t ht
  refine Cfg.round E_ok mixed Tryz.func112 ht fun g => ?_
  unfold F_spec_l06Over_L0
  refine Run.q (e := vI) (gv := vIv) (ok_spec_QuarterOf _) fun r8 hr8 => ?_
  refine Run.y (gv := vIv) (fun h9 => ?_) (fun h9 => ?_)
  ·refine Run.q (e := vIv) (gv := vIv) (ok_spec_TurnI _) fun r10 hr10 => ?_
   refine Run.q (e := vB) (gv := vIv) (ok_spec_OverlapI _ _) fun r11 hr11 => ?_
   refine Run.y (gv := vIv) (fun h12 => ?_) (fun h12 => ?_)
   ·exact Run.l (by kernel_rfl) (by kernel_rfl) (by kernel_rfl) (by kernel_rfl) (ih a1 a0 (w64 (x_k.val + 1)) y_2 (by have q1 := x_k.lo; first | exact Nat.lt_succ_self _ | (have q2 := spec_quarter_le a0.hi; have q3 := spec_quarter_ge a0.hi; simp only [w64_val, decide_eq_true_eq, decide_eq_false_iff_not, *] at *; omega)))
   ·refine Run.y (gv := vIv) (fun h13 => ?_) (fun h13 => ?_)
    ·refine Run.q (e := vIv) (gv := vIv) (ok_spec_Integer _) fun r14 hr14 => ?_
     refine Run.q (e := vIv) (gv := vIv) (ok_spec_HullI _ _) fun r15 hr15 => ?_
     exact Run.l (by kernel_rfl) (by kernel_rfl) (by kernel_rfl) (by kernel_rfl) (ih a1 a0 (w64 (x_k.val + 1)) r15 (by have q1 := x_k.lo; first | exact Nat.lt_succ_self _ | (have q2 := spec_quarter_le a0.hi; have q3 := spec_quarter_ge a0.hi; simp only [w64_val, decide_eq_true_eq, decide_eq_false_iff_not, *] at *; omega)))
    ·refine Run.y (gv := vIv) (fun h16 => ?_) (fun h16 => ?_)
     ·refine Run.q (e := vIv) (gv := vIv) (ok_spec_Integer _) fun r17 hr17 => ?_
      refine Run.q (e := vIv) (gv := vIv) (ok_spec_HullI _ _) fun r18 hr18 => ?_
      exact Run.l (by kernel_rfl) (by kernel_rfl) (by kernel_rfl) (by kernel_rfl) (ih a1 a0 (w64 (x_k.val + 1)) r18 (by have q1 := x_k.lo; first | exact Nat.lt_succ_self _ | (have q2 := spec_quarter_le a0.hi; have q3 := spec_quarter_ge a0.hi; simp only [w64_val, decide_eq_true_eq, decide_eq_false_iff_not, *] at *; omega)))
     ·exact Run.l (by kernel_rfl) (by kernel_rfl) (by kernel_rfl) (by kernel_rfl) (ih a1 a0 (w64 (x_k.val + 1)) y_2 (by have q1 := x_k.lo; first | exact Nat.lt_succ_self _ | (have q2 := spec_quarter_le a0.hi; have q3 := spec_quarter_ge a0.hi; simp only [w64_val, decide_eq_true_eq, decide_eq_false_iff_not, *] at *; omega)))
  ·exact Run.x 0

theorem ok_spec_l06Over (a0 : Iv) (a1 : I64) : Fun Tryz.prog 112 [] #[vIv a0, vI a1] (vIv (F_spec_l06Over a0 a1)) [] := by
 refine Fun.ofH 400 E_ok mixed Tryz.func112 (by kernel_rfl) (by kernel_rfl) ?_
 unfold F_spec_l06Over
 refine Run.q (e := vB) (gv := vIv) (ok_spec_l06Fits _) fun r1 hr1 => ?_
 refine Run.y (gv := vIv) (fun h2 => ?_) (fun h2 => ?_)
 ·refine Run.q (e := vIv) (gv := vIv) (ok_spec_l06Ring) fun r3 hr3 => ?_
  exact Run.x 0
 ·refine Run.q (e := vIv) (gv := vIv) (ok_spec_l06At _ _) fun r4 hr4 => ?_
  refine Run.q (e := vIv) (gv := vIv) (ok_spec_l06At _ _) fun r5 hr5 => ?_
  refine Run.q (e := vIv) (gv := vIv) (ok_spec_HullI _ _) fun r6 hr6 => ?_
  refine Run.q (e := vI) (gv := vIv) (ok_spec_QuarterOf _) fun r7 hr7 => ?_
  exact Run.l (by kernel_rfl) (by kernel_rfl) (by kernel_rfl) (by kernel_rfl) (ok_spec_l06Over_L0 ((2000 - (w64 (r7.val - 1)).val).toNat + 1) a1 a0 (w64 (r7.val - 1)) r6 (by exact Nat.lt_succ_self _))

theorem ok_spec_SinI (a0 : Iv) : Fun Tryz.prog 29 [] #[vIv a0] (vIv (F_spec_SinI a0)) [] := by
 refine Fun.ofH 400 E_ok mixed Tryz.func29 (by kernel_rfl) (by kernel_rfl) ?_
 unfold F_spec_SinI
 refine Run.q (e := vIv) (gv := vIv) (ok_spec_l06Over _ _) fun r1 _ => ?_
 exact Run.x 0

theorem ok_spec_l07Quarter : Fun Tryz.prog 290 [] #[] (vIv (F_spec_l07Quarter)) [] := by
 refine Fun.ofH 400 E_ok mixed Tryz.func290 (by kernel_rfl) (by kernel_rfl) ?_
 unfold F_spec_l07Quarter
 refine Run.q (e := vIv) (gv := vIv) (ok_spec_l05Turn _ (by simp only [w64_val, wu64_val, c64_val, cu64_val, decide_eq_true_eq, decide_eq_false_iff_not, cond_true, cond_false] at *; omega)) fun r1 hr1 => ?_
 refine Run.q (e := vIv) (gv := vIv) (ok_spec_l05Turn _ (by simp only [w64_val, wu64_val, c64_val, cu64_val, decide_eq_true_eq, decide_eq_false_iff_not, cond_true, cond_false] at *; omega)) fun r2 hr2 => ?_
 exact Run.x 0

theorem ok_spec_l20Left (a0 : I64) (a1 : I64) : Fun Tryz.prog 313 [] #[vI a0, vI a1] (vIv (F_spec_l20Left a0 a1)) [] := by
 refine Fun.ofH 400 E_ok mixed Tryz.func313 (by kernel_rfl) (by kernel_rfl) ?_
 unfold F_spec_l20Left
 refine Run.q (e := vIv) (gv := vIv) (ok_spec_l05At _) fun r1 _ => ?_
 refine Run.y (gv := vIv) (fun _ => ?_) (fun _ => ?_)
 ·refine Run.q (e := vIv) (gv := vIv) (ok_spec_l05At _) fun r2 _ => ?_
  refine Run.q (e := vIv) (gv := vIv) (ok_spec_SinI _) fun r3 _ => ?_
  refine Run.q (e := vIv) (gv := vIv) (ok_spec_AddI _ _) fun r4 _ => ?_
  exact Run.x 0
 ·refine Run.q (e := vIv) (gv := vIv) (ok_spec_SinI _) fun r5 _ => ?_
  refine Run.q (e := vIv) (gv := vIv) (ok_spec_AddI _ _) fun r6 _ => ?_
  exact Run.x 0

theorem ok_spec_l20Solve_L1 : ∀ (fu : Nat) (a0 : I64) (a1 : I64) (x_from : I64) (x_low : I64) (x_high : I64) (q0 : 0 ≤ x_low.val) (q1 : x_low.val ≤ x_high.val) (q2 : x_high.val ≤ 6746518853) (hm : (x_high.val - x_low.val).toNat < fu) (t : Array Value) (ht : maskA t [2, 3, 5, 8, 10, 11, 12, 13, 14, 15, 16, 17, 18, 19, 20, 21, 22, 23, 24, 25, 26, 27, 28, 29, 30, 31, 32, 33, 34, 35, 36, 37, 38, 39, 40, 41, 42, 43, 44, 45, 46, 47, 48, 49, 50] = #[.int .i64 a0.val, .int .i64 a1.val, undef, undef, .pointer (some ⟨0, 0, none⟩), undef, .int .i64 x_low.val, .int .i64 x_high.val, undef, .int .i64 x_from.val, undef, undef, undef, undef, undef, undef, undef, undef, undef, undef, undef, undef, undef, undef, undef, undef, undef, undef, undef, undef, undef, undef, undef, undef, undef, undef, undef, undef, undef, undef, undef, undef, undef, undef, undef, undef, undef, undef, undef, undef, undef]), Cfg Tryz.prog 291 (loopAt Tryz.f291 1) t [(#[.int .i64 0, .int .i64 0], 31)] (RvH [] (vIv (F_spec_l20Solve_L1 fu a0 a1 x_from x_low x_high))) := by
 intro fu
 induction fu with
 | zero => intro a0 a1 x_from x_low x_high q0 q1 q2 hm; exact absurd hm (Nat.not_lt_zero _)
 | succ fu ih =>
  intro a0 a1 x_from x_low x_high q0 q1 q2 hm t ht
  refine Cfg.round E_ok mixed Tryz.func291 ht fun g => ?_
  unfold F_spec_l20Solve_L1
  refine Run.y (gv := vIv) (fun h5 => ?_) (fun h5 => ?_)
  ·refine Run.z [true] ?_
   refine Run.q (e := vIv) (gv := vIv) (ok_spec_l20Left _ _) fun r6 hr6 => ?_
   refine Run.y (gv := vIv) (fun h7 => ?_) (fun h7 => ?_)
   ·exact Run.l (by kernel_rfl) (by kernel_rfl) (by kernel_rfl) (by kernel_rfl) (ih a0 a1 x_from x_low (ishr (w64 (x_low.val + x_high.val)) 1) (by first | exact Nat.lt_succ_self _ | (simp only [shr1_val, w64_val, c64_val, decide_eq_true_eq, decide_eq_false_iff_not, cond_true, cond_false] at *; omega)) (by first | exact Nat.lt_succ_self _ | (simp only [shr1_val, w64_val, c64_val, decide_eq_true_eq, decide_eq_false_iff_not, cond_true, cond_false] at *; omega)) (by first | exact Nat.lt_succ_self _ | (simp only [shr1_val, w64_val, c64_val, decide_eq_true_eq, decide_eq_false_iff_not, cond_true, cond_false] at *; omega)) (by first | exact Nat.lt_succ_self _ | (simp only [shr1_val, w64_val, c64_val, decide_eq_true_eq, decide_eq_false_iff_not, cond_true, cond_false] at *; omega)))
   ·exact Run.l (by kernel_rfl) (by kernel_rfl) (by kernel_rfl) (by kernel_rfl) (ih a0 a1 x_from (ishr (w64 (x_low.val + x_high.val)) 1) x_high (by first | exact Nat.lt_succ_self _ | (simp only [shr1_val, w64_val, c64_val, decide_eq_true_eq, decide_eq_false_iff_not, cond_true, cond_false] at *; omega)) (by first | exact Nat.lt_succ_self _ | (simp only [shr1_val, w64_val, c64_val, decide_eq_true_eq, decide_eq_false_iff_not, cond_true, cond_false] at *; omega)) (by first | exact Nat.lt_succ_self _ | (simp only [shr1_val, w64_val, c64_val, decide_eq_true_eq, decide_eq_false_iff_not, cond_true, cond_false] at *; omega)) (by first | exact Nat.lt_succ_self _ | (simp only [shr1_val, w64_val, c64_val, decide_eq_true_eq, decide_eq_false_iff_not, cond_true, cond_false] at *; omega)))
  ·exact Run.x 0

theorem ok_spec_l20Solve_L0 : ∀ (fu : Nat) (a0 : I64) (a1 : I64) (r1 : Iv) (x_low : I64) (x_high : I64) (q0 : 0 ≤ x_low.val) (q1 : x_low.val ≤ x_high.val) (q2 : x_high.val ≤ 6746518853) (q3 : r1.hi.val = 6746518853) (hm : (x_high.val - x_low.val).toNat < fu) (t : Array Value) (ht : maskA t [2, 3, 8, 9, 10, 11, 12, 13, 14, 15, 16, 17, 18, 19, 20, 21, 22, 23, 24, 25, 26, 27, 28, 29, 30, 31, 32, 33, 34, 35, 36, 37, 38, 39, 40, 41, 42, 43, 44, 45, 46, 47, 48, 49, 50] = #[.int .i64 a0.val, .int .i64 a1.val, undef, undef, .pointer (some ⟨0, 0, none⟩), .int .i64 r1.hi.val, .int .i64 x_low.val, .int .i64 x_high.val, undef, undef, undef, undef, undef, undef, undef, undef, undef, undef, undef, undef, undef, undef, undef, undef, undef, undef, undef, undef, undef, undef, undef, undef, undef, undef, undef, undef, undef, undef, undef, undef, undef, undef, undef, undef, undef, undef, undef, undef, undef, undef, undef]), Cfg Tryz.prog 291 (loopAt Tryz.f291 0) t [(#[.int .i64 0, .int .i64 0], 31)] (RvH [] (vIv (F_spec_l20Solve_L0 fu a0 a1 r1 x_low x_high))) := by
 intro fu
 induction fu with
 | zero => intro a0 a1 r1 x_low x_high q0 q1 q2 q3 hm; exact absurd hm (Nat.not_lt_zero _)
 | succ fu ih =>
  intro a0 a1 r1 x_low x_high q0 q1 q2 q3 hm t ht
  refine Cfg.round E_ok mixed Tryz.func291 ht fun g => ?_
  unfold F_spec_l20Solve_L0
  refine Run.y (gv := vIv) (fun h2 => ?_) (fun h2 => ?_)
  ·refine Run.z [true] ?_
   refine Run.q (e := vIv) (gv := vIv) (ok_spec_l20Left _ _) fun r3 hr3 => ?_
   refine Run.y (gv := vIv) (fun h4 => ?_) (fun h4 => ?_)
   ·exact Run.l (by kernel_rfl) (by kernel_rfl) (by kernel_rfl) (by kernel_rfl) (ih a0 a1 r1 (ishr (w64 (x_low.val + x_high.val)) 1) x_high (by first | exact Nat.lt_succ_self _ | (simp only [shr1_val, w64_val, c64_val, decide_eq_true_eq, decide_eq_false_iff_not, cond_true, cond_false] at *; omega)) (by first | exact Nat.lt_succ_self _ | (simp only [shr1_val, w64_val, c64_val, decide_eq_true_eq, decide_eq_false_iff_not, cond_true, cond_false] at *; omega)) (by first | exact Nat.lt_succ_self _ | (simp only [shr1_val, w64_val, c64_val, decide_eq_true_eq, decide_eq_false_iff_not, cond_true, cond_false] at *; omega)) (by first | exact Nat.lt_succ_self _ | (simp only [shr1_val, w64_val, c64_val, decide_eq_true_eq, decide_eq_false_iff_not, cond_true, cond_false] at *; omega)) (by first | exact Nat.lt_succ_self _ | (simp only [shr1_val, w64_val, c64_val, decide_eq_true_eq, decide_eq_false_iff_not, cond_true, cond_false] at *; omega)))
   ·exact Run.l (by kernel_rfl) (by kernel_rfl) (by kernel_rfl) (by kernel_rfl) (ih a0 a1 r1 x_low (ishr (w64 (x_low.val + x_high.val)) 1) (by first | exact Nat.lt_succ_self _ | (simp only [shr1_val, w64_val, c64_val, decide_eq_true_eq, decide_eq_false_iff_not, cond_true, cond_false] at *; omega)) (by first | exact Nat.lt_succ_self _ | (simp only [shr1_val, w64_val, c64_val, decide_eq_true_eq, decide_eq_false_iff_not, cond_true, cond_false] at *; omega)) (by first | exact Nat.lt_succ_self _ | (simp only [shr1_val, w64_val, c64_val, decide_eq_true_eq, decide_eq_false_iff_not, cond_true, cond_false] at *; omega)) (by first | exact Nat.lt_succ_self _ | (simp only [shr1_val, w64_val, c64_val, decide_eq_true_eq, decide_eq_false_iff_not, cond_true, cond_false] at *; omega)) (by first | exact Nat.lt_succ_self _ | (simp only [shr1_val, w64_val, c64_val, decide_eq_true_eq, decide_eq_false_iff_not, cond_true, cond_false] at *; omega)))
  ·exact Run.l (by kernel_rfl) (by kernel_rfl) (by kernel_rfl) (by kernel_rfl) (ok_spec_l20Solve_L1 ((r1.hi.val - x_low.val).toNat + 1) a0 a1 x_low x_low r1.hi (by first | exact Nat.lt_succ_self _ | omega) (by first | exact Nat.lt_succ_self _ | omega) (by first | exact Nat.lt_succ_self _ | omega) (by first | exact Nat.lt_succ_self _ | omega))

theorem ok_spec_l20Solve (a0 : I64) (a1 : I64) : Fun Tryz.prog 291 [] #[vI a0, vI a1] (vIv (F_spec_l20Solve a0 a1)) [] := by
 refine Fun.ofH 400 E_ok mixed Tryz.func291 (by kernel_rfl) (by kernel_rfl) ?_
 unfold F_spec_l20Solve
 refine Run.q (e := vIv) (gv := vIv) (ok_spec_l05Turn _ (by decide)) fun r1 hr1 => ?_
 exact Run.l (by kernel_rfl) (by kernel_rfl) (by kernel_rfl) (by kernel_rfl) (ok_spec_l20Solve_L0 ((r1.hi.val - (c64 0).val).toNat + 1) a0 a1 r1 (c64 0) r1.hi (by first | exact Nat.lt_succ_self _ | (have z := spec_turn1; rw [← hr1] at z; (try simp only [c64_val]); omega)) (by first | exact Nat.lt_succ_self _ | (have z := spec_turn1; rw [← hr1] at z; (try simp only [c64_val]); omega)) (by first | exact Nat.lt_succ_self _ | (have z := spec_turn1; rw [← hr1] at z; (try simp only [c64_val]); omega)) (by first | exact Nat.lt_succ_self _ | (have z := spec_turn1; rw [← hr1] at z; (try simp only [c64_val]); omega)) (by first | exact Nat.lt_succ_self _ | (have z := spec_turn1; rw [← hr1] at z; (try simp only [c64_val]); omega)))

theorem ok_spec_l20At (a0 : I64) (a1 : I64) : Fun Tryz.prog 250 [] #[vI a0, vI a1] (vIv (F_spec_l20At a0 a1)) [] := by
 refine Fun.ofH 400 E_ok mixed Tryz.func250 (by kernel_rfl) (by kernel_rfl) ?_
 unfold F_spec_l20At
 refine Run.y (gv := vIv) (fun _ => ?_) (fun _ => ?_)
 ·refine Run.z [true, true, true] ?_
  refine Run.q (e := vIv) (gv := vIv) (ok_spec_l07Quarter) fun r1 _ => ?_
  exact Run.x 0
 ·refine Run.z [false, false] ?_
  refine Run.y (gv := vIv) (fun _ => ?_) (fun _ => ?_)
  ·refine Run.q (e := vIv) (gv := vIv) (ok_spec_l07Quarter) fun r2 _ => ?_
   exact Run.x 0
  ·refine Run.y (gv := vIv) (fun _ => ?_) (fun _ => ?_)
   ·refine Run.q (e := vIv) (gv := vIv) (ok_spec_l20Solve _ _) fun r3 _ => ?_
    refine Run.q (e := vIv) (gv := vIv) (ok_spec_NegI _) fun r4 _ => ?_
    exact Run.x 0
   ·refine Run.q (e := vIv) (gv := vIv) (ok_spec_l20Solve _ _) fun r5 _ => ?_
    exact Run.x 0

theorem ok_spec_ThetaOf (a0 : I64) (a1 : Iv) : Fun Tryz.prog 190 [] #[vI a0, vIv a1] (vIv (F_spec_ThetaOf a0 a1)) [] := by
 refine Fun.ofH 400 E_ok mixed Tryz.func190 (by kernel_rfl) (by kernel_rfl) ?_
 unfold F_spec_ThetaOf
 refine Run.y (gv := vIv) (fun _ => ?_) (fun _ => ?_)
 ·exact Run.x 0
 ·refine Run.y (gv := vIv) (fun _ => ?_) (fun _ => ?_)
  ·refine Run.z [true] ?_
   refine Run.q (e := vIv) (gv := vIv) (ok_spec_l20Right _) fun r1 _ => ?_
   refine Run.q (e := vIv) (gv := vIv) (ok_spec_SinI _) fun r2 _ => ?_
   refine Run.q (e := vIv) (gv := vIv) (ok_spec_MulI _ _) fun r3 _ => ?_
   refine Run.q (e := vIv) (gv := vIv) (ok_spec_l20At _ _) fun r4 _ => ?_
   refine Run.q (e := vIv) (gv := vIv) (ok_spec_l20At _ _) fun r5 _ => ?_
   refine Run.q (e := vIv) (gv := vIv) (ok_spec_HullI _ _) fun r6 _ => ?_
   exact Run.x 0
  ·refine Run.y (gv := vIv) (fun _ => ?_) (fun _ => ?_)
   ·refine Run.q (e := vIv) (gv := vIv) (ok_spec_l20Right _) fun r7 _ => ?_
    refine Run.q (e := vIv) (gv := vIv) (ok_spec_SinI _) fun r8 _ => ?_
    refine Run.q (e := vIv) (gv := vIv) (ok_spec_MulI _ _) fun r9 _ => ?_
    refine Run.q (e := vIv) (gv := vIv) (ok_spec_l20At _ _) fun r10 _ => ?_
    refine Run.q (e := vIv) (gv := vIv) (ok_spec_l20At _ _) fun r11 _ => ?_
    refine Run.q (e := vIv) (gv := vIv) (ok_spec_HullI _ _) fun r12 _ => ?_
    exact Run.x 0
   ·refine Run.q (e := vIv) (gv := vIv) (ok_spec_Whole) fun r13 _ => ?_
    exact Run.x 0

theorem ok_spec_CosI (a0 : Iv) : Fun Tryz.prog 123 [] #[vIv a0] (vIv (F_spec_CosI a0)) [] := by
 refine Fun.ofH 400 E_ok mixed Tryz.func123 (by kernel_rfl) (by kernel_rfl) ?_
 unfold F_spec_CosI
 refine Run.q (e := vIv) (gv := vIv) (ok_spec_l06Over _ _) fun r1 _ => ?_
 exact Run.x 0

theorem ok_spec_l02Root_L0 : ∀ (fu : Nat) (a0 : Wd) (x_out : U64) (x_i : I64) (q0 : x_i.val ≤ 63) (hm : (x_i.val + 1).toNat < fu) (t : Array Value) (ht : maskA t [0, 5, 6, 7, 8, 9, 10, 11, 12, 13, 14, 15, 16, 17, 18, 19, 20, 21, 22, 23, 24, 25, 26, 27, 28, 29, 30, 31, 32, 33, 34, 35, 36, 37, 38, 39, 40, 41, 42] = #[undef, .pointer (some ⟨0, 0, none⟩), .int .u64 0, .int .u64 x_out.val, .int .i64 x_i.val, undef, undef, undef, undef, undef, undef, undef, undef, undef, undef, undef, undef, undef, undef, undef, undef, undef, undef, undef, undef, undef, undef, undef, undef, undef, undef, undef, undef, undef, undef, undef, undef, undef, undef, undef, undef, undef, undef]), Cfg Tryz.prog 265 (loopAt Tryz.f265 0) t [(#[.int .i64 a0.hi.val, .int .u64 a0.lo.val], 121)] (RvH [] (vU (F_spec_l02Root_L0 fu a0 x_out x_i))) := by
 intro fu
 induction fu with
 | zero => intro a0 x_out x_i q0 hm; exact absurd hm (Nat.not_lt_zero _)
 | succ fu ih =>
  intro a0 x_out x_i q0 hm t ht
  refine Cfg.round E_ok mixed Tryz.func265 ht fun g => ?_
  unfold F_spec_l02Root_L0
  refine Run.y (gv := vU) (fun h1 => ?_) (fun h1 => ?_)
  ·refine Run.k (c := (decide (0 ≤ (wu64 x_i.val).val))) (by kernel_rfl) (by simp only [w64_val, wu64_val, c64_val, cu64_val, decide_eq_true_eq] at *; omega) ?_
   refine Run.q (e := vT_U_U) (gv := vU) (ok_spec_l02Times _ _) fun r2 hr2 => ?_
   refine Run.y (gv := vU) (fun h3 => ?_) (fun h3 => ?_)
   ·refine Run.z [true, true, true, true, true, true, true, true] ?_
    exact Run.l (by kernel_rfl) (by kernel_rfl) (by kernel_rfl) (by kernel_rfl) (ih a0 (ior .u64 x_out.val (ishl .u64 1 (wu64 x_i.val).val).val) (w64 (x_i.val - 1)) (by have q1 := x_i.lo; simp only [w64_val, wu64_val, c64_val, cu64_val, decide_eq_true_eq] at *; omega) (by have q1 := x_i.lo; simp only [w64_val, wu64_val, c64_val, cu64_val, decide_eq_true_eq] at *; omega))
   ·refine Run.z [false, false, false, false, false] ?_
    refine Run.y (gv := vU) (fun h4 => ?_) (fun h4 => ?_)
    ·refine Run.z [true, true, true, false, true, false] ?_
     refine Run.y (gv := vU) (fun h5 => ?_) (fun h5 => ?_)
     ·exact Run.l (by kernel_rfl) (by kernel_rfl) (by kernel_rfl) (by kernel_rfl) (ih a0 (ior .u64 x_out.val (ishl .u64 1 (wu64 x_i.val).val).val) (w64 (x_i.val - 1)) (by have q1 := x_i.lo; simp only [w64_val, wu64_val, c64_val, cu64_val, decide_eq_true_eq] at *; omega) (by have q1 := x_i.lo; simp only [w64_val, wu64_val, c64_val, cu64_val, decide_eq_true_eq] at *; omega))
     ·exact Run.l (by kernel_rfl) (by kernel_rfl) (by kernel_rfl) (by kernel_rfl) (ih a0 x_out (w64 (x_i.val - 1)) (by have q1 := x_i.lo; simp only [w64_val, wu64_val, c64_val, cu64_val, decide_eq_true_eq] at *; omega) (by have q1 := x_i.lo; simp only [w64_val, wu64_val, c64_val, cu64_val, decide_eq_true_eq] at *; omega))
    ·refine Run.z [false, false, false, false, false, false, false] ?_
     exact Run.l (by kernel_rfl) (by kernel_rfl) (by kernel_rfl) (by kernel_rfl) (ih a0 x_out (w64 (x_i.val - 1)) (by have q1 := x_i.lo; simp only [w64_val, wu64_val, c64_val, cu64_val, decide_eq_true_eq] at *; omega) (by have q1 := x_i.lo; simp only [w64_val, wu64_val, c64_val, cu64_val, decide_eq_true_eq] at *; omega))
  ·exact Run.x 0

theorem ok_spec_l02Root (a0 : Wd) : Fun Tryz.prog 265 [] #[vWd a0] (vU (F_spec_l02Root a0)) [] := by
 refine Fun.ofH 400 E_ok mixed Tryz.func265 (by kernel_rfl) (by kernel_rfl) ?_
 unfold F_spec_l02Root
 exact Run.l (by kernel_rfl) (by kernel_rfl) (by kernel_rfl) (by kernel_rfl) (ok_spec_l02Root_L0 65 a0 (cu64 0) (c64 63) (by decide) (by decide))

theorem ok_spec_SqrtFloor (a0 : I64) (a1 : I64) : Fun Tryz.prog 319 [] #[vI a0, vI a1] (vT_I_B (F_spec_SqrtFloor a0 a1)) [] := by
 refine Fun.ofH 400 E_ok mixed Tryz.func319 (by kernel_rfl) (by kernel_rfl) ?_
 unfold F_spec_SqrtFloor
 refine Run.y (gv := vT_I_B) (fun _ => ?_) (fun _ => ?_)
 ·refine Run.z [true, true, true] ?_
  exact Run.x 0
 ·refine Run.z [false, false] ?_
  refine Run.y (gv := vT_I_B) (fun _ => ?_) (fun _ => ?_)
  ·exact Run.x 0
  ·refine Run.q (e := vWd) (gv := vT_I_B) (ok_spec_l02Mul _ _) fun r1 _ => ?_
   refine Run.q (e := vU) (gv := vT_I_B) (ok_spec_l02Root _) fun r2 _ => ?_
   exact Run.x 0

theorem ok_spec_l03SqrtDown (a0 : I64) : Fun Tryz.prog 311 [] #[vI a0] (vT_I_B (F_spec_l03SqrtDown a0)) [] := by
 refine Fun.ofH 400 E_ok mixed Tryz.func311 (by kernel_rfl) (by kernel_rfl) ?_
 unfold F_spec_l03SqrtDown
 refine Run.q (e := vB) (gv := vT_I_B) (ok_spec_l00In _ _ _) fun r1 _ => ?_
 refine Run.y (gv := vT_I_B) (fun _ => ?_) (fun _ => ?_)
 ·exact Run.x 0
 ·refine Run.q (e := vT_I_B) (gv := vT_I_B) (ok_spec_SqrtFloor _ _) fun r2 _ => ?_
  exact Run.x 0

theorem ok_spec_l03SqrtUp (a0 : I64) : Fun Tryz.prog 312 [] #[vI a0] (vT_I_B (F_spec_l03SqrtUp a0)) [] := by
 refine Fun.ofH 400 E_ok mixed Tryz.func312 (by kernel_rfl) (by kernel_rfl) ?_
 unfold F_spec_l03SqrtUp
 refine Run.q (e := vT_I_B) (gv := vT_I_B) (ok_spec_l03SqrtDown _) fun r1 _ => ?_
 refine Run.y (gv := vT_I_B) (fun _ => ?_) (fun _ => ?_)
 ·exact Run.x 0
 ·refine Run.q (e := vT_I_B) (gv := vT_I_B) (ok_spec_MulFloor _ _ _) fun r2 _ => ?_
  refine Run.y (gv := vT_I_B) (fun _ => ?_) (fun _ => ?_)
  ·refine Run.z [true, true, true, true, true, true] ?_
   exact Run.x 0
  ·refine Run.z [false, false, false, false, false] ?_
   refine Run.y (gv := vT_I_B) (fun _ => ?_) (fun _ => ?_)
   ·exact Run.x 0
   ·exact Run.x 0

theorem ok_spec_SqrtI (a0 : Iv) : Fun Tryz.prog 289 [] #[vIv a0] (vIv (F_spec_SqrtI a0)) [] := by
 refine Fun.ofH 400 E_ok mixed Tryz.func289 (by kernel_rfl) (by kernel_rfl) ?_
 unfold F_spec_SqrtI
 refine Run.q (e := vB) (gv := vIv) (ok_spec_l04Ok _) fun r1 _ => ?_
 refine Run.y (gv := vIv) (fun _ => ?_) (fun _ => ?_)
 ·refine Run.z [true, true, true, true] ?_
  refine Run.q (e := vIv) (gv := vIv) (ok_spec_l04Whole) fun r2 _ => ?_
  exact Run.x 0
 ·refine Run.z [false, false, false] ?_
  refine Run.y (gv := vIv) (fun _ => ?_) (fun _ => ?_)
  ·refine Run.q (e := vIv) (gv := vIv) (ok_spec_l04Whole) fun r3 _ => ?_
   exact Run.x 0
  ·refine Run.q (e := vT_I_B) (gv := vIv) (ok_spec_l03SqrtDown _) fun r4 _ => ?_
   refine Run.q (e := vT_I_B) (gv := vIv) (ok_spec_l03SqrtUp _) fun r5 _ => ?_
   refine Run.q (e := vIv) (gv := vIv) (ok_spec_l04Make _ _) fun r6 _ => ?_
   exact Run.x 0

theorem ok_spec_l20Root (a0 : I64) : Fun Tryz.prog 248 [] #[vI a0] (vIv (F_spec_l20Root a0)) [] := by
 refine Fun.ofH 400 E_ok mixed Tryz.func248 (by kernel_rfl) (by kernel_rfl) ?_
 unfold F_spec_l20Root
 refine Run.y (gv := vIv) (fun _ => ?_) (fun _ => ?_)
 ·refine Run.q (e := vIv) (gv := vIv) (ok_spec_Integer _) fun r1 _ => ?_
  refine Run.q (e := vIv) (gv := vIv) (ok_spec_SqrtI _) fun r2 _ => ?_
  exact Run.x 0
 ·refine Run.q (e := vIv) (gv := vIv) (ok_spec_Integer _) fun r3 _ => ?_
  refine Run.q (e := vIv) (gv := vIv) (ok_spec_PiI) fun r4 _ => ?_
  refine Run.q (e := vIv) (gv := vIv) (ok_spec_AddI _ _) fun r5 _ => ?_
  refine Run.q (e := vIv) (gv := vIv) (ok_spec_SqrtI _) fun r6 _ => ?_
  exact Run.x 0

theorem ok_spec_l20Parallel (a0 : I64) (a1 : Iv) : Fun Tryz.prog 189 [] #[vI a0, vIv a1] (vT_Iv_Iv (F_spec_l20Parallel a0 a1)) [] := by
 refine Fun.ofH 400 E_ok mixed Tryz.func189 (by kernel_rfl) (by kernel_rfl) ?_
 unfold F_spec_l20Parallel
 refine Run.y (gv := vT_Iv_Iv) (fun _ => ?_) (fun _ => ?_)
 ·refine Run.q (e := vIv) (gv := vT_Iv_Iv) (ok_spec_CosI _) fun r1 _ => ?_
  exact Run.x 0
 ·refine Run.y (gv := vT_Iv_Iv) (fun _ => ?_) (fun _ => ?_)
  ·refine Run.q (e := vIv) (gv := vT_Iv_Iv) (ok_spec_Integer _) fun r2 _ => ?_
   refine Run.q (e := vIv) (gv := vT_Iv_Iv) (ok_spec_l20Root _) fun r3 _ => ?_
   refine Run.q (e := vIv) (gv := vT_Iv_Iv) (ok_spec_MulI _ _) fun r4 _ => ?_
   refine Run.q (e := vIv) (gv := vT_Iv_Iv) (ok_spec_CosI _) fun r5 _ => ?_
   refine Run.q (e := vIv) (gv := vT_Iv_Iv) (ok_spec_MulI _ _) fun r6 _ => ?_
   refine Run.q (e := vIv) (gv := vT_Iv_Iv) (ok_spec_PiI) fun r7 _ => ?_
   refine Run.q (e := vIv) (gv := vT_Iv_Iv) (ok_spec_DivI _ _) fun r8 _ => ?_
   refine Run.q (e := vIv) (gv := vT_Iv_Iv) (ok_spec_l20Root _) fun r9 _ => ?_
   refine Run.q (e := vIv) (gv := vT_Iv_Iv) (ok_spec_SinI _) fun r10 _ => ?_
   refine Run.q (e := vIv) (gv := vT_Iv_Iv) (ok_spec_MulI _ _) fun r11 _ => ?_
   exact Run.x 0
  ·refine Run.q (e := vIv) (gv := vT_Iv_Iv) (ok_spec_Integer _) fun r12 _ => ?_
   refine Run.q (e := vIv) (gv := vT_Iv_Iv) (ok_spec_CosI _) fun r13 _ => ?_
   refine Run.q (e := vIv) (gv := vT_Iv_Iv) (ok_spec_AddI _ _) fun r14 _ => ?_
   refine Run.q (e := vIv) (gv := vT_Iv_Iv) (ok_spec_l20Root _) fun r15 _ => ?_
   refine Run.q (e := vIv) (gv := vT_Iv_Iv) (ok_spec_DivI _ _) fun r16 _ => ?_
   refine Run.q (e := vIv) (gv := vT_Iv_Iv) (ok_spec_Integer _) fun r17 _ => ?_
   refine Run.q (e := vIv) (gv := vT_Iv_Iv) (ok_spec_MulI _ _) fun r18 _ => ?_
   refine Run.q (e := vIv) (gv := vT_Iv_Iv) (ok_spec_l20Root _) fun r19 _ => ?_
   refine Run.q (e := vIv) (gv := vT_Iv_Iv) (ok_spec_DivI _ _) fun r20 _ => ?_
   exact Run.x 0

theorem ok_spec_ParallelOf (a0 : I64) (a1 : Iv) : Fun Tryz.prog 94 [] #[vI a0, vIv a1] (vT_Iv_Iv (F_spec_ParallelOf a0 a1)) [] := by
 refine Fun.ofH 400 E_ok mixed Tryz.func94 (by kernel_rfl) (by kernel_rfl) ?_
 unfold F_spec_ParallelOf
 refine Run.q (e := vB) (gv := vT_Iv_Iv) (ok_spec_l20Kind _) fun r1 _ => ?_
 refine Run.y (gv := vT_Iv_Iv) (fun _ => ?_) (fun _ => ?_)
 ·refine Run.q (e := vIv) (gv := vT_Iv_Iv) (ok_spec_Whole) fun r2 _ => ?_
  refine Run.q (e := vIv) (gv := vT_Iv_Iv) (ok_spec_Whole) fun r3 _ => ?_
  exact Run.x 0
 ·refine Run.q (e := vIv) (gv := vT_Iv_Iv) (ok_spec_ThetaOf _ _) fun r4 _ => ?_
  refine Run.q (e := vT_Iv_Iv) (gv := vT_Iv_Iv) (ok_spec_l20Parallel _ _) fun r5 _ => ?_
  exact Run.x 0

theorem ok_spec_IsWhole (a0 : Iv) : Fun Tryz.prog 96 [] #[vIv a0] (vB (F_spec_IsWhole a0)) [] := by
 refine Fun.ofH 400 E_ok mixed Tryz.func96 (by kernel_rfl) (by kernel_rfl) ?_
 unfold F_spec_IsWhole
 refine Run.q (e := vB) (gv := vB) (ok_spec_l04Ok _) fun r1 _ => ?_
 exact Run.x 0

theorem ok_spec_PseudoForward (a0 : Pj) (a1 : Pt) : Fun Tryz.prog 25 [] #[vPj a0, vPt a1] (vT_Pn_I (F_spec_PseudoForward a0 a1)) [] := by
 refine Fun.ofH 400 E_ok mixed Tryz.func25 (by kernel_rfl) (by kernel_rfl) ?_
 unfold F_spec_PseudoForward
 refine Run.w (e := vB) (gv := vT_Pn_I) [0] (ok_spec_l20Ok__pPj _) fun r1 _ => ?_
 refine Run.y (gv := vT_Pn_I) (fun _ => ?_) (fun _ => ?_)
 ·refine Run.z [true, true, true, true] ?_
  exact Run.x 0
 ·refine Run.z [false] ?_
  refine Run.q (e := vB) (gv := vT_Pn_I) (ok_spec_l11Ok _) fun r2 _ => ?_
  refine Run.z [false, false] ?_
  refine Run.y (gv := vT_Pn_I) (fun _ => ?_) (fun _ => ?_)
  ·exact Run.x 0
  ·refine Run.q (e := vIv) (gv := vT_Pn_I) (ok_spec_RadiansOf _) fun r3 _ => ?_
   refine Run.q (e := vT_Iv_Iv) (gv := vT_Pn_I) (ok_spec_ParallelOf _ _) fun r4 _ => ?_
   refine Run.q (e := vI) (gv := vT_Pn_I) (ok_spec_l11Wrap _) fun r5 _ => ?_
   refine Run.q (e := vIv) (gv := vT_Pn_I) (ok_spec_RadiansOf _) fun r6 _ => ?_
   refine Run.q (e := vIv) (gv := vT_Pn_I) (ok_spec_MulI _ _) fun r7 _ => ?_
   refine Run.q (e := vB) (gv := vT_Pn_I) (ok_spec_IsWhole _) fun r8 _ => ?_
   refine Run.y (gv := vT_Pn_I) (fun _ => ?_) (fun _ => ?_)
   ·refine Run.z [true, true, true, true] ?_
    exact Run.x 0
   ·refine Run.z [false, false] ?_
    refine Run.q (e := vB) (gv := vT_Pn_I) (ok_spec_IsWhole _) fun r9 _ => ?_
    refine Run.z [false] ?_
    refine Run.y (gv := vT_Pn_I) (fun _ => ?_) (fun _ => ?_)
    ·exact Run.x 0
    ·exact Run.x 0

theorem ok_spec_LatOf (a0 : Pt) : Fun Tryz.prog 16 [] #[vPt a0] (vIv (F_spec_LatOf a0)) [] := by
 refine Fun.ofH 400 E_ok mixed Tryz.func16 (by kernel_rfl) (by kernel_rfl) ?_
 unfold F_spec_LatOf
 refine Run.q (e := vB) (gv := vIv) (ok_spec_l11Ok _) fun r1 _ => ?_
 refine Run.y (gv := vIv) (fun _ => ?_) (fun _ => ?_)
 ·refine Run.q (e := vIv) (gv := vIv) (ok_spec_Whole) fun r2 _ => ?_
  exact Run.x 0
 ·refine Run.q (e := vIv) (gv := vIv) (ok_spec_RadiansOf _) fun r3 _ => ?_
  exact Run.x 0

theorem ok_spec_l11Pole (a0 : Pt) : Fun Tryz.prog 81 [] #[vPt a0] (vB (F_spec_l11Pole a0)) [] := by
 refine Fun.ofH 400 E_ok mixed Tryz.func81 (by kernel_rfl) (by kernel_rfl) ?_
 unfold F_spec_l11Pole
 refine Run.y (gv := vB) (fun _ => ?_) (fun _ => ?_)
 ·refine Run.z [true, true, true] ?_
  exact Run.x 0
 ·refine Run.z [false, false, false] ?_
  exact Run.x 0

theorem ok_spec_AtPoint (a0 : Iv) (a1 : Iv) (a2 : Pt) : Fun Tryz.prog 14 [] #[vIv a0, vIv a1, vPt a2] (vB (F_spec_AtPoint a0 a1 a2)) [] := by
 refine Fun.ofH 400 E_ok mixed Tryz.func14 (by kernel_rfl) (by kernel_rfl) ?_
 unfold F_spec_AtPoint
 refine Run.q (e := vB) (gv := vB) (ok_spec_l11Ok _) fun r1 _ => ?_
 refine Run.y (gv := vB) (fun _ => ?_) (fun _ => ?_)
 ·refine Run.z [true, true, true, true, true, true] ?_
  exact Run.x 0
 ·refine Run.z [false, false] ?_
  refine Run.q (e := vIv) (gv := vB) (ok_spec_LatOf _) fun r2 _ => ?_
  refine Run.z [false] ?_
  refine Run.q (e := vB) (gv := vB) (ok_spec_OverlapI _ _) fun r3 _ => ?_
  refine Run.z [false, false] ?_
  refine Run.y (gv := vB) (fun _ => ?_) (fun _ => ?_)
  ·exact Run.x 0
  ·refine Run.q (e := vB) (gv := vB) (ok_spec_l11Pole _) fun r4 _ => ?_
   refine Run.y (gv := vB) (fun _ => ?_) (fun _ => ?_)
   ·exact Run.x 0
   ·refine Run.u 400 E_ok mixed Tryz.func14 ?_
    refine Run.z [true] ?_
    refine Run.q (e := vIv) (gv := vB) (ok_spec_RadiansOf _) fun r5 _ => ?_
    refine Run.q (e := vB) (gv := vB) (ok_spec_OverlapI _ _) fun r6 _ => ?_
    refine Run.y (gv := vB) (fun _ => ?_) (fun _ => ?_)
    ·exact Run.x 0
    ·refine Run.u 400 E_ok mixed Tryz.func14 ?_
     refine Run.z [true] ?_
     refine Run.q (e := vIv) (gv := vB) (ok_spec_RadiansOf _) fun r7 _ => ?_
     refine Run.q (e := vB) (gv := vB) (ok_spec_OverlapI _ _) fun r8 _ => ?_
     refine Run.y (gv := vB) (fun _ => ?_) (fun _ => ?_)
     ·exact Run.x 0
     ·refine Run.u 400 E_ok mixed Tryz.func14 ?_
      refine Run.z [true] ?_
      refine Run.q (e := vIv) (gv := vB) (ok_spec_RadiansOf _) fun r9 _ => ?_
      refine Run.q (e := vB) (gv := vB) (ok_spec_OverlapI _ _) fun r10 _ => ?_
      refine Run.y (gv := vB) (fun _ => ?_) (fun _ => ?_)
      ·exact Run.x 0
      ·refine Run.u 400 E_ok mixed Tryz.func14 ?_
       refine Run.z [true] ?_
       refine Run.q (e := vIv) (gv := vB) (ok_spec_RadiansOf _) fun r11 _ => ?_
       refine Run.q (e := vB) (gv := vB) (ok_spec_OverlapI _ _) fun r12 _ => ?_
       refine Run.y (gv := vB) (fun _ => ?_) (fun _ => ?_)
       ·exact Run.x 0
       ·refine Run.u 400 E_ok mixed Tryz.func14 ?_
        refine Run.z [true] ?_
        refine Run.q (e := vIv) (gv := vB) (ok_spec_RadiansOf _) fun r13 _ => ?_
        refine Run.q (e := vB) (gv := vB) (ok_spec_OverlapI _ _) fun r14 _ => ?_
        refine Run.y (gv := vB) (fun _ => ?_) (fun _ => ?_)
        ·exact Run.x 0
        ·refine Run.u 400 E_ok mixed Tryz.func14 ?_
         refine Run.z [true] ?_
         refine Run.q (e := vIv) (gv := vB) (ok_spec_RadiansOf _) fun r15 _ => ?_
         refine Run.q (e := vB) (gv := vB) (ok_spec_OverlapI _ _) fun r16 _ => ?_
         refine Run.y (gv := vB) (fun _ => ?_) (fun _ => ?_)
         ·exact Run.x 0
         ·refine Run.u 400 E_ok mixed Tryz.func14 ?_
          refine Run.z [true] ?_
          refine Run.q (e := vIv) (gv := vB) (ok_spec_RadiansOf _) fun r17 _ => ?_
          refine Run.q (e := vB) (gv := vB) (ok_spec_OverlapI _ _) fun r18 _ => ?_
          refine Run.y (gv := vB) (fun _ => ?_) (fun _ => ?_)
          ·exact Run.x 0
          ·refine Run.u 400 E_ok mixed Tryz.func14 ?_
           refine Run.z [true] ?_
           refine Run.q (e := vIv) (gv := vB) (ok_spec_RadiansOf _) fun r19 _ => ?_
           refine Run.q (e := vB) (gv := vB) (ok_spec_OverlapI _ _) fun r20 _ => ?_
           refine Run.y (gv := vB) (fun _ => ?_) (fun _ => ?_)
           ·exact Run.x 0
           ·refine Run.u 400 E_ok mixed Tryz.func14 ?_
            refine Run.z [true] ?_
            refine Run.q (e := vIv) (gv := vB) (ok_spec_RadiansOf _) fun r21 _ => ?_
            refine Run.q (e := vB) (gv := vB) (ok_spec_OverlapI _ _) fun r22 _ => ?_
            refine Run.y (gv := vB) (fun _ => ?_) (fun _ => ?_)
            ·exact Run.x 0
            ·refine Run.u 400 E_ok mixed Tryz.func14 ?_
             refine Run.z [true] ?_
             refine Run.q (e := vIv) (gv := vB) (ok_spec_RadiansOf _) fun r23 _ => ?_
             refine Run.q (e := vB) (gv := vB) (ok_spec_OverlapI _ _) fun r24 _ => ?_
             refine Run.y (gv := vB) (fun _ => ?_) (fun _ => ?_)
             ·exact Run.x 0
             ·refine Run.u 400 E_ok mixed Tryz.func14 ?_
              refine Run.z [true] ?_
              refine Run.q (e := vIv) (gv := vB) (ok_spec_RadiansOf _) fun r25 _ => ?_
              refine Run.q (e := vB) (gv := vB) (ok_spec_OverlapI _ _) fun r26 _ => ?_
              refine Run.y (gv := vB) (fun _ => ?_) (fun _ => ?_)
              ·exact Run.x 0
              ·refine Run.u 400 E_ok mixed Tryz.func14 ?_
               refine Run.z [true] ?_
               refine Run.q (e := vIv) (gv := vB) (ok_spec_RadiansOf _) fun r27 _ => ?_
               refine Run.q (e := vB) (gv := vB) (ok_spec_OverlapI _ _) fun r28 _ => ?_
               refine Run.y (gv := vB) (fun _ => ?_) (fun _ => ?_)
               ·exact Run.x 0
               ·refine Run.u 400 E_ok mixed Tryz.func14 ?_
                refine Run.z [true] ?_
                refine Run.q (e := vIv) (gv := vB) (ok_spec_RadiansOf _) fun r29 _ => ?_
                refine Run.q (e := vB) (gv := vB) (ok_spec_OverlapI _ _) fun r30 _ => ?_
                refine Run.y (gv := vB) (fun _ => ?_) (fun _ => ?_)
                ·exact Run.x 0
                ·refine Run.u 400 E_ok mixed Tryz.func14 ?_
                 refine Run.z [true] ?_
                 refine Run.q (e := vIv) (gv := vB) (ok_spec_RadiansOf _) fun r31 _ => ?_
                 refine Run.q (e := vB) (gv := vB) (ok_spec_OverlapI _ _) fun r32 _ => ?_
                 refine Run.y (gv := vB) (fun _ => ?_) (fun _ => ?_)
                 ·exact Run.x 0
                 ·refine Run.u 400 E_ok mixed Tryz.func14 ?_
                  refine Run.z [true] ?_
                  refine Run.q (e := vIv) (gv := vB) (ok_spec_RadiansOf _) fun r33 _ => ?_
                  refine Run.q (e := vB) (gv := vB) (ok_spec_OverlapI _ _) fun r34 _ => ?_
                  refine Run.y (gv := vB) (fun _ => ?_) (fun _ => ?_)
                  ·exact Run.x 0
                  ·refine Run.u 400 E_ok mixed Tryz.func14 ?_
                   refine Run.z [true] ?_
                   refine Run.q (e := vIv) (gv := vB) (ok_spec_RadiansOf _) fun r35 _ => ?_
                   refine Run.q (e := vB) (gv := vB) (ok_spec_OverlapI _ _) fun r36 _ => ?_
                   refine Run.y (gv := vB) (fun _ => ?_) (fun _ => ?_)
                   ·exact Run.x 0
                   ·refine Run.u 400 E_ok mixed Tryz.func14 ?_
                    refine Run.z [true] ?_
                    refine Run.q (e := vIv) (gv := vB) (ok_spec_RadiansOf _) fun r37 _ => ?_
                    refine Run.q (e := vB) (gv := vB) (ok_spec_OverlapI _ _) fun r38 _ => ?_
                    refine Run.y (gv := vB) (fun _ => ?_) (fun _ => ?_)
                    ·exact Run.x 0
                    ·refine Run.u 400 E_ok mixed Tryz.func14 ?_
                     refine Run.z [true] ?_
                     refine Run.q (e := vIv) (gv := vB) (ok_spec_RadiansOf _) fun r39 _ => ?_
                     refine Run.q (e := vB) (gv := vB) (ok_spec_OverlapI _ _) fun r40 _ => ?_
                     refine Run.y (gv := vB) (fun _ => ?_) (fun _ => ?_)
                     ·exact Run.x 0
                     ·refine Run.u 400 E_ok mixed Tryz.func14 ?_
                      refine Run.z [true] ?_
                      refine Run.q (e := vIv) (gv := vB) (ok_spec_RadiansOf _) fun r41 _ => ?_
                      refine Run.q (e := vB) (gv := vB) (ok_spec_OverlapI _ _) fun r42 _ => ?_
                      refine Run.y (gv := vB) (fun _ => ?_) (fun _ => ?_)
                      ·exact Run.x 0
                      ·refine Run.u 400 E_ok mixed Tryz.func14 ?_
                       refine Run.z [false] ?_
                       exact Run.x 0

theorem ok_spec_DoubleI (a0 : Iv) : Fun Tryz.prog 30 [] #[vIv a0] (vIv (F_spec_DoubleI a0)) [] := by
 refine Fun.ofH 400 E_ok mixed Tryz.func30 (by kernel_rfl) (by kernel_rfl) ?_
 unfold F_spec_DoubleI
 refine Run.q (e := vB) (gv := vIv) (ok_spec_l04Ok _) fun r1 _ => ?_
 refine Run.y (gv := vIv) (fun _ => ?_) (fun _ => ?_)
 ·refine Run.q (e := vIv) (gv := vIv) (ok_spec_l04Whole) fun r2 _ => ?_
  exact Run.x 0
 ·refine Run.q (e := vIv) (gv := vIv) (ok_spec_l04Make _ _) fun r3 _ => ?_
  exact Run.x 0

theorem ok_spec_l00From_n : FunS Tryz.prog 49 [] [] #[(.slice none 0 0)] (fun v Y => v = .pointer (some ⟨0, 0, none⟩) ∧ Y = [srcB 113 (.slice none 0 0) (c64 0) (cu64 0)]) := Sourced.none (by decide) ok_spec_l00Sourced

theorem ok_spec_l00Src_next__src_n (b1 : Src) (ps : 0 ≤ b1.ix.val ∧ b1.ix.val + 1 ≤ 1000000000) : FunS Tryz.prog 146 [] [srcB 113 (.slice none 0 0) b1.ix b1.sd] #[.pointer (some ⟨0, 0, none⟩)] (Drew vI 113 (.slice none 0 0) b1.ix.val (b1.ix.val + 1) (F_spec_l00Src_next__src Cd.nil b1)) := by
 refine FunS.drew (fun _ _ => rfl) rfl (by kernel_rfl) (FunR.of 400 E_ok mixed Tryz.func146 (by kernel_rfl) ?_)
 show Run _ _ ((RD [] vI 113 (.slice none 0 0) b1.ix.val (b1.ix.val + 1)) (F_spec_l00Src_next__src Cd.nil b1)) _
 unfold F_spec_l00Src_next__src
 refine Run.gn (Rg := (RD [] vI 113 (.slice none 0 0) b1.ix.val (b1.ix.val + 1))) (c := (decide (b1.ix.val < (((Cd.nil.L.length : Nat) : Int))))) (by kernel_rfl) (by refine decide_eq_false ?_; show ¬ (b1.ix.val < 0); omega) ?_
 refine Run.gy (Rg := (RD [] vI 113 (.slice none 0 0) b1.ix.val (b1.ix.val + 1))) (fun h1 => ?_) (fun h1 => ?_)
 ·exact Run.dr (by kernel_rfl) (by kernel_rfl) (by first | omega | (simp only [w64_val, c64_val] at *; omega))
 ·refine Run.z [true] ?_
  exact Run.dr (by kernel_rfl) (by kernel_rfl) (by first | omega | (simp only [w64_val, c64_val] at *; omega))

theorem ok_spec_l00Src_pick__src_n (b1 : Src) (a0 : I64) (ps : 0 ≤ b1.ix.val ∧ b1.ix.val + 2 ≤ 1000000000) : FunS Tryz.prog 51 [] [srcB 113 (.slice none 0 0) b1.ix b1.sd] #[.pointer (some ⟨0, 0, none⟩), vI a0] (Drew vI 113 (.slice none 0 0) b1.ix.val (b1.ix.val + 2) (F_spec_l00Src_pick__src Cd.nil b1 a0)) := by
 refine FunS.drew (fun _ _ => rfl) rfl (by kernel_rfl) (FunR.of 400 E_ok mixed Tryz.func51 (by kernel_rfl) ?_)
 show Run _ _ ((RD [] vI 113 (.slice none 0 0) b1.ix.val (b1.ix.val + 2)) (F_spec_l00Src_pick__src Cd.nil b1 a0)) _
 unfold F_spec_l00Src_pick__src
 refine Run.gy (Rg := (RD [] vI 113 (.slice none 0 0) b1.ix.val (b1.ix.val + 2))) (fun h1 => ?_) (fun h1 => ?_)
 ·exact Run.dr (by kernel_rfl) (by kernel_rfl) (by first | omega | (simp only [w64_val, c64_val] at *; omega))
 ·refine Run.cw (e := vI) (Rg := (RD [] vI 113 (.slice none 0 0) b1.ix.val (b1.ix.val + 2))) [] 0 (ok_spec_l00Src_next__src_n _ (by first | omega | (simp only [w64_val, c64_val] at *; omega))) rfl fun r2 hr2 kr2 => ?_
  refine Run.gy (Rg := (RD [] vI 113 (.slice none 0 0) b1.ix.val (b1.ix.val + 2))) (fun h3 => ?_) (fun h3 => ?_)
  ·refine Run.cw (e := vI) (Rg := (RD [] vI 113 (.slice none 0 0) b1.ix.val (b1.ix.val + 2))) [] 0 (ok_spec_l00Src_next__src_n _ (by first | omega | (simp only [w64_val, c64_val] at *; omega))) rfl fun r4 hr4 kr4 => ?_
   refine Run.k (c := (decide (a0.val ≠ 0))) (by kernel_rfl) (by simp only [w64_val, wu64_val, c64_val, cu64_val, decide_eq_true_eq, decide_eq_false_iff_not, cond_true, cond_false] at *; omega) ?_
   exact Run.dr (by kernel_rfl) (by kernel_rfl) (by first | omega | (simp only [w64_val, c64_val] at *; omega))
  ·refine Run.k (c := (decide (a0.val ≠ 0))) (by kernel_rfl) (by simp only [w64_val, wu64_val, c64_val, cu64_val, decide_eq_true_eq, decide_eq_false_iff_not, cond_true, cond_false] at *; omega) ?_
   exact Run.dr (by kernel_rfl) (by kernel_rfl) (by first | omega | (simp only [w64_val, c64_val] at *; omega))

theorem ok_spec_l00Src_one__src_n (b1 : Src) (a0 : I64) (ps : 0 ≤ b1.ix.val ∧ b1.ix.val + 2 ≤ 1000000000) : FunS Tryz.prog 145 [] [srcB 113 (.slice none 0 0) b1.ix b1.sd] #[.pointer (some ⟨0, 0, none⟩), vI a0] (Drew vB 113 (.slice none 0 0) b1.ix.val (b1.ix.val + 2) (F_spec_l00Src_one__src Cd.nil b1 a0)) := by
 refine FunS.drew (fun _ _ => rfl) rfl (by kernel_rfl) (FunR.of 400 E_ok mixed Tryz.func145 (by kernel_rfl) ?_)
 show Run _ _ ((RD [] vB 113 (.slice none 0 0) b1.ix.val (b1.ix.val + 2)) (F_spec_l00Src_one__src Cd.nil b1 a0)) _
 unfold F_spec_l00Src_one__src
 refine Run.cw (e := vI) (Rg := (RD [] vB 113 (.slice none 0 0) b1.ix.val (b1.ix.val + 2))) [] 0 (ok_spec_l00Src_pick__src_n _ _ (by first | omega | (simp only [w64_val, c64_val] at *; omega))) rfl fun r1 hr1 kr1 => ?_
 exact Run.dr (by kernel_rfl) (by kernel_rfl) (by first | omega | (simp only [w64_val, c64_val] at *; omega))

theorem ok_spec_l00Src_among__src__s4_n (b1_0 : I64) (b1_1 : I64) (b1_2 : I64) (b1_3 : I64) (b2 : Src) (ps : 0 ≤ b2.ix.val ∧ b2.ix.val + 2 ≤ 1000000000) : FunS Tryz.prog 151 [(#[.int .i64 b1_0.val, .int .i64 b1_1.val, .int .i64 b1_2.val, .int .i64 b1_3.val], 2)] [srcB 113 (.slice none 0 0) b2.ix b2.sd] #[.pointer (some ⟨1, 0, none⟩), .slice (some ⟨0, 0, none⟩) 4 4] (Drew vI 113 (.slice none 0 0) b2.ix.val (b2.ix.val + 2) (F_spec_l00Src_among__src__s4 Cd.nil b1_0 b1_1 b1_2 b1_3 b2)) := by
 refine FunS.marks (args := #[.pointer (some ⟨1, 0, none⟩), .slice (some ⟨0, 0, some 0⟩) 4 4]) (by kernel_rfl) ?_
 refine FunS.drew (fun _ _ => rfl) (allc (by kernel_rfl) rfl) (by kernel_rfl) (FunR.of 400 E_ok mixed Tryz.func151 (by kernel_rfl) ?_)
 show Run _ _ ((RD [(#[.int .i64 b1_0.val, .int .i64 b1_1.val, .int .i64 b1_2.val, .int .i64 b1_3.val], 2)] vI 113 (.slice none 0 0) b2.ix.val (b2.ix.val + 2)) (F_spec_l00Src_among__src__s4 Cd.nil b1_0 b1_1 b1_2 b1_3 b2)) _
 unfold F_spec_l00Src_among__src__s4
 refine Run.cw (e := vI) (Rg := (RD [(#[.int .i64 b1_0.val, .int .i64 b1_1.val, .int .i64 b1_2.val, .int .i64 b1_3.val], 2)] vI 113 (.slice none 0 0) b2.ix.val (b2.ix.val + 2))) [] 1 (ok_spec_l00Src_pick__src_n _ _ (by first | omega | (simp only [w64_val, c64_val] at *; omega))) rfl fun r1 hr1 kr1 => ?_
 refine Run.k (c := (decide (0 ≤ r1.1.val ∧ r1.1.val < 4))) (by kernel_rfl) (by rw [hr1]; first | exact decide_eq_true ⟨(pick_range _ _ _).1, (pick_range _ _ _).2 (by decide)⟩ | exact ⟨(pick_range _ _ _).1, (pick_range _ _ _).2 (by decide)⟩) ?_
 refine Run.ld (by kernel_rfl) (listAt_ok (L := [b1_0, b1_1, b1_2, b1_3]) (pad := []) (i := r1.1) (by rw [hr1]; first | exact decide_eq_true ⟨(pick_range _ _ _).1, (pick_range _ _ _).2 (by decide)⟩ | exact ⟨(pick_range _ _ _).1, (pick_range _ _ _).2 (by decide)⟩)) ?_
 exact Run.dr (by kernel_rfl) (by kernel_rfl) (by first | omega | (simp only [w64_val, c64_val] at *; omega))

theorem ok_spec_l05Number__src_n (b1 : Src) (a0 : I64) (p0 : 0 ≤ a0.val) (p1 : a0.val < 9223372036854775807) (ps : 0 ≤ b1.ix.val ∧ b1.ix.val + 13 ≤ 1000000000) : FunS Tryz.prog 150 [] [srcB 113 (.slice none 0 0) b1.ix b1.sd] #[.pointer (some ⟨0, 0, none⟩), vI a0] (Drew vI 113 (.slice none 0 0) b1.ix.val (b1.ix.val + 13) (F_spec_l05Number__src Cd.nil b1 a0)) := by
 refine FunS.drew (fun _ _ => rfl) rfl (by kernel_rfl) (FunR.of 400 E_ok mixed Tryz.func150 (by kernel_rfl) ?_)
 show Run _ _ ((RD [] vI 113 (.slice none 0 0) b1.ix.val (b1.ix.val + 13)) (F_spec_l05Number__src Cd.nil b1 a0)) _
 unfold F_spec_l05Number__src
 refine Run.u 400 E_ok mixed Tryz.func150 ?_
 refine Run.z [true, true] ?_
 refine Run.cw (e := vI) (Rg := (RD [] vI 113 (.slice none 0 0) b1.ix.val (b1.ix.val + 13))) [] 0 (ok_spec_l00Src_next__src_n _ (by first | omega | (simp only [w64_val, c64_val] at *; omega))) rfl fun r1 hr1 kr1 => ?_
 refine Run.u 400 E_ok mixed Tryz.func150 ?_
 refine Run.z [true, true] ?_
 refine Run.cw (e := vI) (Rg := (RD [] vI 113 (.slice none 0 0) b1.ix.val (b1.ix.val + 13))) [] 0 (ok_spec_l00Src_next__src_n _ (by first | omega | (simp only [w64_val, c64_val] at *; omega))) rfl fun r2 hr2 kr2 => ?_
 refine Run.u 400 E_ok mixed Tryz.func150 ?_
 refine Run.z [true, true] ?_
 refine Run.cw (e := vI) (Rg := (RD [] vI 113 (.slice none 0 0) b1.ix.val (b1.ix.val + 13))) [] 0 (ok_spec_l00Src_next__src_n _ (by first | omega | (simp only [w64_val, c64_val] at *; omega))) rfl fun r3 hr3 kr3 => ?_
 refine Run.u 400 E_ok mixed Tryz.func150 ?_
 refine Run.z [true, true] ?_
 refine Run.cw (e := vI) (Rg := (RD [] vI 113 (.slice none 0 0) b1.ix.val (b1.ix.val + 13))) [] 0 (ok_spec_l00Src_next__src_n _ (by first | omega | (simp only [w64_val, c64_val] at *; omega))) rfl fun r4 hr4 kr4 => ?_
 refine Run.u 400 E_ok mixed Tryz.func150 ?_
 refine Run.z [true, true] ?_
 refine Run.cw (e := vI) (Rg := (RD [] vI 113 (.slice none 0 0) b1.ix.val (b1.ix.val + 13))) [] 0 (ok_spec_l00Src_next__src_n _ (by first | omega | (simp only [w64_val, c64_val] at *; omega))) rfl fun r5 hr5 kr5 => ?_
 refine Run.u 400 E_ok mixed Tryz.func150 ?_
 refine Run.z [true, true] ?_
 refine Run.cw (e := vI) (Rg := (RD [] vI 113 (.slice none 0 0) b1.ix.val (b1.ix.val + 13))) [] 0 (ok_spec_l00Src_next__src_n _ (by first | omega | (simp only [w64_val, c64_val] at *; omega))) rfl fun r6 hr6 kr6 => ?_
 refine Run.u 400 E_ok mixed Tryz.func150 ?_
 refine Run.z [true, true] ?_
 refine Run.cw (e := vI) (Rg := (RD [] vI 113 (.slice none 0 0) b1.ix.val (b1.ix.val + 13))) [] 0 (ok_spec_l00Src_next__src_n _ (by first | omega | (simp only [w64_val, c64_val] at *; omega))) rfl fun r7 hr7 kr7 => ?_
 refine Run.u 400 E_ok mixed Tryz.func150 ?_
 refine Run.z [false] ?_
 refine Run.k (c := (decide ((w64 (a0.val + 1)).val ≠ 0))) (by kernel_rfl) (by simp only [w64_val, wu64_val, c64_val, cu64_val, decide_eq_true_eq, decide_eq_false_iff_not, cond_true, cond_false] at *; omega) ?_
 refine Run.cw (e := vI) (Rg := (RD [] vI 113 (.slice none 0 0) b1.ix.val (b1.ix.val + 13))) [] 0 (ok_spec_l00Src_pick__src_n _ _ (by first | omega | (simp only [w64_val, c64_val] at *; omega))) rfl fun r8 hr8 kr8 => ?_
 refine Run.gy (Rg := (RD [] vI 113 (.slice none 0 0) b1.ix.val (b1.ix.val + 13))) (fun h9 => ?_) (fun h9 => ?_)
 ·refine Run.cw (e := vI) (Rg := (RD [] vI 113 (.slice none 0 0) b1.ix.val (b1.ix.val + 13))) [] 0 (ok_spec_l00Src_pick__src_n _ _ (by first | omega | (simp only [w64_val, c64_val] at *; omega))) rfl fun r10 hr10 kr10 => ?_
  refine Run.k (c := (decide (0 ≤ (wu64 r10.1.val).val))) (by kernel_rfl) (by simp only [w64_val, wu64_val, c64_val, cu64_val, decide_eq_true_eq, decide_eq_false_iff_not, cond_true, cond_false] at *; omega) ?_
  refine Run.cw (e := vB) (Rg := (RD [] vI 113 (.slice none 0 0) b1.ix.val (b1.ix.val + 13))) [] 0 (ok_spec_l00Src_one__src_n _ _ (by first | omega | (simp only [w64_val, c64_val] at *; omega))) rfl fun r11 hr11 kr11 => ?_
  refine Run.gy (Rg := (RD [] vI 113 (.slice none 0 0) b1.ix.val (b1.ix.val + 13))) (fun h12 => ?_) (fun h12 => ?_)
  ·exact Run.dr (by kernel_rfl) (by kernel_rfl) (by first | omega | (simp only [w64_val, c64_val] at *; omega))
  ·exact Run.dr (by kernel_rfl) (by kernel_rfl) (by first | omega | (simp only [w64_val, c64_val] at *; omega))
 ·refine Run.gy (Rg := (RD [] vI 113 (.slice none 0 0) b1.ix.val (b1.ix.val + 13))) (fun h13 => ?_) (fun h13 => ?_)
  ·refine Run.z [true] ?_
   refine Run.cw (e := vI) (Rg := (RD [] vI 113 (.slice none 0 0) b1.ix.val (b1.ix.val + 13))) [1] 0 (ok_spec_l00Src_among__src__s4_n _ _ _ _ _ (by first | omega | (simp only [w64_val, c64_val] at *; omega))) (allc (by kernel_rfl) rfl) fun r14 hr14 kr14 => ?_
   refine Run.cw (e := vB) (Rg := (RD [] vI 113 (.slice none 0 0) b1.ix.val (b1.ix.val + 13))) [] 0 (ok_spec_l00Src_one__src_n _ _ (by first | omega | (simp only [w64_val, c64_val] at *; omega))) rfl fun r15 hr15 kr15 => ?_
   refine Run.gy (Rg := (RD [] vI 113 (.slice none 0 0) b1.ix.val (b1.ix.val + 13))) (fun h16 => ?_) (fun h16 => ?_)
   ·exact Run.dr (by kernel_rfl) (by kernel_rfl) (by first | omega | (simp only [w64_val, c64_val] at *; omega))
   ·exact Run.dr (by kernel_rfl) (by kernel_rfl) (by first | omega | (simp only [w64_val, c64_val] at *; omega))
  ·refine Run.cw (e := vB) (Rg := (RD [] vI 113 (.slice none 0 0) b1.ix.val (b1.ix.val + 13))) [] 0 (ok_spec_l00Src_one__src_n _ _ (by first | omega | (simp only [w64_val, c64_val] at *; omega))) rfl fun r17 hr17 kr17 => ?_
   refine Run.gy (Rg := (RD [] vI 113 (.slice none 0 0) b1.ix.val (b1.ix.val + 13))) (fun h18 => ?_) (fun h18 => ?_)
   ·exact Run.dr (by kernel_rfl) (by kernel_rfl) (by first | omega | (simp only [w64_val, c64_val] at *; omega))
   ·exact Run.dr (by kernel_rfl) (by kernel_rfl) (by first | omega | (simp only [w64_val, c64_val] at *; omega))

theorem ok_spec_l00Src_among__src__s5_n (b1_0 : I64) (b1_1 : I64) (b1_2 : I64) (b1_3 : I64) (b1_4 : I64) (b2 : Src) (ps : 0 ≤ b2.ix.val ∧ b2.ix.val + 2 ≤ 1000000000) : FunS Tryz.prog 151 [(#[.int .i64 b1_0.val, .int .i64 b1_1.val, .int .i64 b1_2.val, .int .i64 b1_3.val, .int .i64 b1_4.val], 2)] [srcB 113 (.slice none 0 0) b2.ix b2.sd] #[.pointer (some ⟨1, 0, none⟩), .slice (some ⟨0, 0, none⟩) 5 5] (Drew vI 113 (.slice none 0 0) b2.ix.val (b2.ix.val + 2) (F_spec_l00Src_among__src__s5 Cd.nil b1_0 b1_1 b1_2 b1_3 b1_4 b2)) := by
 refine FunS.marks (args := #[.pointer (some ⟨1, 0, none⟩), .slice (some ⟨0, 0, some 0⟩) 5 5]) (by kernel_rfl) ?_
 refine FunS.drew (fun _ _ => rfl) (allc (by kernel_rfl) rfl) (by kernel_rfl) (FunR.of 400 E_ok mixed Tryz.func151 (by kernel_rfl) ?_)
 show Run _ _ ((RD [(#[.int .i64 b1_0.val, .int .i64 b1_1.val, .int .i64 b1_2.val, .int .i64 b1_3.val, .int .i64 b1_4.val], 2)] vI 113 (.slice none 0 0) b2.ix.val (b2.ix.val + 2)) (F_spec_l00Src_among__src__s5 Cd.nil b1_0 b1_1 b1_2 b1_3 b1_4 b2)) _
 unfold F_spec_l00Src_among__src__s5
 refine Run.cw (e := vI) (Rg := (RD [(#[.int .i64 b1_0.val, .int .i64 b1_1.val, .int .i64 b1_2.val, .int .i64 b1_3.val, .int .i64 b1_4.val], 2)] vI 113 (.slice none 0 0) b2.ix.val (b2.ix.val + 2))) [] 1 (ok_spec_l00Src_pick__src_n _ _ (by first | omega | (simp only [w64_val, c64_val] at *; omega))) rfl fun r1 hr1 kr1 => ?_
 refine Run.k (c := (decide (0 ≤ r1.1.val ∧ r1.1.val < 5))) (by kernel_rfl) (by rw [hr1]; first | exact decide_eq_true ⟨(pick_range _ _ _).1, (pick_range _ _ _).2 (by decide)⟩ | exact ⟨(pick_range _ _ _).1, (pick_range _ _ _).2 (by decide)⟩) ?_
 refine Run.ld (by kernel_rfl) (listAt_ok (L := [b1_0, b1_1, b1_2, b1_3, b1_4]) (pad := []) (i := r1.1) (by rw [hr1]; first | exact decide_eq_true ⟨(pick_range _ _ _).1, (pick_range _ _ _).2 (by decide)⟩ | exact ⟨(pick_range _ _ _).1, (pick_range _ _ _).2 (by decide)⟩)) ?_
 exact Run.dr (by kernel_rfl) (by kernel_rfl) (by first | omega | (simp only [w64_val, c64_val] at *; omega))

theorem ok_spec_l11Draw__src_n (b1 : Src) (ps : 0 ≤ b1.ix.val ∧ b1.ix.val + 30 ≤ 1000000000) : FunS Tryz.prog 55 [] [srcB 113 (.slice none 0 0) b1.ix b1.sd] #[.pointer (some ⟨0, 0, none⟩)] (Drew vPt 113 (.slice none 0 0) b1.ix.val (b1.ix.val + 30) (F_spec_l11Draw__src Cd.nil b1)) := by
 refine FunS.drew (fun _ _ => rfl) rfl (by kernel_rfl) (FunR.of 400 E_ok mixed Tryz.func55 (by kernel_rfl) ?_)
 show Run _ _ ((RD [] vPt 113 (.slice none 0 0) b1.ix.val (b1.ix.val + 30)) (F_spec_l11Draw__src Cd.nil b1)) _
 unfold F_spec_l11Draw__src
 refine Run.cw (e := vI) (Rg := (RD [] vPt 113 (.slice none 0 0) b1.ix.val (b1.ix.val + 30))) [] 0 (ok_spec_l05Number__src_n _ _ (by simp only [w64_val, wu64_val, c64_val, cu64_val, decide_eq_true_eq, decide_eq_false_iff_not, cond_true, cond_false] at *; omega) (by simp only [w64_val, wu64_val, c64_val, cu64_val, decide_eq_true_eq, decide_eq_false_iff_not, cond_true, cond_false] at *; omega) (by first | omega | (simp only [w64_val, c64_val] at *; omega))) rfl fun r1 hr1 kr1 => ?_
 refine Run.cw (e := vI) (Rg := (RD [] vPt 113 (.slice none 0 0) b1.ix.val (b1.ix.val + 30))) [] 0 (ok_spec_l05Number__src_n _ _ (by simp only [w64_val, wu64_val, c64_val, cu64_val, decide_eq_true_eq, decide_eq_false_iff_not, cond_true, cond_false] at *; omega) (by simp only [w64_val, wu64_val, c64_val, cu64_val, decide_eq_true_eq, decide_eq_false_iff_not, cond_true, cond_false] at *; omega) (by first | omega | (simp only [w64_val, c64_val] at *; omega))) rfl fun r2 hr2 kr2 => ?_
 refine Run.gq (Rg := (RD [] vPt 113 (.slice none 0 0) b1.ix.val (b1.ix.val + 30))) (e := vI) (ok_spec_l11Wrap _) fun r3 hr3 => ?_
 refine Run.cw (e := vI) (Rg := (RD [] vPt 113 (.slice none 0 0) b1.ix.val (b1.ix.val + 30))) [] 0 (ok_spec_l00Src_pick__src_n _ _ (by first | omega | (simp only [w64_val, c64_val] at *; omega))) rfl fun r4 hr4 kr4 => ?_
 refine Run.gy (Rg := (RD [] vPt 113 (.slice none 0 0) b1.ix.val (b1.ix.val + 30))) (fun h5 => ?_) (fun h5 => ?_)
 ·refine Run.cw (e := vI) (Rg := (RD [] vPt 113 (.slice none 0 0) b1.ix.val (b1.ix.val + 30))) [3] 0 (ok_spec_l00Src_among__src__s4_n _ _ _ _ _ (by first | omega | (simp only [w64_val, c64_val] at *; omega))) (allc (by kernel_rfl) rfl) fun r6 hr6 kr6 => ?_
  exact Run.dr (by kernel_rfl) (by kernel_rfl) (by first | omega | (simp only [w64_val, c64_val] at *; omega))
 ·refine Run.gy (Rg := (RD [] vPt 113 (.slice none 0 0) b1.ix.val (b1.ix.val + 30))) (fun h7 => ?_) (fun h7 => ?_)
  ·refine Run.cw (e := vI) (Rg := (RD [] vPt 113 (.slice none 0 0) b1.ix.val (b1.ix.val + 30))) [3] 0 (ok_spec_l00Src_among__src__s5_n _ _ _ _ _ _ (by first | omega | (simp only [w64_val, c64_val] at *; omega))) (allc (by kernel_rfl) rfl) fun r8 hr8 kr8 => ?_
   exact Run.dr (by kernel_rfl) (by kernel_rfl) (by first | omega | (simp only [w64_val, c64_val] at *; omega))
  ·exact Run.dr (by kernel_rfl) (by kernel_rfl) (by first | omega | (simp only [w64_val, c64_val] at *; omega))

theorem ok_spec_E8Point_n : Fun Tryz.prog 23 [] #[.slice none 0 0] (vPt (F_spec_E8Point Cd.nil)) [] := by
 refine Fun.ofH 400 E_ok mixed Tryz.func23 (by kernel_rfl) (by kernel_rfl) ?_
 unfold F_spec_E8Point
 refine Run.cf [] ok_spec_l00From_n rfl ?_
 refine Run.cw (e := vPt) (Rg := (fun b => RvH [] (vPt b))) [] 1 (ok_spec_l11Draw__src_n _ (by first | omega | (simp only [w64_val, c64_val] at *; omega))) rfl fun r1 hr1 kr1 => ?_
 exact Run.x 0

theorem ok_spec_l20Draw__src_n (b1 : Src) (ps : 0 ≤ b1.ix.val ∧ b1.ix.val + 32 ≤ 1000000000) : FunS Tryz.prog 90 [] [srcB 113 (.slice none 0 0) b1.ix b1.sd] #[.pointer (some ⟨0, 0, none⟩)] (Drew vPj 113 (.slice none 0 0) b1.ix.val (b1.ix.val + 32) (F_spec_l20Draw__src Cd.nil b1)) := by
 refine FunS.drew (fun _ _ => rfl) rfl (by kernel_rfl) (FunR.of 400 E_ok mixed Tryz.func90 (by kernel_rfl) ?_)
 show Run _ _ ((RD [] vPj 113 (.slice none 0 0) b1.ix.val (b1.ix.val + 32)) (F_spec_l20Draw__src Cd.nil b1)) _
 unfold F_spec_l20Draw__src
 refine Run.cw (e := vI) (Rg := (RD [] vPj 113 (.slice none 0 0) b1.ix.val (b1.ix.val + 32))) [] 0 (ok_spec_l00Src_pick__src_n _ _ (by first | omega | (simp only [w64_val, c64_val] at *; omega))) rfl fun r1 hr1 kr1 => ?_
 refine Run.cw (e := vPt) (Rg := (RD [] vPj 113 (.slice none 0 0) b1.ix.val (b1.ix.val + 32))) [] 0 (ok_spec_l11Draw__src_n _ (by first | omega | (simp only [w64_val, c64_val] at *; omega))) rfl fun r2 hr2 kr2 => ?_
 exact Run.dr (by kernel_rfl) (by kernel_rfl) (by first | omega | (simp only [w64_val, c64_val] at *; omega))

theorem ok_spec_E8Pseudo_n : Fun Tryz.prog 22 [] #[.slice none 0 0] (vPj (F_spec_E8Pseudo Cd.nil)) [] := by
 refine Fun.ofH 400 E_ok mixed Tryz.func22 (by kernel_rfl) (by kernel_rfl) ?_
 unfold F_spec_E8Pseudo
 refine Run.cf [] ok_spec_l00From_n rfl ?_
 refine Run.cw (e := vPj) (Rg := (fun b => RvH [] (vPj b))) [] 1 (ok_spec_l20Draw__src_n _ (by first | omega | (simp only [w64_val, c64_val] at *; omega))) rfl fun r1 hr1 kr1 => ?_
 exact Run.x 0

end Go.Proofs.YtcdkepbgjgcjfaaGreat.Abs
