/- The program's functions are these; part 2 (written by w.py). -/
import Derived.Test.YtcdkepbgjgcjfaaGreatDsE
import Derived.Test.YtcdkepbgjgcjfaaGreatDsF3
import Derived.Test.YtcdkepbgjgcjfaaGreatDsQpre
import Derived.Test.YtcdkepbgjgcjfaaGreatDsK1
set_option linter.unusedVariables false
set_option linter.unusedSimpArgs false
namespace Go.Proofs.YtcdkepbgjgcjfaaGreat.Abs
open Go Go.RowKit

theorem ok_spec_SinI (a0 : Iv) : Fun Tryz.prog 29 [] #[vIv a0] (vIv (F_spec_SinI a0)) [] := by
 refine Fun.ofH 400 E_ok mixed Tryz.func29 (by kernel_rfl) (by kernel_rfl) ?_
 unfold F_spec_SinI
 refine Run.q (e := vIv) (gv := vIv) (ok_spec_l06Over _ _) fun r1 _ => ?_
 exact Run.x 0

theorem ok_spec_IsWhole (a0 : Iv) : Fun Tryz.prog 96 [] #[vIv a0] (vB (F_spec_IsWhole a0)) [] := by
 refine Fun.ofH 400 E_ok mixed Tryz.func96 (by kernel_rfl) (by kernel_rfl) ?_
 unfold F_spec_IsWhole
 refine Run.q (e := vB) (gv := vB) (ok_spec_l04Ok _) fun r1 _ => ?_
 exact Run.x 0

theorem ok_spec_HasI (a0 : Iv) (a1 : I64) : Fun Tryz.prog 48 [] #[vIv a0, vI a1] (vB (F_spec_HasI a0 a1)) [] := by
 refine Fun.ofH 400 E_ok mixed Tryz.func48 (by kernel_rfl) (by kernel_rfl) ?_
 unfold F_spec_HasI
 refine Run.q (e := vB) (gv := vB) (ok_spec_l04Ok _) fun r1 _ => ?_
 refine Run.y (gv := vB) (fun _ => ?_) (fun _ => ?_)
 ·refine Run.z [true, true, true] ?_
  exact Run.x 0
 ·refine Run.z [false, false] ?_
  refine Run.q (e := vB) (gv := vB) (ok_spec_l04Has _ _) fun r2 _ => ?_
  refine Run.z [false] ?_
  exact Run.x 0

theorem ok_spec_l07Fix (a0 : I64) : Fun Tryz.prog 262 [] #[vI a0] (vB (F_spec_l07Fix a0)) [] := by
 refine Fun.ofH 400 E_ok mixed Tryz.func262 (by kernel_rfl) (by kernel_rfl) ?_
 unfold F_spec_l07Fix
 refine Run.y (gv := vB) (fun _ => ?_) (fun _ => ?_)
 ·refine Run.z [true, true] ?_
  exact Run.x 0
 ·refine Run.z [false, false] ?_
  exact Run.x 0

theorem ok_spec_l07Quarter : Fun Tryz.prog 290 [] #[] (vIv (F_spec_l07Quarter)) [] := by
 refine Fun.ofH 400 E_ok mixed Tryz.func290 (by kernel_rfl) (by kernel_rfl) ?_
 unfold F_spec_l07Quarter
 refine Run.q (e := vIv) (gv := vIv) (ok_spec_l05Turn _ (by simp only [w64_val, wu64_val, c64_val, cu64_val, decide_eq_true_eq, decide_eq_false_iff_not, cond_true, cond_false] at *; omega)) fun r1 hr1 => ?_
 refine Run.q (e := vIv) (gv := vIv) (ok_spec_l05Turn _ (by simp only [w64_val, wu64_val, c64_val, cu64_val, decide_eq_true_eq, decide_eq_false_iff_not, cond_true, cond_false] at *; omega)) fun r2 hr2 => ?_
 exact Run.x 0

theorem ok_spec_l02Root_L0 : ∀ (fu : Nat) (a0 : Wd) (x_out : U64) (x_i : I64) (q0 : x_i.val ≤ 63) (hm : (x_i.val + 1).toNat < fu) (t : Array Value) (ht : maskA t [0, 5, 6, 7, 8, 9, 10, 11, 12, 13, 14, 15, 16, 17, 18, 19, 20, 21, 22, 23, 24, 25, 26, 27, 28, 29, 30, 31, 32, 33, 34, 35, 36, 37, 38, 39, 40, 41, 42] = #[undef, .pointer (some ⟨0, 0, none⟩), .int .u64 0, .int .u64 x_out.val, .int .i64 x_i.val, undef, undef, undef, undef, undef, undef, undef, undef, undef, undef, undef, undef, undef, undef, undef, undef, undef, undef, undef, undef, undef, undef, undef, undef, undef, undef, undef, undef, undef, undef, undef, undef, undef, undef, undef, undef, undef, undef]), Cfg Tryz.prog 265 (loopAt Tryz.f265 0) t [(#[.int .i64 a0.hi.val, .int .u64 a0.lo.val], 121)] (RvH [] (vU (F_spec_l02Root_L0 fu a0 x_out x_i))) := by
 intro fu
 induction fu with
 | zero => intro a0 x_out x_i q0 hm; exact absurd hm (Nat.not_lt_zero _)
 | succ fu ih =>
  intro a0 x_out x_i q0 hm t ht
  refine Cfg.round E_ok mixed Tryz.func265 ht fun g => ?_
  unfold F_spec_l02Root_L0
  refine Run.y (gv := vU) (fun h1 => ?_) (fun h1 => ?_)
  ·refine Run.k (c := (decide (0 ≤ (wu64 x_i.val).val))) (by kernel_rfl) (by simp only [w64_val, wu64_val, c64_val, cu64_val, decide_eq_true_eq] at *; omega) ?_
   refine Run.q (e := vT_U_U) (gv := vU) (ok_spec_l02Times _ _) fun r2 hr2 => ?_
   refine Run.y (gv := vU) (fun h3 => ?_) (fun h3 => ?_)
   ·refine Run.z [true, true, true, true, true, true, true, true] ?_
    exact Run.l (by kernel_rfl) (by kernel_rfl) (by kernel_rfl) (by kernel_rfl) (ih a0 (ior .u64 x_out.val (ishl .u64 1 (wu64 x_i.val).val).val) (w64 (x_i.val - 1)) (by have q1 := x_i.lo; simp only [w64_val, wu64_val, c64_val, cu64_val, decide_eq_true_eq] at *; omega) (by have q1 := x_i.lo; simp only [w64_val, wu64_val, c64_val, cu64_val, decide_eq_true_eq] at *; omega))
   ·refine Run.z [false, false, false, false, false] ?_
    refine Run.y (gv := vU) (fun h4 => ?_) (fun h4 => ?_)
    ·refine Run.z [true, true, true, false, true, false] ?_
     refine Run.y (gv := vU) (fun h5 => ?_) (fun h5 => ?_)
     ·exact Run.l (by kernel_rfl) (by kernel_rfl) (by kernel_rfl) (by kernel_rfl) (ih a0 (ior .u64 x_out.val (ishl .u64 1 (wu64 x_i.val).val).val) (w64 (x_i.val - 1)) (by have q1 := x_i.lo; simp only [w64_val, wu64_val, c64_val, cu64_val, decide_eq_true_eq] at *; omega) (by have q1 := x_i.lo; simp only [w64_val, wu64_val, c64_val, cu64_val, decide_eq_true_eq] at *; omega))
     ·exact Run.l (by kernel_rfl) (by kernel_rfl) (by kernel_rfl) (by kernel_rfl) (ih a0 x_out (w64 (x_i.val - 1)) (by have q1 := x_i.lo; simp only [w64_val, wu64_val, c64_val, cu64_val, decide_eq_true_eq] at *; omega) (by have q1 := x_i.lo; simp only [w64_val, wu64_val, c64_val, cu64_val, decide_eq_true_eq] at *; omega))
    ·refine Run.z [false, false, false, false, false, false, false] ?_
     exact Run.l (by kernel_rfl) (by kernel_rfl) (by kernel_rfl) (by kernel_rfl) (ih a0 x_out (w64 (x_i.val - 1)) (by have q1 := x_i.lo; simp only [w64_val, wu64_val, c64_val, cu64_val, decide_eq_true_eq] at *; omega) (by have q1 := x_i.lo; simp only [w64_val, wu64_val, c64_val, cu64_val, decide_eq_true_eq] at *; omega))
  ·exact Run.x 0

theorem ok_spec_l02Root (a0 : Wd) : Fun Tryz.prog 265 [] #[vWd a0] (vU (F_spec_l02Root a0)) [] := by
 refine Fun.ofH 400 E_ok mixed Tryz.func265 (by kernel_rfl) (by kernel_rfl) ?_
 unfold F_spec_l02Root
 exact Run.l (by kernel_rfl) (by kernel_rfl) (by kernel_rfl) (by kernel_rfl) (ok_spec_l02Root_L0 65 a0 (cu64 0) (c64 63) (by decide) (by decide))

theorem ok_spec_SqrtFloor (a0 : I64) (a1 : I64) : Fun Tryz.prog 319 [] #[vI a0, vI a1] (vT_I_B (F_spec_SqrtFloor a0 a1)) [] := by
 refine Fun.ofH 400 E_ok mixed Tryz.func319 (by kernel_rfl) (by kernel_rfl) ?_
 unfold F_spec_SqrtFloor
 refine Run.y (gv := vT_I_B) (fun _ => ?_) (fun _ => ?_)
 ·refine Run.z [true, true, true] ?_
  exact Run.x 0
 ·refine Run.z [false, false] ?_
  refine Run.y (gv := vT_I_B) (fun _ => ?_) (fun _ => ?_)
  ·exact Run.x 0
  ·refine Run.q (e := vWd) (gv := vT_I_B) (ok_spec_l02Mul _ _) fun r1 _ => ?_
   refine Run.q (e := vU) (gv := vT_I_B) (ok_spec_l02Root _) fun r2 _ => ?_
   exact Run.x 0

theorem ok_spec_l03SqrtDown (a0 : I64) : Fun Tryz.prog 311 [] #[vI a0] (vT_I_B (F_spec_l03SqrtDown a0)) [] := by
 refine Fun.ofH 400 E_ok mixed Tryz.func311 (by kernel_rfl) (by kernel_rfl) ?_
 unfold F_spec_l03SqrtDown
 refine Run.q (e := vB) (gv := vT_I_B) (ok_spec_l00In _ _ _) fun r1 _ => ?_
 refine Run.y (gv := vT_I_B) (fun _ => ?_) (fun _ => ?_)
 ·exact Run.x 0
 ·refine Run.q (e := vT_I_B) (gv := vT_I_B) (ok_spec_SqrtFloor _ _) fun r2 _ => ?_
  exact Run.x 0

theorem ok_spec_l03SqrtUp (a0 : I64) : Fun Tryz.prog 312 [] #[vI a0] (vT_I_B (F_spec_l03SqrtUp a0)) [] := by
 refine Fun.ofH 400 E_ok mixed Tryz.func312 (by kernel_rfl) (by kernel_rfl) ?_
 unfold F_spec_l03SqrtUp
 refine Run.q (e := vT_I_B) (gv := vT_I_B) (ok_spec_l03SqrtDown _) fun r1 _ => ?_
 refine Run.y (gv := vT_I_B) (fun _ => ?_) (fun _ => ?_)
 ·exact Run.x 0
 ·refine Run.q (e := vT_I_B) (gv := vT_I_B) (ok_spec_MulFloor _ _ _) fun r2 _ => ?_
  refine Run.y (gv := vT_I_B) (fun _ => ?_) (fun _ => ?_)
  ·refine Run.z [true, true, true, true, true, true] ?_
   exact Run.x 0
  ·refine Run.z [false, false, false, false, false] ?_
   refine Run.y (gv := vT_I_B) (fun _ => ?_) (fun _ => ?_)
   ·exact Run.x 0
   ·exact Run.x 0

theorem ok_spec_SqrtI (a0 : Iv) : Fun Tryz.prog 289 [] #[vIv a0] (vIv (F_spec_SqrtI a0)) [] := by
 refine Fun.ofH 400 E_ok mixed Tryz.func289 (by kernel_rfl) (by kernel_rfl) ?_
 unfold F_spec_SqrtI
 refine Run.q (e := vB) (gv := vIv) (ok_spec_l04Ok _) fun r1 _ => ?_
 refine Run.y (gv := vIv) (fun _ => ?_) (fun _ => ?_)
 ·refine Run.z [true, true, true, true] ?_
  refine Run.q (e := vIv) (gv := vIv) (ok_spec_l04Whole) fun r2 _ => ?_
  exact Run.x 0
 ·refine Run.z [false, false, false] ?_
  refine Run.y (gv := vIv) (fun _ => ?_) (fun _ => ?_)
  ·refine Run.q (e := vIv) (gv := vIv) (ok_spec_l04Whole) fun r3 _ => ?_
   exact Run.x 0
  ·refine Run.q (e := vT_I_B) (gv := vIv) (ok_spec_l03SqrtDown _) fun r4 _ => ?_
   refine Run.q (e := vT_I_B) (gv := vIv) (ok_spec_l03SqrtUp _) fun r5 _ => ?_
   refine Run.q (e := vIv) (gv := vIv) (ok_spec_l04Make _ _) fun r6 _ => ?_
   exact Run.x 0

theorem ok_spec_l07Halve (a0 : Iv) : Fun Tryz.prog 322 [] #[vIv a0] (vIv (F_spec_l07Halve a0)) [] := by
 refine Fun.ofH 400 E_ok mixed Tryz.func322 (by kernel_rfl) (by kernel_rfl) ?_
 unfold F_spec_l07Halve
 refine Run.q (e := vIv) (gv := vIv) (ok_spec_Integer _) fun r1 _ => ?_
 refine Run.q (e := vIv) (gv := vIv) (ok_spec_Integer _) fun r2 _ => ?_
 refine Run.q (e := vIv) (gv := vIv) (ok_spec_SqrI _) fun r3 _ => ?_
 refine Run.q (e := vIv) (gv := vIv) (ok_spec_AddI _ _) fun r4 _ => ?_
 refine Run.q (e := vIv) (gv := vIv) (ok_spec_SqrtI _) fun r5 _ => ?_
 refine Run.q (e := vIv) (gv := vIv) (ok_spec_AddI _ _) fun r6 _ => ?_
 refine Run.q (e := vIv) (gv := vIv) (ok_spec_DivI _ _) fun r7 _ => ?_
 exact Run.x 0

theorem ok_spec_l03Floor (a0 : I64) (a1 : I64) : Fun Tryz.prog 328 [] #[vI a0, vI a1] (vT_I_B (F_spec_l03Floor a0 a1)) [] := by
 refine Fun.ofH 400 E_ok mixed Tryz.func328 (by kernel_rfl) (by kernel_rfl) ?_
 unfold F_spec_l03Floor
 refine Run.y (gv := vT_I_B) (fun _ => ?_) (fun _ => ?_)
 ·exact Run.x 0
 ·refine Run.q (e := vT_I_B) (gv := vT_I_B) (ok_spec_MulDivFloor _ _ _) fun r1 _ => ?_
  refine Run.q (e := vT_I_B) (gv := vT_I_B) (ok_spec_l03End _ _) fun r2 _ => ?_
  exact Run.x 0

theorem ok_spec_l03Ceil (a0 : I64) (a1 : I64) : Fun Tryz.prog 329 [] #[vI a0, vI a1] (vT_I_B (F_spec_l03Ceil a0 a1)) [] := by
 refine Fun.ofH 400 E_ok mixed Tryz.func329 (by kernel_rfl) (by kernel_rfl) ?_
 unfold F_spec_l03Ceil
 refine Run.y (gv := vT_I_B) (fun _ => ?_) (fun _ => ?_)
 ·exact Run.x 0
 ·refine Run.q (e := vT_I_B) (gv := vT_I_B) (ok_spec_MulDivFloor _ _ _) fun r1 _ => ?_
  refine Run.y (gv := vT_I_B) (fun _ => ?_) (fun _ => ?_)
  ·exact Run.x 0
  ·refine Run.y (gv := vT_I_B) (fun _ => ?_) (fun _ => ?_)
   ·refine Run.q (e := vT_I_B) (gv := vT_I_B) (ok_spec_l03End _ _) fun r2 _ => ?_
    exact Run.x 0
   ·refine Run.q (e := vT_I_B) (gv := vT_I_B) (ok_spec_l03End _ _) fun r3 _ => ?_
    exact Run.x 0

theorem ok_spec_Quotient (a0 : I64) (a1 : I64) : Fun Tryz.prog 324 [] #[vI a0, vI a1] (vIv (F_spec_Quotient a0 a1)) [] := by
 refine Fun.ofH 400 E_ok mixed Tryz.func324 (by kernel_rfl) (by kernel_rfl) ?_
 unfold F_spec_Quotient
 refine Run.y (gv := vIv) (fun _ => ?_) (fun _ => ?_)
 ·refine Run.y (gv := vIv) (fun _ => ?_) (fun _ => ?_)
  ·refine Run.z [true, true, true] ?_
   refine Run.q (e := vIv) (gv := vIv) (ok_spec_l04Whole) fun r1 _ => ?_
   exact Run.x 0
  ·refine Run.z [false, false] ?_
   refine Run.y (gv := vIv) (fun _ => ?_) (fun _ => ?_)
   ·refine Run.q (e := vIv) (gv := vIv) (ok_spec_l04Whole) fun r2 _ => ?_
    exact Run.x 0
   ·refine Run.q (e := vT_I_B) (gv := vIv) (ok_spec_l03Floor _ _) fun r3 _ => ?_
    refine Run.q (e := vT_I_B) (gv := vIv) (ok_spec_l03Ceil _ _) fun r4 _ => ?_
    refine Run.y (gv := vIv) (fun _ => ?_) (fun _ => ?_)
    ·refine Run.z [true, true, true] ?_
     refine Run.q (e := vIv) (gv := vIv) (ok_spec_l04Whole) fun r5 _ => ?_
     exact Run.x 0
    ·refine Run.z [false, false] ?_
     refine Run.y (gv := vIv) (fun _ => ?_) (fun _ => ?_)
     ·refine Run.q (e := vIv) (gv := vIv) (ok_spec_l04Whole) fun r6 _ => ?_
      exact Run.x 0
     ·refine Run.q (e := vIv) (gv := vIv) (ok_spec_l04Make _ _) fun r7 _ => ?_
      exact Run.x 0
 ·refine Run.q (e := vT_I_B) (gv := vIv) (ok_spec_l03Floor _ _) fun r8 _ => ?_
  refine Run.q (e := vT_I_B) (gv := vIv) (ok_spec_l03Ceil _ _) fun r9 _ => ?_
  refine Run.y (gv := vIv) (fun _ => ?_) (fun _ => ?_)
  ·refine Run.z [true, true, true] ?_
   refine Run.q (e := vIv) (gv := vIv) (ok_spec_l04Whole) fun r10 _ => ?_
   exact Run.x 0
  ·refine Run.z [false, false] ?_
   refine Run.y (gv := vIv) (fun _ => ?_) (fun _ => ?_)
   ·refine Run.q (e := vIv) (gv := vIv) (ok_spec_l04Whole) fun r11 _ => ?_
    exact Run.x 0
   ·refine Run.q (e := vIv) (gv := vIv) (ok_spec_l04Make _ _) fun r12 _ => ?_
    exact Run.x 0

theorem ok_spec_ArcSeries (a0 : Iv) : Fun Tryz.prog 321 [] #[vIv a0] (vIv (F_spec_ArcSeries a0)) [] := by
 refine Fun.ofH 400 E_ok mixed Tryz.func321 (by kernel_rfl) (by kernel_rfl) ?_
 unfold F_spec_ArcSeries
 refine Run.q (e := vB) (gv := vIv) (ok_spec_InsideI _ _) fun r1 _ => ?_
 refine Run.y (gv := vIv) (fun _ => ?_) (fun _ => ?_)
 ·refine Run.q (e := vIv) (gv := vIv) (ok_spec_Whole) fun r2 _ => ?_
  exact Run.x 0
 ·refine Run.q (e := vIv) (gv := vIv) (ok_spec_SqrI _) fun r3 _ => ?_
  refine Run.q (e := vIv) (gv := vIv) (ok_spec_Quotient _ _) fun r4 _ => ?_
  refine Run.u 400 E_ok mixed Tryz.func321 ?_
  refine Run.z [true] ?_
  refine Run.q (e := vIv) (gv := vIv) (ok_spec_Quotient _ _) fun r5 _ => ?_
  refine Run.q (e := vIv) (gv := vIv) (ok_spec_MulI _ _) fun r6 _ => ?_
  refine Run.q (e := vIv) (gv := vIv) (ok_spec_SubI _ _) fun r7 _ => ?_
  refine Run.u 400 E_ok mixed Tryz.func321 ?_
  refine Run.z [true] ?_
  refine Run.q (e := vIv) (gv := vIv) (ok_spec_Quotient _ _) fun r8 _ => ?_
  refine Run.q (e := vIv) (gv := vIv) (ok_spec_MulI _ _) fun r9 _ => ?_
  refine Run.q (e := vIv) (gv := vIv) (ok_spec_SubI _ _) fun r10 _ => ?_
  refine Run.u 400 E_ok mixed Tryz.func321 ?_
  refine Run.z [true] ?_
  refine Run.q (e := vIv) (gv := vIv) (ok_spec_Quotient _ _) fun r11 _ => ?_
  refine Run.q (e := vIv) (gv := vIv) (ok_spec_MulI _ _) fun r12 _ => ?_
  refine Run.q (e := vIv) (gv := vIv) (ok_spec_SubI _ _) fun r13 _ => ?_
  refine Run.u 400 E_ok mixed Tryz.func321 ?_
  refine Run.z [true] ?_
  refine Run.q (e := vIv) (gv := vIv) (ok_spec_Quotient _ _) fun r14 _ => ?_
  refine Run.q (e := vIv) (gv := vIv) (ok_spec_MulI _ _) fun r15 _ => ?_
  refine Run.q (e := vIv) (gv := vIv) (ok_spec_SubI _ _) fun r16 _ => ?_
  refine Run.u 400 E_ok mixed Tryz.func321 ?_
  refine Run.z [true] ?_
  refine Run.q (e := vIv) (gv := vIv) (ok_spec_Quotient _ _) fun r17 _ => ?_
  refine Run.q (e := vIv) (gv := vIv) (ok_spec_MulI _ _) fun r18 _ => ?_
  refine Run.q (e := vIv) (gv := vIv) (ok_spec_SubI _ _) fun r19 _ => ?_
  refine Run.u 400 E_ok mixed Tryz.func321 ?_
  refine Run.z [true] ?_
  refine Run.q (e := vIv) (gv := vIv) (ok_spec_Quotient _ _) fun r20 _ => ?_
  refine Run.q (e := vIv) (gv := vIv) (ok_spec_MulI _ _) fun r21 _ => ?_
  refine Run.q (e := vIv) (gv := vIv) (ok_spec_SubI _ _) fun r22 _ => ?_
  refine Run.u 400 E_ok mixed Tryz.func321 ?_
  refine Run.z [true] ?_
  refine Run.q (e := vIv) (gv := vIv) (ok_spec_Quotient _ _) fun r23 _ => ?_
  refine Run.q (e := vIv) (gv := vIv) (ok_spec_MulI _ _) fun r24 _ => ?_
  refine Run.q (e := vIv) (gv := vIv) (ok_spec_SubI _ _) fun r25 _ => ?_
  refine Run.u 400 E_ok mixed Tryz.func321 ?_
  refine Run.z [true] ?_
  refine Run.q (e := vIv) (gv := vIv) (ok_spec_Quotient _ _) fun r26 _ => ?_
  refine Run.q (e := vIv) (gv := vIv) (ok_spec_MulI _ _) fun r27 _ => ?_
  refine Run.q (e := vIv) (gv := vIv) (ok_spec_SubI _ _) fun r28 _ => ?_
  refine Run.u 400 E_ok mixed Tryz.func321 ?_
  refine Run.z [true] ?_
  refine Run.q (e := vIv) (gv := vIv) (ok_spec_Quotient _ _) fun r29 _ => ?_
  refine Run.q (e := vIv) (gv := vIv) (ok_spec_MulI _ _) fun r30 _ => ?_
  refine Run.q (e := vIv) (gv := vIv) (ok_spec_SubI _ _) fun r31 _ => ?_
  refine Run.u 400 E_ok mixed Tryz.func321 ?_
  refine Run.z [true] ?_
  refine Run.q (e := vIv) (gv := vIv) (ok_spec_Quotient _ _) fun r32 _ => ?_
  refine Run.q (e := vIv) (gv := vIv) (ok_spec_MulI _ _) fun r33 _ => ?_
  refine Run.q (e := vIv) (gv := vIv) (ok_spec_SubI _ _) fun r34 _ => ?_
  refine Run.u 400 E_ok mixed Tryz.func321 ?_
  refine Run.z [false] ?_
  refine Run.q (e := vIv) (gv := vIv) (ok_spec_MulI _ _) fun r35 _ => ?_
  refine Run.q (e := vIv) (gv := vIv) (ok_spec_l06Tiny) fun r36 _ => ?_
  refine Run.q (e := vIv) (gv := vIv) (ok_spec_AddI _ _) fun r37 _ => ?_
  exact Run.x 0

theorem ok_spec_DoubleI (a0 : Iv) : Fun Tryz.prog 30 [] #[vIv a0] (vIv (F_spec_DoubleI a0)) [] := by
 refine Fun.ofH 400 E_ok mixed Tryz.func30 (by kernel_rfl) (by kernel_rfl) ?_
 unfold F_spec_DoubleI
 refine Run.q (e := vB) (gv := vIv) (ok_spec_l04Ok _) fun r1 _ => ?_
 refine Run.y (gv := vIv) (fun _ => ?_) (fun _ => ?_)
 ·refine Run.q (e := vIv) (gv := vIv) (ok_spec_l04Whole) fun r2 _ => ?_
  exact Run.x 0
 ·refine Run.q (e := vIv) (gv := vIv) (ok_spec_l04Make _ _) fun r3 _ => ?_
  exact Run.x 0

theorem ok_spec_l07Core (a0 : Iv) : Fun Tryz.prog 316 [] #[vIv a0] (vIv (F_spec_l07Core a0)) [] := by
 refine Fun.ofH 400 E_ok mixed Tryz.func316 (by kernel_rfl) (by kernel_rfl) ?_
 unfold F_spec_l07Core
 refine Run.q (e := vIv) (gv := vIv) (ok_spec_l07Halve _) fun r1 _ => ?_
 refine Run.q (e := vIv) (gv := vIv) (ok_spec_l07Halve _) fun r2 _ => ?_
 refine Run.q (e := vIv) (gv := vIv) (ok_spec_ArcSeries _) fun r3 _ => ?_
 refine Run.q (e := vIv) (gv := vIv) (ok_spec_DoubleI _) fun r4 _ => ?_
 refine Run.q (e := vIv) (gv := vIv) (ok_spec_DoubleI _) fun r5 _ => ?_
 exact Run.x 0

theorem ok_spec_AtanAt_r : ∀ (fu : Nat) (a0 : I64) (hm : min (0 - a0.val).toNat 1 < fu), Fun Tryz.prog 299 [] #[vI a0] (vIv (F_spec_AtanAt_r fu a0)) [] := by
 intro fu
 induction fu with
 | zero => intro a0 hm; exact absurd hm (Nat.not_lt_zero _)
 | succ fu ih =>
  intro a0 hm
  refine Fun.ofH 400 E_ok mixed Tryz.func299 (by kernel_rfl) (by kernel_rfl) ?_
  unfold F_spec_AtanAt_r
  unfold F_spec_AtanAt_b
  refine Run.q (e := vB) (gv := vIv) (ok_spec_l07Fix _) fun r1 hr1 => ?_
  refine Run.y (gv := vIv) (fun h2 => ?_) (fun h2 => ?_)
  ·refine Run.q (e := vIv) (gv := vIv) (ok_spec_l07Quarter) fun r3 hr3 => ?_
   exact Run.x 0
  ·refine Run.y (gv := vIv) (fun h4 => ?_) (fun h4 => ?_)
   ·refine Run.q (e := vIv) (gv := vIv) (ih (w64 (0 - a0.val)) (by rw [hr1] at h2; simp [F_spec_l07Fix, c64_val] at h2; simp only [w64_val, decide_eq_true_eq, decide_eq_false_iff_not] at *; omega)) fun r5 hr5 => ?_
    refine Run.q (e := vIv) (gv := vIv) (ok_spec_NegI _) fun r6 hr6 => ?_
    exact Run.x 0
   ·refine Run.y (gv := vIv) (fun h7 => ?_) (fun h7 => ?_)
    ·refine Run.q (e := vIv) (gv := vIv) (ok_spec_TurnI _) fun r8 hr8 => ?_
     refine Run.q (e := vIv) (gv := vIv) (ok_spec_Integer _) fun r9 hr9 => ?_
     refine Run.q (e := vIv) (gv := vIv) (ok_spec_l05At _) fun r10 hr10 => ?_
     refine Run.q (e := vIv) (gv := vIv) (ok_spec_DivI _ _) fun r11 hr11 => ?_
     refine Run.q (e := vIv) (gv := vIv) (ok_spec_l07Core _) fun r12 hr12 => ?_
     refine Run.q (e := vIv) (gv := vIv) (ok_spec_SubI _ _) fun r13 hr13 => ?_
     exact Run.x 0
    ·refine Run.q (e := vIv) (gv := vIv) (ok_spec_l05At _) fun r14 hr14 => ?_
     refine Run.q (e := vIv) (gv := vIv) (ok_spec_l07Core _) fun r15 hr15 => ?_
     exact Run.x 0
theorem ok_spec_AtanAt (a0 : I64) : Fun Tryz.prog 299 [] #[vI a0] (vIv (F_spec_AtanAt a0)) [] := ok_spec_AtanAt_r 2 a0 (by omega)

theorem ok_spec_AtanI (a0 : Iv) : Fun Tryz.prog 263 [] #[vIv a0] (vIv (F_spec_AtanI a0)) [] := by
 refine Fun.ofH 400 E_ok mixed Tryz.func263 (by kernel_rfl) (by kernel_rfl) ?_
 unfold F_spec_AtanI
 refine Run.q (e := vB) (gv := vIv) (ok_spec_IsWhole _) fun r1 _ => ?_
 refine Run.y (gv := vIv) (fun _ => ?_) (fun _ => ?_)
 ·refine Run.q (e := vIv) (gv := vIv) (ok_spec_l07Quarter) fun r2 _ => ?_
  exact Run.x 0
 ·refine Run.q (e := vIv) (gv := vIv) (ok_spec_AtanAt _) fun r3 _ => ?_
  refine Run.q (e := vIv) (gv := vIv) (ok_spec_AtanAt _) fun r4 _ => ?_
  refine Run.q (e := vIv) (gv := vIv) (ok_spec_HullI _ _) fun r5 _ => ?_
  exact Run.x 0

theorem ok_spec_DirectionAt_cut1 (a0 : I64) (a1 : I64) (r1 : Bool) (r3 : Bool) : Run Tryz.prog 206 (RvH [] (vIv ((bif (decide (a0.val < 0)) then (bif (decide ((w64 (0 - a0.val)).val > a1.val)) then (bif (decide ((w64 (0 - a0.val)).val > (w64 (0 - a1.val)).val)) then (bif (decide (a0.val < 0)) then bindP (F_spec_TurnI (c64 (-1))) fun r6 => bindP (F_spec_l05At a1) fun r7 => bindP (F_spec_l05At a0) fun r8 => bindP (F_spec_DivI r7 r8) fun r9 => bindP (F_spec_AtanI r9) fun r10 => bindP (F_spec_SubI r6 r10) fun r11 => r11 else bindP (F_spec_TurnI (c64 1)) fun r12 => bindP (F_spec_l05At a1) fun r13 => bindP (F_spec_l05At a0) fun r14 => bindP (F_spec_DivI r13 r14) fun r15 => bindP (F_spec_AtanI r15) fun r16 => bindP (F_spec_SubI r12 r16) fun r17 => r17) else (bif (decide (a1.val > 0)) then bindP (F_spec_l05At a0) fun r18 => bindP (F_spec_l05At a1) fun r19 => bindP (F_spec_DivI r18 r19) fun r20 => bindP (F_spec_AtanI r20) fun r21 => r21 else (bif (decide (a0.val < 0)) then bindP (F_spec_l05At a0) fun r22 => bindP (F_spec_l05At a1) fun r23 => bindP (F_spec_DivI r22 r23) fun r24 => bindP (F_spec_AtanI r24) fun r25 => bindP (F_spec_TurnI (c64 (-2))) fun r26 => bindP (F_spec_AddI r25 r26) fun r27 => r27 else bindP (F_spec_l05At a0) fun r28 => bindP (F_spec_l05At a1) fun r29 => bindP (F_spec_DivI r28 r29) fun r30 => bindP (F_spec_AtanI r30) fun r31 => bindP (F_spec_TurnI (c64 2)) fun r32 => bindP (F_spec_AddI r31 r32) fun r33 => r33))) else (bif (decide (a1.val > 0)) then bindP (F_spec_l05At a0) fun r34 => bindP (F_spec_l05At a1) fun r35 => bindP (F_spec_DivI r34 r35) fun r36 => bindP (F_spec_AtanI r36) fun r37 => r37 else (bif (decide (a0.val < 0)) then bindP (F_spec_l05At a0) fun r38 => bindP (F_spec_l05At a1) fun r39 => bindP (F_spec_DivI r38 r39) fun r40 => bindP (F_spec_AtanI r40) fun r41 => bindP (F_spec_TurnI (c64 (-2))) fun r42 => bindP (F_spec_AddI r41 r42) fun r43 => r43 else bindP (F_spec_l05At a0) fun r44 => bindP (F_spec_l05At a1) fun r45 => bindP (F_spec_DivI r44 r45) fun r46 => bindP (F_spec_AtanI r46) fun r47 => bindP (F_spec_TurnI (c64 2)) fun r48 => bindP (F_spec_AddI r47 r48) fun r49 => r49))) else (bif (decide (a0.val > a1.val)) then (bif (decide (a0.val > (w64 (0 - a1.val)).val)) then (bif (decide (a0.val < 0)) then bindP (F_spec_TurnI (c64 (-1))) fun r50 => bindP (F_spec_l05At a1) fun r51 => bindP (F_spec_l05At a0) fun r52 => bindP (F_spec_DivI r51 r52) fun r53 => bindP (F_spec_AtanI r53) fun r54 => bindP (F_spec_SubI r50 r54) fun r55 => r55 else bindP (F_spec_TurnI (c64 1)) fun r56 => bindP (F_spec_l05At a1) fun r57 => bindP (F_spec_l05At a0) fun r58 => bindP (F_spec_DivI r57 r58) fun r59 => bindP (F_spec_AtanI r59) fun r60 => bindP (F_spec_SubI r56 r60) fun r61 => r61) else (bif (decide (a1.val > 0)) then bindP (F_spec_l05At a0) fun r62 => bindP (F_spec_l05At a1) fun r63 => bindP (F_spec_DivI r62 r63) fun r64 => bindP (F_spec_AtanI r64) fun r65 => r65 else (bif (decide (a0.val < 0)) then bindP (F_spec_l05At a0) fun r66 => bindP (F_spec_l05At a1) fun r67 => bindP (F_spec_DivI r66 r67) fun r68 => bindP (F_spec_AtanI r68) fun r69 => bindP (F_spec_TurnI (c64 (-2))) fun r70 => bindP (F_spec_AddI r69 r70) fun r71 => r71 else bindP (F_spec_l05At a0) fun r72 => bindP (F_spec_l05At a1) fun r73 => bindP (F_spec_DivI r72 r73) fun r74 => bindP (F_spec_AtanI r74) fun r75 => bindP (F_spec_TurnI (c64 2)) fun r76 => bindP (F_spec_AddI r75 r76) fun r77 => r77))) else (bif (decide (a1.val > 0)) then bindP (F_spec_l05At a0) fun r78 => bindP (F_spec_l05At a1) fun r79 => bindP (F_spec_DivI r78 r79) fun r80 => bindP (F_spec_AtanI r80) fun r81 => r81 else (bif (decide (a0.val < 0)) then bindP (F_spec_l05At a0) fun r82 => bindP (F_spec_l05At a1) fun r83 => bindP (F_spec_DivI r82 r83) fun r84 => bindP (F_spec_AtanI r84) fun r85 => bindP (F_spec_TurnI (c64 (-2))) fun r86 => bindP (F_spec_AddI r85 r86) fun r87 => r87 else bindP (F_spec_l05At a0) fun r88 => bindP (F_spec_l05At a1) fun r89 => bindP (F_spec_DivI r88 r89) fun r90 => bindP (F_spec_AtanI r90) fun r91 => bindP (F_spec_TurnI (c64 2)) fun r92 => bindP (F_spec_AddI r91 r92) fun r93 => r93))))))) (((((((((((start Tryz.prog E Tryz.f206 400 [] #[vI a0, vI a1]).after (vB r1)).no).path [false]).after (vB r3)).path [false, false]).no).path [false, false]).yes).path [true, false, true, false]).no) := by
 refine Run.y (gv := vIv) (fun _ => ?_) (fun _ => ?_)
 ·refine Run.y (gv := vIv) (fun _ => ?_) (fun _ => ?_)
  ·refine Run.z [true, true, true, true] ?_
   refine Run.y (gv := vIv) (fun _ => ?_) (fun _ => ?_)
   ·refine Run.y (gv := vIv) (fun _ => ?_) (fun _ => ?_)
    ·refine Run.q (e := vIv) (gv := vIv) (ok_spec_TurnI _) fun r6 _ => ?_
     refine Run.q (e := vIv) (gv := vIv) (ok_spec_l05At _) fun r7 _ => ?_
     refine Run.q (e := vIv) (gv := vIv) (ok_spec_l05At _) fun r8 _ => ?_
     refine Run.q (e := vIv) (gv := vIv) (ok_spec_DivI _ _) fun r9 _ => ?_
     refine Run.q (e := vIv) (gv := vIv) (ok_spec_AtanI _) fun r10 _ => ?_
     refine Run.q (e := vIv) (gv := vIv) (ok_spec_SubI _ _) fun r11 _ => ?_
     exact Run.x 0
    ·refine Run.q (e := vIv) (gv := vIv) (ok_spec_TurnI _) fun r12 _ => ?_
     refine Run.q (e := vIv) (gv := vIv) (ok_spec_l05At _) fun r13 _ => ?_
     refine Run.q (e := vIv) (gv := vIv) (ok_spec_l05At _) fun r14 _ => ?_
     refine Run.q (e := vIv) (gv := vIv) (ok_spec_DivI _ _) fun r15 _ => ?_
     refine Run.q (e := vIv) (gv := vIv) (ok_spec_AtanI _) fun r16 _ => ?_
     refine Run.q (e := vIv) (gv := vIv) (ok_spec_SubI _ _) fun r17 _ => ?_
     exact Run.x 0
   ·refine Run.y (gv := vIv) (fun _ => ?_) (fun _ => ?_)
    ·refine Run.q (e := vIv) (gv := vIv) (ok_spec_l05At _) fun r18 _ => ?_
     refine Run.q (e := vIv) (gv := vIv) (ok_spec_l05At _) fun r19 _ => ?_
     refine Run.q (e := vIv) (gv := vIv) (ok_spec_DivI _ _) fun r20 _ => ?_
     refine Run.q (e := vIv) (gv := vIv) (ok_spec_AtanI _) fun r21 _ => ?_
     exact Run.x 0
    ·refine Run.y (gv := vIv) (fun _ => ?_) (fun _ => ?_)
     ·refine Run.q (e := vIv) (gv := vIv) (ok_spec_l05At _) fun r22 _ => ?_
      refine Run.q (e := vIv) (gv := vIv) (ok_spec_l05At _) fun r23 _ => ?_
      refine Run.q (e := vIv) (gv := vIv) (ok_spec_DivI _ _) fun r24 _ => ?_
      refine Run.q (e := vIv) (gv := vIv) (ok_spec_AtanI _) fun r25 _ => ?_
      refine Run.q (e := vIv) (gv := vIv) (ok_spec_TurnI _) fun r26 _ => ?_
      refine Run.q (e := vIv) (gv := vIv) (ok_spec_AddI _ _) fun r27 _ => ?_
      exact Run.x 0
     ·refine Run.q (e := vIv) (gv := vIv) (ok_spec_l05At _) fun r28 _ => ?_
      refine Run.q (e := vIv) (gv := vIv) (ok_spec_l05At _) fun r29 _ => ?_
      refine Run.q (e := vIv) (gv := vIv) (ok_spec_DivI _ _) fun r30 _ => ?_
      refine Run.q (e := vIv) (gv := vIv) (ok_spec_AtanI _) fun r31 _ => ?_
      refine Run.q (e := vIv) (gv := vIv) (ok_spec_TurnI _) fun r32 _ => ?_
      refine Run.q (e := vIv) (gv := vIv) (ok_spec_AddI _ _) fun r33 _ => ?_
      exact Run.x 0
  ·refine Run.z [false, false, false, false, false] ?_
   refine Run.y (gv := vIv) (fun _ => ?_) (fun _ => ?_)
   ·refine Run.q (e := vIv) (gv := vIv) (ok_spec_l05At _) fun r34 _ => ?_
    refine Run.q (e := vIv) (gv := vIv) (ok_spec_l05At _) fun r35 _ => ?_
    refine Run.q (e := vIv) (gv := vIv) (ok_spec_DivI _ _) fun r36 _ => ?_
    refine Run.q (e := vIv) (gv := vIv) (ok_spec_AtanI _) fun r37 _ => ?_
    exact Run.x 0
   ·refine Run.y (gv := vIv) (fun _ => ?_) (fun _ => ?_)
    ·refine Run.q (e := vIv) (gv := vIv) (ok_spec_l05At _) fun r38 _ => ?_
     refine Run.q (e := vIv) (gv := vIv) (ok_spec_l05At _) fun r39 _ => ?_
     refine Run.q (e := vIv) (gv := vIv) (ok_spec_DivI _ _) fun r40 _ => ?_
     refine Run.q (e := vIv) (gv := vIv) (ok_spec_AtanI _) fun r41 _ => ?_
     refine Run.q (e := vIv) (gv := vIv) (ok_spec_TurnI _) fun r42 _ => ?_
     refine Run.q (e := vIv) (gv := vIv) (ok_spec_AddI _ _) fun r43 _ => ?_
     exact Run.x 0
    ·refine Run.q (e := vIv) (gv := vIv) (ok_spec_l05At _) fun r44 _ => ?_
     refine Run.q (e := vIv) (gv := vIv) (ok_spec_l05At _) fun r45 _ => ?_
     refine Run.q (e := vIv) (gv := vIv) (ok_spec_DivI _ _) fun r46 _ => ?_
     refine Run.q (e := vIv) (gv := vIv) (ok_spec_AtanI _) fun r47 _ => ?_
     refine Run.q (e := vIv) (gv := vIv) (ok_spec_TurnI _) fun r48 _ => ?_
     refine Run.q (e := vIv) (gv := vIv) (ok_spec_AddI _ _) fun r49 _ => ?_
     exact Run.x 0
 ·refine Run.y (gv := vIv) (fun _ => ?_) (fun _ => ?_)
  ·refine Run.z [true, true, true, true] ?_
   refine Run.y (gv := vIv) (fun _ => ?_) (fun _ => ?_)
   ·refine Run.y (gv := vIv) (fun _ => ?_) (fun _ => ?_)
    ·refine Run.q (e := vIv) (gv := vIv) (ok_spec_TurnI _) fun r50 _ => ?_
     refine Run.q (e := vIv) (gv := vIv) (ok_spec_l05At _) fun r51 _ => ?_
     refine Run.q (e := vIv) (gv := vIv) (ok_spec_l05At _) fun r52 _ => ?_
     refine Run.q (e := vIv) (gv := vIv) (ok_spec_DivI _ _) fun r53 _ => ?_
     refine Run.q (e := vIv) (gv := vIv) (ok_spec_AtanI _) fun r54 _ => ?_
     refine Run.q (e := vIv) (gv := vIv) (ok_spec_SubI _ _) fun r55 _ => ?_
     exact Run.x 0
    ·refine Run.q (e := vIv) (gv := vIv) (ok_spec_TurnI _) fun r56 _ => ?_
     refine Run.q (e := vIv) (gv := vIv) (ok_spec_l05At _) fun r57 _ => ?_
     refine Run.q (e := vIv) (gv := vIv) (ok_spec_l05At _) fun r58 _ => ?_
     refine Run.q (e := vIv) (gv := vIv) (ok_spec_DivI _ _) fun r59 _ => ?_
     refine Run.q (e := vIv) (gv := vIv) (ok_spec_AtanI _) fun r60 _ => ?_
     refine Run.q (e := vIv) (gv := vIv) (ok_spec_SubI _ _) fun r61 _ => ?_
     exact Run.x 0
   ·refine Run.y (gv := vIv) (fun _ => ?_) (fun _ => ?_)
    ·refine Run.q (e := vIv) (gv := vIv) (ok_spec_l05At _) fun r62 _ => ?_
     refine Run.q (e := vIv) (gv := vIv) (ok_spec_l05At _) fun r63 _ => ?_
     refine Run.q (e := vIv) (gv := vIv) (ok_spec_DivI _ _) fun r64 _ => ?_
     refine Run.q (e := vIv) (gv := vIv) (ok_spec_AtanI _) fun r65 _ => ?_
     exact Run.x 0
    ·refine Run.y (gv := vIv) (fun _ => ?_) (fun _ => ?_)
     ·refine Run.q (e := vIv) (gv := vIv) (ok_spec_l05At _) fun r66 _ => ?_
      refine Run.q (e := vIv) (gv := vIv) (ok_spec_l05At _) fun r67 _ => ?_
      refine Run.q (e := vIv) (gv := vIv) (ok_spec_DivI _ _) fun r68 _ => ?_
      refine Run.q (e := vIv) (gv := vIv) (ok_spec_AtanI _) fun r69 _ => ?_
      refine Run.q (e := vIv) (gv := vIv) (ok_spec_TurnI _) fun r70 _ => ?_
      refine Run.q (e := vIv) (gv := vIv) (ok_spec_AddI _ _) fun r71 _ => ?_
      exact Run.x 0
     ·refine Run.q (e := vIv) (gv := vIv) (ok_spec_l05At _) fun r72 _ => ?_
      refine Run.q (e := vIv) (gv := vIv) (ok_spec_l05At _) fun r73 _ => ?_
      refine Run.q (e := vIv) (gv := vIv) (ok_spec_DivI _ _) fun r74 _ => ?_
      refine Run.q (e := vIv) (gv := vIv) (ok_spec_AtanI _) fun r75 _ => ?_
      refine Run.q (e := vIv) (gv := vIv) (ok_spec_TurnI _) fun r76 _ => ?_
      refine Run.q (e := vIv) (gv := vIv) (ok_spec_AddI _ _) fun r77 _ => ?_
      exact Run.x 0
  ·refine Run.z [false, false, false, false, false] ?_
   refine Run.y (gv := vIv) (fun _ => ?_) (fun _ => ?_)
   ·refine Run.q (e := vIv) (gv := vIv) (ok_spec_l05At _) fun r78 _ => ?_
    refine Run.q (e := vIv) (gv := vIv) (ok_spec_l05At _) fun r79 _ => ?_
    refine Run.q (e := vIv) (gv := vIv) (ok_spec_DivI _ _) fun r80 _ => ?_
    refine Run.q (e := vIv) (gv := vIv) (ok_spec_AtanI _) fun r81 _ => ?_
    exact Run.x 0
   ·refine Run.y (gv := vIv) (fun _ => ?_) (fun _ => ?_)
    ·refine Run.q (e := vIv) (gv := vIv) (ok_spec_l05At _) fun r82 _ => ?_
     refine Run.q (e := vIv) (gv := vIv) (ok_spec_l05At _) fun r83 _ => ?_
     refine Run.q (e := vIv) (gv := vIv) (ok_spec_DivI _ _) fun r84 _ => ?_
     refine Run.q (e := vIv) (gv := vIv) (ok_spec_AtanI _) fun r85 _ => ?_
     refine Run.q (e := vIv) (gv := vIv) (ok_spec_TurnI _) fun r86 _ => ?_
     refine Run.q (e := vIv) (gv := vIv) (ok_spec_AddI _ _) fun r87 _ => ?_
     exact Run.x 0
    ·refine Run.q (e := vIv) (gv := vIv) (ok_spec_l05At _) fun r88 _ => ?_
     refine Run.q (e := vIv) (gv := vIv) (ok_spec_l05At _) fun r89 _ => ?_
     refine Run.q (e := vIv) (gv := vIv) (ok_spec_DivI _ _) fun r90 _ => ?_
     refine Run.q (e := vIv) (gv := vIv) (ok_spec_AtanI _) fun r91 _ => ?_
     refine Run.q (e := vIv) (gv := vIv) (ok_spec_TurnI _) fun r92 _ => ?_
     refine Run.q (e := vIv) (gv := vIv) (ok_spec_AddI _ _) fun r93 _ => ?_
     exact Run.x 0

theorem ok_spec_DirectionAt_cut2 (a0 : I64) (a1 : I64) (r1 : Bool) (r3 : Bool) : Run Tryz.prog 206 (RvH [] (vIv ((bif (decide (a0.val < 0)) then (bif (decide ((w64 (0 - a0.val)).val > a1.val)) then (bif (decide ((w64 (0 - a0.val)).val > (w64 (0 - a1.val)).val)) then (bif (decide (a0.val < 0)) then bindP (F_spec_TurnI (c64 (-1))) fun r94 => bindP (F_spec_l05At a1) fun r95 => bindP (F_spec_l05At a0) fun r96 => bindP (F_spec_DivI r95 r96) fun r97 => bindP (F_spec_AtanI r97) fun r98 => bindP (F_spec_SubI r94 r98) fun r99 => r99 else bindP (F_spec_TurnI (c64 1)) fun r100 => bindP (F_spec_l05At a1) fun r101 => bindP (F_spec_l05At a0) fun r102 => bindP (F_spec_DivI r101 r102) fun r103 => bindP (F_spec_AtanI r103) fun r104 => bindP (F_spec_SubI r100 r104) fun r105 => r105) else (bif (decide (a1.val > 0)) then bindP (F_spec_l05At a0) fun r106 => bindP (F_spec_l05At a1) fun r107 => bindP (F_spec_DivI r106 r107) fun r108 => bindP (F_spec_AtanI r108) fun r109 => r109 else (bif (decide (a0.val < 0)) then bindP (F_spec_l05At a0) fun r110 => bindP (F_spec_l05At a1) fun r111 => bindP (F_spec_DivI r110 r111) fun r112 => bindP (F_spec_AtanI r112) fun r113 => bindP (F_spec_TurnI (c64 (-2))) fun r114 => bindP (F_spec_AddI r113 r114) fun r115 => r115 else bindP (F_spec_l05At a0) fun r116 => bindP (F_spec_l05At a1) fun r117 => bindP (F_spec_DivI r116 r117) fun r118 => bindP (F_spec_AtanI r118) fun r119 => bindP (F_spec_TurnI (c64 2)) fun r120 => bindP (F_spec_AddI r119 r120) fun r121 => r121))) else (bif (decide (a1.val > 0)) then bindP (F_spec_l05At a0) fun r122 => bindP (F_spec_l05At a1) fun r123 => bindP (F_spec_DivI r122 r123) fun r124 => bindP (F_spec_AtanI r124) fun r125 => r125 else (bif (decide (a0.val < 0)) then bindP (F_spec_l05At a0) fun r126 => bindP (F_spec_l05At a1) fun r127 => bindP (F_spec_DivI r126 r127) fun r128 => bindP (F_spec_AtanI r128) fun r129 => bindP (F_spec_TurnI (c64 (-2))) fun r130 => bindP (F_spec_AddI r129 r130) fun r131 => r131 else bindP (F_spec_l05At a0) fun r132 => bindP (F_spec_l05At a1) fun r133 => bindP (F_spec_DivI r132 r133) fun r134 => bindP (F_spec_AtanI r134) fun r135 => bindP (F_spec_TurnI (c64 2)) fun r136 => bindP (F_spec_AddI r135 r136) fun r137 => r137))) else (bif (decide (a0.val > a1.val)) then (bif (decide (a0.val > (w64 (0 - a1.val)).val)) then (bif (decide (a0.val < 0)) then bindP (F_spec_TurnI (c64 (-1))) fun r138 => bindP (F_spec_l05At a1) fun r139 => bindP (F_spec_l05At a0) fun r140 => bindP (F_spec_DivI r139 r140) fun r141 => bindP (F_spec_AtanI r141) fun r142 => bindP (F_spec_SubI r138 r142) fun r143 => r143 else bindP (F_spec_TurnI (c64 1)) fun r144 => bindP (F_spec_l05At a1) fun r145 => bindP (F_spec_l05At a0) fun r146 => bindP (F_spec_DivI r145 r146) fun r147 => bindP (F_spec_AtanI r147) fun r148 => bindP (F_spec_SubI r144 r148) fun r149 => r149) else (bif (decide (a1.val > 0)) then bindP (F_spec_l05At a0) fun r150 => bindP (F_spec_l05At a1) fun r151 => bindP (F_spec_DivI r150 r151) fun r152 => bindP (F_spec_AtanI r152) fun r153 => r153 else (bif (decide (a0.val < 0)) then bindP (F_spec_l05At a0) fun r154 => bindP (F_spec_l05At a1) fun r155 => bindP (F_spec_DivI r154 r155) fun r156 => bindP (F_spec_AtanI r156) fun r157 => bindP (F_spec_TurnI (c64 (-2))) fun r158 => bindP (F_spec_AddI r157 r158) fun r159 => r159 else bindP (F_spec_l05At a0) fun r160 => bindP (F_spec_l05At a1) fun r161 => bindP (F_spec_DivI r160 r161) fun r162 => bindP (F_spec_AtanI r162) fun r163 => bindP (F_spec_TurnI (c64 2)) fun r164 => bindP (F_spec_AddI r163 r164) fun r165 => r165))) else (bif (decide (a1.val > 0)) then bindP (F_spec_l05At a0) fun r166 => bindP (F_spec_l05At a1) fun r167 => bindP (F_spec_DivI r166 r167) fun r168 => bindP (F_spec_AtanI r168) fun r169 => r169 else (bif (decide (a0.val < 0)) then bindP (F_spec_l05At a0) fun r170 => bindP (F_spec_l05At a1) fun r171 => bindP (F_spec_DivI r170 r171) fun r172 => bindP (F_spec_AtanI r172) fun r173 => bindP (F_spec_TurnI (c64 (-2))) fun r174 => bindP (F_spec_AddI r173 r174) fun r175 => r175 else bindP (F_spec_l05At a0) fun r176 => bindP (F_spec_l05At a1) fun r177 => bindP (F_spec_DivI r176 r177) fun r178 => bindP (F_spec_AtanI r178) fun r179 => bindP (F_spec_TurnI (c64 2)) fun r180 => bindP (F_spec_AddI r179 r180) fun r181 => r181))))))) (((((((((start Tryz.prog E Tryz.f206 400 [] #[vI a0, vI a1]).after (vB r1)).no).path [false]).after (vB r3)).path [false, false]).no).path [false, false]).no) := by
 refine Run.z [false, false, false, false, false] ?_
 refine Run.y (gv := vIv) (fun _ => ?_) (fun _ => ?_)
 ·refine Run.y (gv := vIv) (fun _ => ?_) (fun _ => ?_)
  ·refine Run.z [true, true, true, true] ?_
   refine Run.y (gv := vIv) (fun _ => ?_) (fun _ => ?_)
   ·refine Run.y (gv := vIv) (fun _ => ?_) (fun _ => ?_)
    ·refine Run.q (e := vIv) (gv := vIv) (ok_spec_TurnI _) fun r94 _ => ?_
     refine Run.q (e := vIv) (gv := vIv) (ok_spec_l05At _) fun r95 _ => ?_
     refine Run.q (e := vIv) (gv := vIv) (ok_spec_l05At _) fun r96 _ => ?_
     refine Run.q (e := vIv) (gv := vIv) (ok_spec_DivI _ _) fun r97 _ => ?_
     refine Run.q (e := vIv) (gv := vIv) (ok_spec_AtanI _) fun r98 _ => ?_
     refine Run.q (e := vIv) (gv := vIv) (ok_spec_SubI _ _) fun r99 _ => ?_
     exact Run.x 0
    ·refine Run.q (e := vIv) (gv := vIv) (ok_spec_TurnI _) fun r100 _ => ?_
     refine Run.q (e := vIv) (gv := vIv) (ok_spec_l05At _) fun r101 _ => ?_
     refine Run.q (e := vIv) (gv := vIv) (ok_spec_l05At _) fun r102 _ => ?_
     refine Run.q (e := vIv) (gv := vIv) (ok_spec_DivI _ _) fun r103 _ => ?_
     refine Run.q (e := vIv) (gv := vIv) (ok_spec_AtanI _) fun r104 _ => ?_
     refine Run.q (e := vIv) (gv := vIv) (ok_spec_SubI _ _) fun r105 _ => ?_
     exact Run.x 0
   ·refine Run.y (gv := vIv) (fun _ => ?_) (fun _ => ?_)
    ·refine Run.q (e := vIv) (gv := vIv) (ok_spec_l05At _) fun r106 _ => ?_
     refine Run.q (e := vIv) (gv := vIv) (ok_spec_l05At _) fun r107 _ => ?_
     refine Run.q (e := vIv) (gv := vIv) (ok_spec_DivI _ _) fun r108 _ => ?_
     refine Run.q (e := vIv) (gv := vIv) (ok_spec_AtanI _) fun r109 _ => ?_
     exact Run.x 0
    ·refine Run.y (gv := vIv) (fun _ => ?_) (fun _ => ?_)
     ·refine Run.q (e := vIv) (gv := vIv) (ok_spec_l05At _) fun r110 _ => ?_
      refine Run.q (e := vIv) (gv := vIv) (ok_spec_l05At _) fun r111 _ => ?_
      refine Run.q (e := vIv) (gv := vIv) (ok_spec_DivI _ _) fun r112 _ => ?_
      refine Run.q (e := vIv) (gv := vIv) (ok_spec_AtanI _) fun r113 _ => ?_
      refine Run.q (e := vIv) (gv := vIv) (ok_spec_TurnI _) fun r114 _ => ?_
      refine Run.q (e := vIv) (gv := vIv) (ok_spec_AddI _ _) fun r115 _ => ?_
      exact Run.x 0
     ·refine Run.q (e := vIv) (gv := vIv) (ok_spec_l05At _) fun r116 _ => ?_
      refine Run.q (e := vIv) (gv := vIv) (ok_spec_l05At _) fun r117 _ => ?_
      refine Run.q (e := vIv) (gv := vIv) (ok_spec_DivI _ _) fun r118 _ => ?_
      refine Run.q (e := vIv) (gv := vIv) (ok_spec_AtanI _) fun r119 _ => ?_
      refine Run.q (e := vIv) (gv := vIv) (ok_spec_TurnI _) fun r120 _ => ?_
      refine Run.q (e := vIv) (gv := vIv) (ok_spec_AddI _ _) fun r121 _ => ?_
      exact Run.x 0
  ·refine Run.z [false, false, false, false, false] ?_
   refine Run.y (gv := vIv) (fun _ => ?_) (fun _ => ?_)
   ·refine Run.q (e := vIv) (gv := vIv) (ok_spec_l05At _) fun r122 _ => ?_
    refine Run.q (e := vIv) (gv := vIv) (ok_spec_l05At _) fun r123 _ => ?_
    refine Run.q (e := vIv) (gv := vIv) (ok_spec_DivI _ _) fun r124 _ => ?_
    refine Run.q (e := vIv) (gv := vIv) (ok_spec_AtanI _) fun r125 _ => ?_
    exact Run.x 0
   ·refine Run.y (gv := vIv) (fun _ => ?_) (fun _ => ?_)
    ·refine Run.q (e := vIv) (gv := vIv) (ok_spec_l05At _) fun r126 _ => ?_
     refine Run.q (e := vIv) (gv := vIv) (ok_spec_l05At _) fun r127 _ => ?_
     refine Run.q (e := vIv) (gv := vIv) (ok_spec_DivI _ _) fun r128 _ => ?_
     refine Run.q (e := vIv) (gv := vIv) (ok_spec_AtanI _) fun r129 _ => ?_
     refine Run.q (e := vIv) (gv := vIv) (ok_spec_TurnI _) fun r130 _ => ?_
     refine Run.q (e := vIv) (gv := vIv) (ok_spec_AddI _ _) fun r131 _ => ?_
     exact Run.x 0
    ·refine Run.q (e := vIv) (gv := vIv) (ok_spec_l05At _) fun r132 _ => ?_
     refine Run.q (e := vIv) (gv := vIv) (ok_spec_l05At _) fun r133 _ => ?_
     refine Run.q (e := vIv) (gv := vIv) (ok_spec_DivI _ _) fun r134 _ => ?_
     refine Run.q (e := vIv) (gv := vIv) (ok_spec_AtanI _) fun r135 _ => ?_
     refine Run.q (e := vIv) (gv := vIv) (ok_spec_TurnI _) fun r136 _ => ?_
     refine Run.q (e := vIv) (gv := vIv) (ok_spec_AddI _ _) fun r137 _ => ?_
     exact Run.x 0
 ·refine Run.y (gv := vIv) (fun _ => ?_) (fun _ => ?_)
  ·refine Run.z [true, true, true, true] ?_
   refine Run.y (gv := vIv) (fun _ => ?_) (fun _ => ?_)
   ·refine Run.y (gv := vIv) (fun _ => ?_) (fun _ => ?_)
    ·refine Run.q (e := vIv) (gv := vIv) (ok_spec_TurnI _) fun r138 _ => ?_
     refine Run.q (e := vIv) (gv := vIv) (ok_spec_l05At _) fun r139 _ => ?_
     refine Run.q (e := vIv) (gv := vIv) (ok_spec_l05At _) fun r140 _ => ?_
     refine Run.q (e := vIv) (gv := vIv) (ok_spec_DivI _ _) fun r141 _ => ?_
     refine Run.q (e := vIv) (gv := vIv) (ok_spec_AtanI _) fun r142 _ => ?_
     refine Run.q (e := vIv) (gv := vIv) (ok_spec_SubI _ _) fun r143 _ => ?_
     exact Run.x 0
    ·refine Run.q (e := vIv) (gv := vIv) (ok_spec_TurnI _) fun r144 _ => ?_
     refine Run.q (e := vIv) (gv := vIv) (ok_spec_l05At _) fun r145 _ => ?_
     refine Run.q (e := vIv) (gv := vIv) (ok_spec_l05At _) fun r146 _ => ?_
     refine Run.q (e := vIv) (gv := vIv) (ok_spec_DivI _ _) fun r147 _ => ?_
     refine Run.q (e := vIv) (gv := vIv) (ok_spec_AtanI _) fun r148 _ => ?_
     refine Run.q (e := vIv) (gv := vIv) (ok_spec_SubI _ _) fun r149 _ => ?_
     exact Run.x 0
   ·refine Run.y (gv := vIv) (fun _ => ?_) (fun _ => ?_)
    ·refine Run.q (e := vIv) (gv := vIv) (ok_spec_l05At _) fun r150 _ => ?_
     refine Run.q (e := vIv) (gv := vIv) (ok_spec_l05At _) fun r151 _ => ?_
     refine Run.q (e := vIv) (gv := vIv) (ok_spec_DivI _ _) fun r152 _ => ?_
     refine Run.q (e := vIv) (gv := vIv) (ok_spec_AtanI _) fun r153 _ => ?_
     exact Run.x 0
    ·refine Run.y (gv := vIv) (fun _ => ?_) (fun _ => ?_)
     ·refine Run.q (e := vIv) (gv := vIv) (ok_spec_l05At _) fun r154 _ => ?_
      refine Run.q (e := vIv) (gv := vIv) (ok_spec_l05At _) fun r155 _ => ?_
      refine Run.q (e := vIv) (gv := vIv) (ok_spec_DivI _ _) fun r156 _ => ?_
      refine Run.q (e := vIv) (gv := vIv) (ok_spec_AtanI _) fun r157 _ => ?_
      refine Run.q (e := vIv) (gv := vIv) (ok_spec_TurnI _) fun r158 _ => ?_
      refine Run.q (e := vIv) (gv := vIv) (ok_spec_AddI _ _) fun r159 _ => ?_
      exact Run.x 0
     ·refine Run.q (e := vIv) (gv := vIv) (ok_spec_l05At _) fun r160 _ => ?_
      refine Run.q (e := vIv) (gv := vIv) (ok_spec_l05At _) fun r161 _ => ?_
      refine Run.q (e := vIv) (gv := vIv) (ok_spec_DivI _ _) fun r162 _ => ?_
      refine Run.q (e := vIv) (gv := vIv) (ok_spec_AtanI _) fun r163 _ => ?_
      refine Run.q (e := vIv) (gv := vIv) (ok_spec_TurnI _) fun r164 _ => ?_
      refine Run.q (e := vIv) (gv := vIv) (ok_spec_AddI _ _) fun r165 _ => ?_
      exact Run.x 0
  ·refine Run.z [false, false, false, false, false] ?_
   refine Run.y (gv := vIv) (fun _ => ?_) (fun _ => ?_)
   ·refine Run.q (e := vIv) (gv := vIv) (ok_spec_l05At _) fun r166 _ => ?_
    refine Run.q (e := vIv) (gv := vIv) (ok_spec_l05At _) fun r167 _ => ?_
    refine Run.q (e := vIv) (gv := vIv) (ok_spec_DivI _ _) fun r168 _ => ?_
    refine Run.q (e := vIv) (gv := vIv) (ok_spec_AtanI _) fun r169 _ => ?_
    exact Run.x 0
   ·refine Run.y (gv := vIv) (fun _ => ?_) (fun _ => ?_)
    ·refine Run.q (e := vIv) (gv := vIv) (ok_spec_l05At _) fun r170 _ => ?_
     refine Run.q (e := vIv) (gv := vIv) (ok_spec_l05At _) fun r171 _ => ?_
     refine Run.q (e := vIv) (gv := vIv) (ok_spec_DivI _ _) fun r172 _ => ?_
     refine Run.q (e := vIv) (gv := vIv) (ok_spec_AtanI _) fun r173 _ => ?_
     refine Run.q (e := vIv) (gv := vIv) (ok_spec_TurnI _) fun r174 _ => ?_
     refine Run.q (e := vIv) (gv := vIv) (ok_spec_AddI _ _) fun r175 _ => ?_
     exact Run.x 0
    ·refine Run.q (e := vIv) (gv := vIv) (ok_spec_l05At _) fun r176 _ => ?_
     refine Run.q (e := vIv) (gv := vIv) (ok_spec_l05At _) fun r177 _ => ?_
     refine Run.q (e := vIv) (gv := vIv) (ok_spec_DivI _ _) fun r178 _ => ?_
     refine Run.q (e := vIv) (gv := vIv) (ok_spec_AtanI _) fun r179 _ => ?_
     refine Run.q (e := vIv) (gv := vIv) (ok_spec_TurnI _) fun r180 _ => ?_
     refine Run.q (e := vIv) (gv := vIv) (ok_spec_AddI _ _) fun r181 _ => ?_
     exact Run.x 0

theorem ok_spec_DirectionAt (a0 : I64) (a1 : I64) : Fun Tryz.prog 206 [] #[vI a0, vI a1] (vIv (F_spec_DirectionAt a0 a1)) [] := by
 refine Fun.ofH 400 E_ok mixed Tryz.func206 (by kernel_rfl) (by kernel_rfl) ?_
 unfold F_spec_DirectionAt
 refine Run.q (e := vB) (gv := vIv) (ok_spec_l07Fix _) fun r1 _ => ?_
 refine Run.y (gv := vIv) (fun _ => ?_) (fun _ => ?_)
 ·refine Run.z [true, true, true, true, true, true, true, true, true] ?_
  refine Run.q (e := vIv) (gv := vIv) (ok_spec_Whole) fun r2 _ => ?_
  exact Run.x 0
 ·refine Run.z [false] ?_
  refine Run.q (e := vB) (gv := vIv) (ok_spec_l07Fix _) fun r3 _ => ?_
  refine Run.z [false, false] ?_
  refine Run.y (gv := vIv) (fun _ => ?_) (fun _ => ?_)
  ·refine Run.z [true, true, true, true, true] ?_
   refine Run.q (e := vIv) (gv := vIv) (ok_spec_Whole) fun r4 _ => ?_
   exact Run.x 0
  ·refine Run.z [false, false] ?_
   refine Run.y (gv := vIv) (fun _ => ?_) (fun _ => ?_)
   ·refine Run.z [true, false, true, false] ?_
    refine Run.y (gv := vIv) (fun _ => ?_) (fun _ => ?_)
    ·refine Run.q (e := vIv) (gv := vIv) (ok_spec_Whole) fun r5 _ => ?_
     exact Run.x 0
    ·exact ok_spec_DirectionAt_cut1 a0 a1 r1 r3
   ·exact ok_spec_DirectionAt_cut2 a0 a1 r1 r3

theorem ok_spec_DirectionI (a0 : Iv) (a1 : Iv) : Fun Tryz.prog 125 [] #[vIv a0, vIv a1] (vIv (F_spec_DirectionI a0 a1)) [] := by
 refine Fun.ofH 400 E_ok mixed Tryz.func125 (by kernel_rfl) (by kernel_rfl) ?_
 unfold F_spec_DirectionI
 refine Run.q (e := vB) (gv := vIv) (ok_spec_IsWhole _) fun r1 _ => ?_
 refine Run.y (gv := vIv) (fun _ => ?_) (fun _ => ?_)
 ·refine Run.z [true, true, true, true, true, true, true, true, true, true, true, true, true, true, true, true] ?_
  refine Run.q (e := vIv) (gv := vIv) (ok_spec_Whole) fun r2 _ => ?_
  exact Run.x 0
 ·refine Run.z [false] ?_
  refine Run.q (e := vB) (gv := vIv) (ok_spec_IsWhole _) fun r3 _ => ?_
  refine Run.z [false] ?_
  refine Run.y (gv := vIv) (fun _ => ?_) (fun _ => ?_)
  ·refine Run.z [true, true, true, true, true, true, true, true, true, true, true, true, true] ?_
   refine Run.q (e := vIv) (gv := vIv) (ok_spec_Whole) fun r4 _ => ?_
   exact Run.x 0
  ·refine Run.z [false] ?_
   refine Run.q (e := vB) (gv := vIv) (ok_spec_HasI _ _) fun r5 _ => ?_
   refine Run.z [false] ?_
   refine Run.y (gv := vIv) (fun _ => ?_) (fun _ => ?_)
   ·refine Run.z [true] ?_
    refine Run.q (e := vB) (gv := vIv) (ok_spec_HasI _ _) fun r6 _ => ?_
    refine Run.z [false, true, false] ?_
    refine Run.y (gv := vIv) (fun _ => ?_) (fun _ => ?_)
    ·refine Run.z [true, true, true, true, true, true, true, true] ?_
     refine Run.q (e := vIv) (gv := vIv) (ok_spec_Whole) fun r7 _ => ?_
     exact Run.x 0
    ·refine Run.z [false, false, false] ?_
     refine Run.y (gv := vIv) (fun _ => ?_) (fun _ => ?_)
     ·refine Run.z [true, true, false, true, false] ?_
      refine Run.y (gv := vIv) (fun _ => ?_) (fun _ => ?_)
      ·refine Run.z [true, true, false, true, false] ?_
       refine Run.y (gv := vIv) (fun _ => ?_) (fun _ => ?_)
       ·refine Run.q (e := vIv) (gv := vIv) (ok_spec_Whole) fun r8 _ => ?_
        exact Run.x 0
       ·refine Run.q (e := vIv) (gv := vIv) (ok_spec_DirectionAt _ _) fun r9 _ => ?_
        refine Run.q (e := vIv) (gv := vIv) (ok_spec_DirectionAt _ _) fun r10 _ => ?_
        refine Run.q (e := vIv) (gv := vIv) (ok_spec_HullI _ _) fun r11 _ => ?_
        refine Run.q (e := vIv) (gv := vIv) (ok_spec_DirectionAt _ _) fun r12 _ => ?_
        refine Run.q (e := vIv) (gv := vIv) (ok_spec_DirectionAt _ _) fun r13 _ => ?_
        refine Run.q (e := vIv) (gv := vIv) (ok_spec_HullI _ _) fun r14 _ => ?_
        refine Run.q (e := vIv) (gv := vIv) (ok_spec_HullI _ _) fun r15 _ => ?_
        exact Run.x 0
      ·refine Run.z [false, false, false, false, false, false] ?_
       refine Run.q (e := vIv) (gv := vIv) (ok_spec_DirectionAt _ _) fun r16 _ => ?_
       refine Run.q (e := vIv) (gv := vIv) (ok_spec_DirectionAt _ _) fun r17 _ => ?_
       refine Run.q (e := vIv) (gv := vIv) (ok_spec_HullI _ _) fun r18 _ => ?_
       refine Run.q (e := vIv) (gv := vIv) (ok_spec_DirectionAt _ _) fun r19 _ => ?_
       refine Run.q (e := vIv) (gv := vIv) (ok_spec_DirectionAt _ _) fun r20 _ => ?_
       refine Run.q (e := vIv) (gv := vIv) (ok_spec_HullI _ _) fun r21 _ => ?_
       refine Run.q (e := vIv) (gv := vIv) (ok_spec_HullI _ _) fun r22 _ => ?_
       exact Run.x 0
     ·refine Run.z [false, false, false, false, false, false, false, false, false, false, false, false] ?_
      refine Run.q (e := vIv) (gv := vIv) (ok_spec_DirectionAt _ _) fun r23 _ => ?_
      refine Run.q (e := vIv) (gv := vIv) (ok_spec_DirectionAt _ _) fun r24 _ => ?_
      refine Run.q (e := vIv) (gv := vIv) (ok_spec_HullI _ _) fun r25 _ => ?_
      refine Run.q (e := vIv) (gv := vIv) (ok_spec_DirectionAt _ _) fun r26 _ => ?_
      refine Run.q (e := vIv) (gv := vIv) (ok_spec_DirectionAt _ _) fun r27 _ => ?_
      refine Run.q (e := vIv) (gv := vIv) (ok_spec_HullI _ _) fun r28 _ => ?_
      refine Run.q (e := vIv) (gv := vIv) (ok_spec_HullI _ _) fun r29 _ => ?_
      exact Run.x 0
   ·refine Run.z [false, false, false, false, false, false, false, false] ?_
    refine Run.y (gv := vIv) (fun _ => ?_) (fun _ => ?_)
    ·refine Run.z [true, true, false, true, false] ?_
     refine Run.y (gv := vIv) (fun _ => ?_) (fun _ => ?_)
     ·refine Run.z [true, true, false, true, false] ?_
      refine Run.y (gv := vIv) (fun _ => ?_) (fun _ => ?_)
      ·refine Run.q (e := vIv) (gv := vIv) (ok_spec_Whole) fun r30 _ => ?_
       exact Run.x 0
      ·refine Run.q (e := vIv) (gv := vIv) (ok_spec_DirectionAt _ _) fun r31 _ => ?_
       refine Run.q (e := vIv) (gv := vIv) (ok_spec_DirectionAt _ _) fun r32 _ => ?_
       refine Run.q (e := vIv) (gv := vIv) (ok_spec_HullI _ _) fun r33 _ => ?_
       refine Run.q (e := vIv) (gv := vIv) (ok_spec_DirectionAt _ _) fun r34 _ => ?_
       refine Run.q (e := vIv) (gv := vIv) (ok_spec_DirectionAt _ _) fun r35 _ => ?_
       refine Run.q (e := vIv) (gv := vIv) (ok_spec_HullI _ _) fun r36 _ => ?_
       refine Run.q (e := vIv) (gv := vIv) (ok_spec_HullI _ _) fun r37 _ => ?_
       exact Run.x 0
     ·refine Run.z [false, false, false, false, false, false] ?_
      refine Run.q (e := vIv) (gv := vIv) (ok_spec_DirectionAt _ _) fun r38 _ => ?_
      refine Run.q (e := vIv) (gv := vIv) (ok_spec_DirectionAt _ _) fun r39 _ => ?_
      refine Run.q (e := vIv) (gv := vIv) (ok_spec_HullI _ _) fun r40 _ => ?_
      refine Run.q (e := vIv) (gv := vIv) (ok_spec_DirectionAt _ _) fun r41 _ => ?_
      refine Run.q (e := vIv) (gv := vIv) (ok_spec_DirectionAt _ _) fun r42 _ => ?_
      refine Run.q (e := vIv) (gv := vIv) (ok_spec_HullI _ _) fun r43 _ => ?_
      refine Run.q (e := vIv) (gv := vIv) (ok_spec_HullI _ _) fun r44 _ => ?_
      exact Run.x 0
    ·refine Run.z [false, false, false, false, false, false, false, false, false, false, false, false] ?_
     refine Run.q (e := vIv) (gv := vIv) (ok_spec_DirectionAt _ _) fun r45 _ => ?_
     refine Run.q (e := vIv) (gv := vIv) (ok_spec_DirectionAt _ _) fun r46 _ => ?_
     refine Run.q (e := vIv) (gv := vIv) (ok_spec_HullI _ _) fun r47 _ => ?_
     refine Run.q (e := vIv) (gv := vIv) (ok_spec_DirectionAt _ _) fun r48 _ => ?_
     refine Run.q (e := vIv) (gv := vIv) (ok_spec_DirectionAt _ _) fun r49 _ => ?_
     refine Run.q (e := vIv) (gv := vIv) (ok_spec_HullI _ _) fun r50 _ => ?_
     refine Run.q (e := vIv) (gv := vIv) (ok_spec_HullI _ _) fun r51 _ => ?_
     exact Run.x 0

theorem ok_spec_l15Known (a0 : Iv) : Fun Tryz.prog 124 [] #[vIv a0] (vT_Iv_I (F_spec_l15Known a0)) [] := by
 refine Fun.ofH 400 E_ok mixed Tryz.func124 (by kernel_rfl) (by kernel_rfl) ?_
 unfold F_spec_l15Known
 refine Run.q (e := vB) (gv := vT_Iv_I) (ok_spec_IsWhole _) fun r1 _ => ?_
 refine Run.y (gv := vT_Iv_I) (fun _ => ?_) (fun _ => ?_)
 ·exact Run.x 0
 ·exact Run.x 0

theorem ok_spec_AzimuthTo (a0 : Pt) (a1 : Pt) : Fun Tryz.prog 37 [] #[vPt a0, vPt a1] (vT_Iv_I (F_spec_AzimuthTo a0 a1)) [] := by
 refine Fun.ofH 400 E_ok mixed Tryz.func37 (by kernel_rfl) (by kernel_rfl) ?_
 unfold F_spec_AzimuthTo
 refine Run.q (e := vB) (gv := vT_Iv_I) (ok_spec_l11Ok _) fun r1 _ => ?_
 refine Run.y (gv := vT_Iv_I) (fun _ => ?_) (fun _ => ?_)
 ·refine Run.z [true, true, true, true] ?_
  exact Run.x 0
 ·refine Run.z [false] ?_
  refine Run.q (e := vB) (gv := vT_Iv_I) (ok_spec_l11Ok _) fun r2 _ => ?_
  refine Run.z [false, false] ?_
  refine Run.y (gv := vT_Iv_I) (fun _ => ?_) (fun _ => ?_)
  ·exact Run.x 0
  ·refine Run.q (e := vIv) (gv := vT_Iv_I) (ok_spec_RadiansOf _) fun r3 _ => ?_
   refine Run.q (e := vIv) (gv := vT_Iv_I) (ok_spec_RadiansOf _) fun r4 _ => ?_
   refine Run.q (e := vI) (gv := vT_Iv_I) (ok_spec_l11Wrap _) fun r5 _ => ?_
   refine Run.q (e := vIv) (gv := vT_Iv_I) (ok_spec_RadiansOf _) fun r6 _ => ?_
   refine Run.q (e := vIv) (gv := vT_Iv_I) (ok_spec_CosI _) fun r7 _ => ?_
   refine Run.q (e := vIv) (gv := vT_Iv_I) (ok_spec_SinI _) fun r8 _ => ?_
   refine Run.q (e := vIv) (gv := vT_Iv_I) (ok_spec_MulI _ _) fun r9 _ => ?_
   refine Run.q (e := vIv) (gv := vT_Iv_I) (ok_spec_CosI _) fun r10 _ => ?_
   refine Run.q (e := vIv) (gv := vT_Iv_I) (ok_spec_SinI _) fun r11 _ => ?_
   refine Run.q (e := vIv) (gv := vT_Iv_I) (ok_spec_MulI _ _) fun r12 _ => ?_
   refine Run.q (e := vIv) (gv := vT_Iv_I) (ok_spec_SinI _) fun r13 _ => ?_
   refine Run.q (e := vIv) (gv := vT_Iv_I) (ok_spec_CosI _) fun r14 _ => ?_
   refine Run.q (e := vIv) (gv := vT_Iv_I) (ok_spec_MulI _ _) fun r15 _ => ?_
   refine Run.q (e := vIv) (gv := vT_Iv_I) (ok_spec_CosI _) fun r16 _ => ?_
   refine Run.q (e := vIv) (gv := vT_Iv_I) (ok_spec_MulI _ _) fun r17 _ => ?_
   refine Run.q (e := vIv) (gv := vT_Iv_I) (ok_spec_SubI _ _) fun r18 _ => ?_
   refine Run.q (e := vIv) (gv := vT_Iv_I) (ok_spec_DirectionI _ _) fun r19 _ => ?_
   refine Run.q (e := vT_Iv_I) (gv := vT_Iv_I) (ok_spec_l15Known _) fun r20 _ => ?_
   exact Run.x 0

theorem ok_spec_l15Vec (a0 : Pt) : Fun Tryz.prog 127 [] #[vPt a0] (vVc (F_spec_l15Vec a0)) [] := by
 refine Fun.ofH 400 E_ok mixed Tryz.func127 (by kernel_rfl) (by kernel_rfl) ?_
 unfold F_spec_l15Vec
 refine Run.q (e := vIv) (gv := vVc) (ok_spec_RadiansOf _) fun r1 _ => ?_
 refine Run.q (e := vIv) (gv := vVc) (ok_spec_RadiansOf _) fun r2 _ => ?_
 refine Run.q (e := vIv) (gv := vVc) (ok_spec_CosI _) fun r3 _ => ?_
 refine Run.q (e := vIv) (gv := vVc) (ok_spec_CosI _) fun r4 _ => ?_
 refine Run.q (e := vIv) (gv := vVc) (ok_spec_MulI _ _) fun r5 _ => ?_
 refine Run.q (e := vIv) (gv := vVc) (ok_spec_SinI _) fun r6 _ => ?_
 refine Run.q (e := vIv) (gv := vVc) (ok_spec_MulI _ _) fun r7 _ => ?_
 refine Run.q (e := vIv) (gv := vVc) (ok_spec_SinI _) fun r8 _ => ?_
 exact Run.x 0

theorem ok_spec_CrossV (a0 : Vc) (a1 : Vc) : Fun Tryz.prog 208 [] #[vVc a0, vVc a1] (vVc (F_spec_CrossV a0 a1)) [] := by
 refine Fun.ofH 400 E_ok mixed Tryz.func208 (by kernel_rfl) (by kernel_rfl) ?_
 unfold F_spec_CrossV
 refine Run.q (e := vIv) (gv := vVc) (ok_spec_MulI _ _) fun r1 _ => ?_
 refine Run.q (e := vIv) (gv := vVc) (ok_spec_MulI _ _) fun r2 _ => ?_
 refine Run.q (e := vIv) (gv := vVc) (ok_spec_SubI _ _) fun r3 _ => ?_
 refine Run.q (e := vIv) (gv := vVc) (ok_spec_MulI _ _) fun r4 _ => ?_
 refine Run.q (e := vIv) (gv := vVc) (ok_spec_MulI _ _) fun r5 _ => ?_
 refine Run.q (e := vIv) (gv := vVc) (ok_spec_SubI _ _) fun r6 _ => ?_
 refine Run.q (e := vIv) (gv := vVc) (ok_spec_MulI _ _) fun r7 _ => ?_
 refine Run.q (e := vIv) (gv := vVc) (ok_spec_MulI _ _) fun r8 _ => ?_
 refine Run.q (e := vIv) (gv := vVc) (ok_spec_SubI _ _) fun r9 _ => ?_
 exact Run.x 0

theorem ok_spec_AbsI (a0 : Iv) : Fun Tryz.prog 300 [] #[vIv a0] (vIv (F_spec_AbsI a0)) [] := by
 refine Fun.ofH 400 E_ok mixed Tryz.func300 (by kernel_rfl) (by kernel_rfl) ?_
 unfold F_spec_AbsI
 refine Run.q (e := vB) (gv := vIv) (ok_spec_l04Ok _) fun r1 _ => ?_
 refine Run.y (gv := vIv) (fun _ => ?_) (fun _ => ?_)
 ·refine Run.q (e := vIv) (gv := vIv) (ok_spec_l04Whole) fun r2 _ => ?_
  exact Run.x 0
 ·refine Run.q (e := vT_I_I) (gv := vIv) (ok_spec_l04Ends _) fun r3 _ => ?_
  refine Run.q (e := vIv) (gv := vIv) (ok_spec_l04Make _ _) fun r4 _ => ?_
  exact Run.x 0

theorem ok_spec_l10Ends (a0 : Iv) : Fun Tryz.prog 264 [] #[vIv a0] (vT_I_I (F_spec_l10Ends a0)) [] := by
 refine Fun.ofH 400 E_ok mixed Tryz.func264 (by kernel_rfl) (by kernel_rfl) ?_
 unfold F_spec_l10Ends
 refine Run.q (e := vIv) (gv := vT_I_I) (ok_spec_AbsI _) fun r1 _ => ?_
 exact Run.x 0

theorem ok_spec_l10Sum (a0 : I64) (a1 : I64) (a2 : I64) : Fun Tryz.prog 266 [] #[vI a0, vI a1, vI a2] (vWd (F_spec_l10Sum a0 a1 a2)) [] := by
 refine Fun.ofH 400 E_ok mixed Tryz.func266 (by kernel_rfl) (by kernel_rfl) ?_
 unfold F_spec_l10Sum
 refine Run.q (e := vWd) (gv := vWd) (ok_spec_l02Mul _ _) fun r1 _ => ?_
 refine Run.q (e := vWd) (gv := vWd) (ok_spec_l02Mul _ _) fun r2 _ => ?_
 refine Run.q (e := vWd) (gv := vWd) (ok_spec_l02Plus _ _) fun r3 _ => ?_
 refine Run.q (e := vWd) (gv := vWd) (ok_spec_l02Mul _ _) fun r4 _ => ?_
 refine Run.q (e := vWd) (gv := vWd) (ok_spec_l02Plus _ _) fun r5 _ => ?_
 exact Run.x 0

theorem ok_spec_NormV (a0 : Vc) : Fun Tryz.prog 207 [] #[vVc a0] (vIv (F_spec_NormV a0)) [] := by
 refine Fun.ofH 400 E_ok mixed Tryz.func207 (by kernel_rfl) (by kernel_rfl) ?_
 unfold F_spec_NormV
 refine Run.q (e := vB) (gv := vIv) (ok_spec_IsWhole _) fun r1 _ => ?_
 refine Run.y (gv := vIv) (fun _ => ?_) (fun _ => ?_)
 ·refine Run.z [true, true, true, true, true, true, true, true] ?_
  refine Run.q (e := vIv) (gv := vIv) (ok_spec_Whole) fun r2 _ => ?_
  exact Run.x 0
 ·refine Run.z [false, false] ?_
  refine Run.q (e := vB) (gv := vIv) (ok_spec_IsWhole _) fun r3 _ => ?_
  refine Run.z [false] ?_
  refine Run.y (gv := vIv) (fun _ => ?_) (fun _ => ?_)
  ·refine Run.z [true, true, true, true] ?_
   refine Run.q (e := vIv) (gv := vIv) (ok_spec_Whole) fun r4 _ => ?_
   exact Run.x 0
  ·refine Run.z [false, false] ?_
   refine Run.q (e := vB) (gv := vIv) (ok_spec_IsWhole _) fun r5 _ => ?_
   refine Run.z [false] ?_
   refine Run.y (gv := vIv) (fun _ => ?_) (fun _ => ?_)
   ·refine Run.q (e := vIv) (gv := vIv) (ok_spec_Whole) fun r6 _ => ?_
    exact Run.x 0
   ·refine Run.q (e := vT_I_I) (gv := vIv) (ok_spec_l10Ends _) fun r7 _ => ?_
    refine Run.q (e := vT_I_I) (gv := vIv) (ok_spec_l10Ends _) fun r8 _ => ?_
    refine Run.q (e := vT_I_I) (gv := vIv) (ok_spec_l10Ends _) fun r9 _ => ?_
    refine Run.q (e := vWd) (gv := vIv) (ok_spec_l10Sum _ _ _) fun r10 _ => ?_
    refine Run.q (e := vU) (gv := vIv) (ok_spec_l02Root _) fun r11 _ => ?_
    refine Run.q (e := vWd) (gv := vIv) (ok_spec_l10Sum _ _ _) fun r12 _ => ?_
    refine Run.q (e := vU) (gv := vIv) (ok_spec_l02Root _) fun r13 _ => ?_
    refine Run.q (e := vWd) (gv := vIv) (ok_spec_l02Mul _ _) fun r14 _ => ?_
    refine Run.y (gv := vIv) (fun _ => ?_) (fun _ => ?_)
    ·refine Run.y (gv := vIv) (fun _ => ?_) (fun _ => ?_)
     ·refine Run.q (e := vIv) (gv := vIv) (ok_spec_Whole) fun r15 _ => ?_
      exact Run.x 0
     ·exact Run.x 0
    ·refine Run.y (gv := vIv) (fun _ => ?_) (fun _ => ?_)
     ·refine Run.q (e := vIv) (gv := vIv) (ok_spec_Whole) fun r16 _ => ?_
      exact Run.x 0
     ·exact Run.x 0

theorem ok_spec_DotV (a0 : Vc) (a1 : Vc) : Fun Tryz.prog 209 [] #[vVc a0, vVc a1] (vIv (F_spec_DotV a0 a1)) [] := by
 refine Fun.ofH 400 E_ok mixed Tryz.func209 (by kernel_rfl) (by kernel_rfl) ?_
 unfold F_spec_DotV
 refine Run.q (e := vIv) (gv := vIv) (ok_spec_MulI _ _) fun r1 _ => ?_
 refine Run.q (e := vIv) (gv := vIv) (ok_spec_MulI _ _) fun r2 _ => ?_
 refine Run.q (e := vIv) (gv := vIv) (ok_spec_AddI _ _) fun r3 _ => ?_
 refine Run.q (e := vIv) (gv := vIv) (ok_spec_MulI _ _) fun r4 _ => ?_
 refine Run.q (e := vIv) (gv := vIv) (ok_spec_AddI _ _) fun r5 _ => ?_
 exact Run.x 0

theorem ok_spec_l15Angle (a0 : Vc) (a1 : Vc) : Fun Tryz.prog 126 [] #[vVc a0, vVc a1] (vIv (F_spec_l15Angle a0 a1)) [] := by
 refine Fun.ofH 400 E_ok mixed Tryz.func126 (by kernel_rfl) (by kernel_rfl) ?_
 unfold F_spec_l15Angle
 refine Run.q (e := vVc) (gv := vIv) (ok_spec_CrossV _ _) fun r1 _ => ?_
 refine Run.q (e := vIv) (gv := vIv) (ok_spec_NormV _) fun r2 _ => ?_
 refine Run.q (e := vIv) (gv := vIv) (ok_spec_DotV _ _) fun r3 _ => ?_
 refine Run.q (e := vIv) (gv := vIv) (ok_spec_DirectionI _ _) fun r4 _ => ?_
 exact Run.x 0

theorem ok_spec_AngleBetween (a0 : Pt) (a1 : Pt) : Fun Tryz.prog 38 [] #[vPt a0, vPt a1] (vT_Iv_I (F_spec_AngleBetween a0 a1)) [] := by
 refine Fun.ofH 400 E_ok mixed Tryz.func38 (by kernel_rfl) (by kernel_rfl) ?_
 unfold F_spec_AngleBetween
 refine Run.q (e := vB) (gv := vT_Iv_I) (ok_spec_l11Ok _) fun r1 _ => ?_
 refine Run.y (gv := vT_Iv_I) (fun _ => ?_) (fun _ => ?_)
 ·refine Run.z [true, true, true, true] ?_
  exact Run.x 0
 ·refine Run.z [false] ?_
  refine Run.q (e := vB) (gv := vT_Iv_I) (ok_spec_l11Ok _) fun r2 _ => ?_
  refine Run.z [false, false] ?_
  refine Run.y (gv := vT_Iv_I) (fun _ => ?_) (fun _ => ?_)
  ·exact Run.x 0
  ·refine Run.q (e := vVc) (gv := vT_Iv_I) (ok_spec_l15Vec _) fun r3 _ => ?_
   refine Run.q (e := vVc) (gv := vT_Iv_I) (ok_spec_l15Vec _) fun r4 _ => ?_
   refine Run.q (e := vIv) (gv := vT_Iv_I) (ok_spec_l15Angle _ _) fun r5 _ => ?_
   refine Run.q (e := vT_Iv_I) (gv := vT_Iv_I) (ok_spec_l15Known _) fun r6 _ => ?_
   exact Run.x 0

theorem ok_spec_l15Flat (a0 : Vc) : Fun Tryz.prog 211 [] #[vVc a0] (vIv (F_spec_l15Flat a0)) [] := by
 refine Fun.ofH 400 E_ok mixed Tryz.func211 (by kernel_rfl) (by kernel_rfl) ?_
 unfold F_spec_l15Flat
 refine Run.q (e := vIv) (gv := vIv) (ok_spec_NormV _) fun r1 _ => ?_
 exact Run.x 0

theorem ok_spec_PositionOf (a0 : Vc) : Fun Tryz.prog 130 [] #[vVc a0] (vT_Iv_Iv_I (F_spec_PositionOf a0)) [] := by
 refine Fun.ofH 400 E_ok mixed Tryz.func130 (by kernel_rfl) (by kernel_rfl) ?_
 unfold F_spec_PositionOf
 refine Run.q (e := vIv) (gv := vT_Iv_Iv_I) (ok_spec_l15Flat _) fun r1 _ => ?_
 refine Run.q (e := vIv) (gv := vT_Iv_Iv_I) (ok_spec_DirectionI _ _) fun r2 _ => ?_
 refine Run.q (e := vB) (gv := vT_Iv_Iv_I) (ok_spec_IsWhole _) fun r3 _ => ?_
 refine Run.y (gv := vT_Iv_Iv_I) (fun _ => ?_) (fun _ => ?_)
 ·exact Run.x 0
 ·refine Run.q (e := vIv) (gv := vT_Iv_Iv_I) (ok_spec_DirectionI _ _) fun r4 _ => ?_
  exact Run.x 0

theorem ok_spec_Destination (a0 : Pt) (a1 : Iv) (a2 : Iv) : Fun Tryz.prog 40 [] #[vPt a0, vIv a1, vIv a2] (vT_Iv_Iv_I (F_spec_Destination a0 a1 a2)) [] := by
 refine Fun.ofH 400 E_ok mixed Tryz.func40 (by kernel_rfl) (by kernel_rfl) ?_
 unfold F_spec_Destination
 refine Run.q (e := vB) (gv := vT_Iv_Iv_I) (ok_spec_l11Ok _) fun r1 _ => ?_
 refine Run.y (gv := vT_Iv_Iv_I) (fun _ => ?_) (fun _ => ?_)
 ·exact Run.x 0
 ·refine Run.q (e := vIv) (gv := vT_Iv_Iv_I) (ok_spec_RadiansOf _) fun r2 _ => ?_
  refine Run.q (e := vIv) (gv := vT_Iv_Iv_I) (ok_spec_SinI _) fun r3 _ => ?_
  refine Run.q (e := vIv) (gv := vT_Iv_Iv_I) (ok_spec_CosI _) fun r4 _ => ?_
  refine Run.q (e := vIv) (gv := vT_Iv_Iv_I) (ok_spec_SinI _) fun r5 _ => ?_
  refine Run.q (e := vIv) (gv := vT_Iv_Iv_I) (ok_spec_MulI _ _) fun r6 _ => ?_
  refine Run.q (e := vIv) (gv := vT_Iv_Iv_I) (ok_spec_CosI _) fun r7 _ => ?_
  refine Run.q (e := vIv) (gv := vT_Iv_Iv_I) (ok_spec_MulI _ _) fun r8 _ => ?_
  refine Run.q (e := vIv) (gv := vT_Iv_Iv_I) (ok_spec_SinI _) fun r9 _ => ?_
  refine Run.q (e := vIv) (gv := vT_Iv_Iv_I) (ok_spec_MulI _ _) fun r10 _ => ?_
  refine Run.q (e := vIv) (gv := vT_Iv_Iv_I) (ok_spec_CosI _) fun r11 _ => ?_
  refine Run.q (e := vIv) (gv := vT_Iv_Iv_I) (ok_spec_MulI _ _) fun r12 _ => ?_
  refine Run.q (e := vIv) (gv := vT_Iv_Iv_I) (ok_spec_SubI _ _) fun r13 _ => ?_
  refine Run.q (e := vIv) (gv := vT_Iv_Iv_I) (ok_spec_SinI _) fun r14 _ => ?_
  refine Run.q (e := vIv) (gv := vT_Iv_Iv_I) (ok_spec_MulI _ _) fun r15 _ => ?_
  refine Run.q (e := vIv) (gv := vT_Iv_Iv_I) (ok_spec_CosI _) fun r16 _ => ?_
  refine Run.q (e := vIv) (gv := vT_Iv_Iv_I) (ok_spec_MulI _ _) fun r17 _ => ?_
  refine Run.q (e := vIv) (gv := vT_Iv_Iv_I) (ok_spec_CosI _) fun r18 _ => ?_
  refine Run.q (e := vIv) (gv := vT_Iv_Iv_I) (ok_spec_MulI _ _) fun r19 _ => ?_
  refine Run.q (e := vIv) (gv := vT_Iv_Iv_I) (ok_spec_AddI _ _) fun r20 _ => ?_
  refine Run.q (e := vT_Iv_Iv_I) (gv := vT_Iv_Iv_I) (ok_spec_PositionOf _) fun r21 _ => ?_
  refine Run.y (gv := vT_Iv_Iv_I) (fun _ => ?_) (fun _ => ?_)
  ·exact Run.x 0
  ·refine Run.q (e := vIv) (gv := vT_Iv_Iv_I) (ok_spec_RadiansOf _) fun r22 _ => ?_
   refine Run.q (e := vIv) (gv := vT_Iv_Iv_I) (ok_spec_AddI _ _) fun r23 _ => ?_
   exact Run.x 0

theorem ok_spec_LatOf (a0 : Pt) : Fun Tryz.prog 16 [] #[vPt a0] (vIv (F_spec_LatOf a0)) [] := by
 refine Fun.ofH 400 E_ok mixed Tryz.func16 (by kernel_rfl) (by kernel_rfl) ?_
 unfold F_spec_LatOf
 refine Run.q (e := vB) (gv := vIv) (ok_spec_l11Ok _) fun r1 _ => ?_
 refine Run.y (gv := vIv) (fun _ => ?_) (fun _ => ?_)
 ·refine Run.q (e := vIv) (gv := vIv) (ok_spec_Whole) fun r2 _ => ?_
  exact Run.x 0
 ·refine Run.q (e := vIv) (gv := vIv) (ok_spec_RadiansOf _) fun r3 _ => ?_
  exact Run.x 0

theorem ok_spec_l11Pole (a0 : Pt) : Fun Tryz.prog 81 [] #[vPt a0] (vB (F_spec_l11Pole a0)) [] := by
 refine Fun.ofH 400 E_ok mixed Tryz.func81 (by kernel_rfl) (by kernel_rfl) ?_
 unfold F_spec_l11Pole
 refine Run.y (gv := vB) (fun _ => ?_) (fun _ => ?_)
 ·refine Run.z [true, true, true] ?_
  exact Run.x 0
 ·refine Run.z [false, false, false] ?_
  exact Run.x 0

theorem ok_spec_AtPoint (a0 : Iv) (a1 : Iv) (a2 : Pt) : Fun Tryz.prog 14 [] #[vIv a0, vIv a1, vPt a2] (vB (F_spec_AtPoint a0 a1 a2)) [] := by
 refine Fun.ofH 400 E_ok mixed Tryz.func14 (by kernel_rfl) (by kernel_rfl) ?_
 unfold F_spec_AtPoint
 refine Run.q (e := vB) (gv := vB) (ok_spec_l11Ok _) fun r1 _ => ?_
 refine Run.y (gv := vB) (fun _ => ?_) (fun _ => ?_)
 ·refine Run.z [true, true, true, true, true, true] ?_
  exact Run.x 0
 ·refine Run.z [false, false] ?_
  refine Run.q (e := vIv) (gv := vB) (ok_spec_LatOf _) fun r2 _ => ?_
  refine Run.z [false] ?_
  refine Run.q (e := vB) (gv := vB) (ok_spec_OverlapI _ _) fun r3 _ => ?_
  refine Run.z [false, false] ?_
  refine Run.y (gv := vB) (fun _ => ?_) (fun _ => ?_)
  ·exact Run.x 0
  ·refine Run.q (e := vB) (gv := vB) (ok_spec_l11Pole _) fun r4 _ => ?_
   refine Run.y (gv := vB) (fun _ => ?_) (fun _ => ?_)
   ·exact Run.x 0
   ·refine Run.u 400 E_ok mixed Tryz.func14 ?_
    refine Run.z [true] ?_
    refine Run.q (e := vIv) (gv := vB) (ok_spec_RadiansOf _) fun r5 _ => ?_
    refine Run.q (e := vB) (gv := vB) (ok_spec_OverlapI _ _) fun r6 _ => ?_
    refine Run.y (gv := vB) (fun _ => ?_) (fun _ => ?_)
    ·exact Run.x 0
    ·refine Run.u 400 E_ok mixed Tryz.func14 ?_
     refine Run.z [true] ?_
     refine Run.q (e := vIv) (gv := vB) (ok_spec_RadiansOf _) fun r7 _ => ?_
     refine Run.q (e := vB) (gv := vB) (ok_spec_OverlapI _ _) fun r8 _ => ?_
     refine Run.y (gv := vB) (fun _ => ?_) (fun _ => ?_)
     ·exact Run.x 0
     ·refine Run.u 400 E_ok mixed Tryz.func14 ?_
      refine Run.z [true] ?_
      refine Run.q (e := vIv) (gv := vB) (ok_spec_RadiansOf _) fun r9 _ => ?_
      refine Run.q (e := vB) (gv := vB) (ok_spec_OverlapI _ _) fun r10 _ => ?_
      refine Run.y (gv := vB) (fun _ => ?_) (fun _ => ?_)
      ·exact Run.x 0
      ·refine Run.u 400 E_ok mixed Tryz.func14 ?_
       refine Run.z [true] ?_
       refine Run.q (e := vIv) (gv := vB) (ok_spec_RadiansOf _) fun r11 _ => ?_
       refine Run.q (e := vB) (gv := vB) (ok_spec_OverlapI _ _) fun r12 _ => ?_
       refine Run.y (gv := vB) (fun _ => ?_) (fun _ => ?_)
       ·exact Run.x 0
       ·refine Run.u 400 E_ok mixed Tryz.func14 ?_
        refine Run.z [true] ?_
        refine Run.q (e := vIv) (gv := vB) (ok_spec_RadiansOf _) fun r13 _ => ?_
        refine Run.q (e := vB) (gv := vB) (ok_spec_OverlapI _ _) fun r14 _ => ?_
        refine Run.y (gv := vB) (fun _ => ?_) (fun _ => ?_)
        ·exact Run.x 0
        ·refine Run.u 400 E_ok mixed Tryz.func14 ?_
         refine Run.z [true] ?_
         refine Run.q (e := vIv) (gv := vB) (ok_spec_RadiansOf _) fun r15 _ => ?_
         refine Run.q (e := vB) (gv := vB) (ok_spec_OverlapI _ _) fun r16 _ => ?_
         refine Run.y (gv := vB) (fun _ => ?_) (fun _ => ?_)
         ·exact Run.x 0
         ·refine Run.u 400 E_ok mixed Tryz.func14 ?_
          refine Run.z [true] ?_
          refine Run.q (e := vIv) (gv := vB) (ok_spec_RadiansOf _) fun r17 _ => ?_
          refine Run.q (e := vB) (gv := vB) (ok_spec_OverlapI _ _) fun r18 _ => ?_
          refine Run.y (gv := vB) (fun _ => ?_) (fun _ => ?_)
          ·exact Run.x 0
          ·refine Run.u 400 E_ok mixed Tryz.func14 ?_
           refine Run.z [true] ?_
           refine Run.q (e := vIv) (gv := vB) (ok_spec_RadiansOf _) fun r19 _ => ?_
           refine Run.q (e := vB) (gv := vB) (ok_spec_OverlapI _ _) fun r20 _ => ?_
           refine Run.y (gv := vB) (fun _ => ?_) (fun _ => ?_)
           ·exact Run.x 0
           ·refine Run.u 400 E_ok mixed Tryz.func14 ?_
            refine Run.z [true] ?_
            refine Run.q (e := vIv) (gv := vB) (ok_spec_RadiansOf _) fun r21 _ => ?_
            refine Run.q (e := vB) (gv := vB) (ok_spec_OverlapI _ _) fun r22 _ => ?_
            refine Run.y (gv := vB) (fun _ => ?_) (fun _ => ?_)
            ·exact Run.x 0
            ·refine Run.u 400 E_ok mixed Tryz.func14 ?_
             refine Run.z [true] ?_
             refine Run.q (e := vIv) (gv := vB) (ok_spec_RadiansOf _) fun r23 _ => ?_
             refine Run.q (e := vB) (gv := vB) (ok_spec_OverlapI _ _) fun r24 _ => ?_
             refine Run.y (gv := vB) (fun _ => ?_) (fun _ => ?_)
             ·exact Run.x 0
             ·refine Run.u 400 E_ok mixed Tryz.func14 ?_
              refine Run.z [true] ?_
              refine Run.q (e := vIv) (gv := vB) (ok_spec_RadiansOf _) fun r25 _ => ?_
              refine Run.q (e := vB) (gv := vB) (ok_spec_OverlapI _ _) fun r26 _ => ?_
              refine Run.y (gv := vB) (fun _ => ?_) (fun _ => ?_)
              ·exact Run.x 0
              ·refine Run.u 400 E_ok mixed Tryz.func14 ?_
               refine Run.z [true] ?_
               refine Run.q (e := vIv) (gv := vB) (ok_spec_RadiansOf _) fun r27 _ => ?_
               refine Run.q (e := vB) (gv := vB) (ok_spec_OverlapI _ _) fun r28 _ => ?_
               refine Run.y (gv := vB) (fun _ => ?_) (fun _ => ?_)
               ·exact Run.x 0
               ·refine Run.u 400 E_ok mixed Tryz.func14 ?_
                refine Run.z [true] ?_
                refine Run.q (e := vIv) (gv := vB) (ok_spec_RadiansOf _) fun r29 _ => ?_
                refine Run.q (e := vB) (gv := vB) (ok_spec_OverlapI _ _) fun r30 _ => ?_
                refine Run.y (gv := vB) (fun _ => ?_) (fun _ => ?_)
                ·exact Run.x 0
                ·refine Run.u 400 E_ok mixed Tryz.func14 ?_
                 refine Run.z [true] ?_
                 refine Run.q (e := vIv) (gv := vB) (ok_spec_RadiansOf _) fun r31 _ => ?_
                 refine Run.q (e := vB) (gv := vB) (ok_spec_OverlapI _ _) fun r32 _ => ?_
                 refine Run.y (gv := vB) (fun _ => ?_) (fun _ => ?_)
                 ·exact Run.x 0
                 ·refine Run.u 400 E_ok mixed Tryz.func14 ?_
                  refine Run.z [true] ?_
                  refine Run.q (e := vIv) (gv := vB) (ok_spec_RadiansOf _) fun r33 _ => ?_
                  refine Run.q (e := vB) (gv := vB) (ok_spec_OverlapI _ _) fun r34 _ => ?_
                  refine Run.y (gv := vB) (fun _ => ?_) (fun _ => ?_)
                  ·exact Run.x 0
                  ·refine Run.u 400 E_ok mixed Tryz.func14 ?_
                   refine Run.z [true] ?_
                   refine Run.q (e := vIv) (gv := vB) (ok_spec_RadiansOf _) fun r35 _ => ?_
                   refine Run.q (e := vB) (gv := vB) (ok_spec_OverlapI _ _) fun r36 _ => ?_
                   refine Run.y (gv := vB) (fun _ => ?_) (fun _ => ?_)
                   ·exact Run.x 0
                   ·refine Run.u 400 E_ok mixed Tryz.func14 ?_
                    refine Run.z [true] ?_
                    refine Run.q (e := vIv) (gv := vB) (ok_spec_RadiansOf _) fun r37 _ => ?_
                    refine Run.q (e := vB) (gv := vB) (ok_spec_OverlapI _ _) fun r38 _ => ?_
                    refine Run.y (gv := vB) (fun _ => ?_) (fun _ => ?_)
                    ·exact Run.x 0
                    ·refine Run.u 400 E_ok mixed Tryz.func14 ?_
                     refine Run.z [true] ?_
                     refine Run.q (e := vIv) (gv := vB) (ok_spec_RadiansOf _) fun r39 _ => ?_
                     refine Run.q (e := vB) (gv := vB) (ok_spec_OverlapI _ _) fun r40 _ => ?_
                     refine Run.y (gv := vB) (fun _ => ?_) (fun _ => ?_)
                     ·exact Run.x 0
                     ·refine Run.u 400 E_ok mixed Tryz.func14 ?_
                      refine Run.z [true] ?_
                      refine Run.q (e := vIv) (gv := vB) (ok_spec_RadiansOf _) fun r41 _ => ?_
                      refine Run.q (e := vB) (gv := vB) (ok_spec_OverlapI _ _) fun r42 _ => ?_
                      refine Run.y (gv := vB) (fun _ => ?_) (fun _ => ?_)
                      ·exact Run.x 0
                      ·refine Run.u 400 E_ok mixed Tryz.func14 ?_
                       refine Run.z [false] ?_
                       exact Run.x 0

theorem ok_spec_l00From_n : FunS Tryz.prog 49 [] [] #[(.slice none 0 0)] (fun v Y => v = .pointer (some ⟨0, 0, none⟩) ∧ Y = [srcB 113 (.slice none 0 0) (c64 0) (cu64 0)]) := Sourced.none (by decide) ok_spec_l00Sourced

theorem ok_spec_l00Src_next__src_n (b1 : Src) (ps : 0 ≤ b1.ix.val ∧ b1.ix.val + 1 ≤ 1000000000) : FunS Tryz.prog 146 [] [srcB 113 (.slice none 0 0) b1.ix b1.sd] #[.pointer (some ⟨0, 0, none⟩)] (Drew vI 113 (.slice none 0 0) b1.ix.val (b1.ix.val + 1) (F_spec_l00Src_next__src Cd.nil b1)) := by
 refine FunS.drew (fun _ _ => rfl) rfl (by kernel_rfl) (FunR.of 400 E_ok mixed Tryz.func146 (by kernel_rfl) ?_)
 show Run _ _ ((RD [] vI 113 (.slice none 0 0) b1.ix.val (b1.ix.val + 1)) (F_spec_l00Src_next__src Cd.nil b1)) _
 unfold F_spec_l00Src_next__src
 refine Run.gn (Rg := (RD [] vI 113 (.slice none 0 0) b1.ix.val (b1.ix.val + 1))) (c := (decide (b1.ix.val < (((Cd.nil.L.length : Nat) : Int))))) (by kernel_rfl) (by refine decide_eq_false ?_; show ¬ (b1.ix.val < 0); omega) ?_
 refine Run.gy (Rg := (RD [] vI 113 (.slice none 0 0) b1.ix.val (b1.ix.val + 1))) (fun h1 => ?_) (fun h1 => ?_)
 ·exact Run.dr (by kernel_rfl) (by kernel_rfl) (by first | omega | (simp only [w64_val, c64_val] at *; omega))
 ·refine Run.z [true] ?_
  exact Run.dr (by kernel_rfl) (by kernel_rfl) (by first | omega | (simp only [w64_val, c64_val] at *; omega))

end Go.Proofs.YtcdkepbgjgcjfaaGreat.Abs
