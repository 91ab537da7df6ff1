/- The program's functions are these; part 1 (written by w.py). -/
import Derived.Test.YtkbkopmelaiffaaK0
import Derived.Test.YtkbkopmelaiffaaF2
set_option linter.unusedVariables false
set_option linter.unusedSimpArgs false
namespace Go.Proofs.Ytkbkopmelaiffaa.Abs
open Go Go.RowKit

theorem ok_laws_eqAffine (a0 : Af) (a1 : Af) : Fun Try.prog 14 [] #[vAf a0, vAf a1] (vB (F_laws_eqAffine a0 a1)) [] := by
  refine Fun.ofH 400 E_ok mixed Try.func14 (by kernel_rfl) (by kernel_rfl) ?_
  unfold F_laws_eqAffine
  refine Run.bH (e := vB) (gv := vB) (by kernel_rfl) (by kernel_rfl) (ok_laws_eqMat _ _) (fun _ => rfl) fun r1 => ?_
  refine Run.jH (gv := vB) (by kernel_rfl) (?_) (?_)
  · exact Run.rh (k := 0) (by kernel_rfl) (by kernel_rfl)
  · refine Run.bH (e := vB) (gv := vB) (by kernel_rfl) (by kernel_rfl) (ok_laws_eqVec _ _) (fun _ => rfl) fun r2 => ?_
    refine Run.jH (gv := vB) (by kernel_rfl) (?_) (?_)
    · exact Run.rh (k := 0) (by kernel_rfl) (by kernel_rfl)
    · exact Run.rh (k := 0) (by kernel_rfl) (by kernel_rfl)

theorem ok_laws_FnExactThenAffine (a0 : Af) (a1 : Af) : Fun Try.prog 4 [] #[vAf a0, vAf a1] (vB (F_laws_FnExactThenAffine a0 a1)) [] := by
  refine Fun.ofH 400 E_ok mixed Try.func4 (by kernel_rfl) (by kernel_rfl) ?_
  unfold F_laws_FnExactThenAffine
  refine Run.bH (e := vAf) (gv := vB) (by kernel_rfl) (by kernel_rfl) (ok_laws_toAffine _) (fun _ => rfl) fun r1 => ?_
  refine Run.bH (e := vAf) (gv := vB) (by kernel_rfl) (by kernel_rfl) (ok_laws_toAffine _) (fun _ => rfl) fun r2 => ?_
  refine Run.bH (e := vAf) (gv := vB) (by kernel_rfl) (by kernel_rfl) (ok_spec_ThenAffine _ _) (fun _ => rfl) fun r3 => ?_
  refine Run.bH (e := vAf) (gv := vB) (by kernel_rfl) (by kernel_rfl) (ok_laws_toAffine _) (fun _ => rfl) fun r4 => ?_
  refine Run.bH (e := vAf) (gv := vB) (by kernel_rfl) (by kernel_rfl) (ok_laws_toAffine _) (fun _ => rfl) fun r5 => ?_
  refine Run.bH (e := vAf) (gv := vB) (by kernel_rfl) (by kernel_rfl) (ok_impl_ThenAffine _ _) (fun _ => rfl) fun r6 => ?_
  refine Run.bH (e := vB) (gv := vB) (by kernel_rfl) (by kernel_rfl) (ok_laws_eqAffine _ _) (fun _ => rfl) fun r7 => ?_
  refine Run.jH (gv := vB) (by kernel_rfl) (?_) (?_)
  · exact Run.rh (k := 0) (by kernel_rfl) (by kernel_rfl)
  · exact Run.rh (k := 0) (by kernel_rfl) (by kernel_rfl)

theorem ok_laws_toShift (a0 : Sf) : Fun Try.prog 16 [] #[vSf a0] (vSf (F_laws_toShift a0)) [] := by
  refine Fun.ofH 400 E_ok mixed Try.func16 (by kernel_rfl) (by kernel_rfl) ?_
  unfold F_laws_toShift
  exact Run.rh (k := 0) (by kernel_rfl) (by kernel_rfl)

theorem ok_spec_l23Ok__pSf (b0 : Sf) : Fun Try.prog 30 [(#[.int .i64 b0.tx.val, .int .i64 b0.ty.val, .int .i64 b0.tz.val, .int .i64 b0.rx.val, .int .i64 b0.ry.val, .int .i64 b0.rz.val, .int .i64 b0.sc.val], 49)] #[.pointer (some ⟨0, 0, none⟩)] (vB (F_spec_l23Ok__pSf b0)) [(#[.int .i64 b0.tx.val, .int .i64 b0.ty.val, .int .i64 b0.tz.val, .int .i64 b0.rx.val, .int .i64 b0.ry.val, .int .i64 b0.rz.val, .int .i64 b0.sc.val], 49)] := by
  refine Fun.ofH 400 E_ok mixed Try.func30 (by kernel_rfl) (by kernel_rfl) ?_
  unfold F_spec_l23Ok__pSf
  refine Run.u 400 E_ok mixed Try.func30 ?_
  refine Run.p [true, true] (by kernel_rfl) ?_
  refine Run.bH (e := vB) (gv := vB) (by kernel_rfl) (by kernel_rfl) (ok_spec_l00In _ _ _) (fun _ => rfl) fun r1 => ?_
  refine Run.jH (gv := vB) (by kernel_rfl) (?_) (?_)
  · refine Run.p [true, true, true, true, true, true, true] (by kernel_rfl) ?_
    exact Run.rh (k := 1) (by kernel_rfl) (by kernel_rfl)
  · refine Run.p [false, false, true, false, false] (by kernel_rfl) ?_
    refine Run.bH (e := vB) (gv := vB) (by kernel_rfl) (by kernel_rfl) (ok_spec_l00In _ _ _) (fun _ => rfl) fun r2 => ?_
    refine Run.p [false, false] (by kernel_rfl) ?_
    refine Run.jH (gv := vB) (by kernel_rfl) (?_) (?_)
    · exact Run.rh (k := 1) (by kernel_rfl) (by kernel_rfl)
    · refine Run.u 400 E_ok mixed Try.func30 ?_
      refine Run.p [true, true] (by kernel_rfl) ?_
      refine Run.bH (e := vB) (gv := vB) (by kernel_rfl) (by kernel_rfl) (ok_spec_l00In _ _ _) (fun _ => rfl) fun r3 => ?_
      refine Run.jH (gv := vB) (by kernel_rfl) (?_) (?_)
      · refine Run.p [true, true, true, true, true, true, true] (by kernel_rfl) ?_
        exact Run.rh (k := 1) (by kernel_rfl) (by kernel_rfl)
      · refine Run.p [false, false, true, false, false] (by kernel_rfl) ?_
        refine Run.bH (e := vB) (gv := vB) (by kernel_rfl) (by kernel_rfl) (ok_spec_l00In _ _ _) (fun _ => rfl) fun r4 => ?_
        refine Run.p [false, false] (by kernel_rfl) ?_
        refine Run.jH (gv := vB) (by kernel_rfl) (?_) (?_)
        · exact Run.rh (k := 1) (by kernel_rfl) (by kernel_rfl)
        · refine Run.u 400 E_ok mixed Try.func30 ?_
          refine Run.p [true, true] (by kernel_rfl) ?_
          refine Run.bH (e := vB) (gv := vB) (by kernel_rfl) (by kernel_rfl) (ok_spec_l00In _ _ _) (fun _ => rfl) fun r5 => ?_
          refine Run.jH (gv := vB) (by kernel_rfl) (?_) (?_)
          · refine Run.p [true, true, true, true, true, true, true] (by kernel_rfl) ?_
            exact Run.rh (k := 1) (by kernel_rfl) (by kernel_rfl)
          · refine Run.p [false, false, true, false, false] (by kernel_rfl) ?_
            refine Run.bH (e := vB) (gv := vB) (by kernel_rfl) (by kernel_rfl) (ok_spec_l00In _ _ _) (fun _ => rfl) fun r6 => ?_
            refine Run.p [false, false] (by kernel_rfl) ?_
            refine Run.jH (gv := vB) (by kernel_rfl) (?_) (?_)
            · exact Run.rh (k := 1) (by kernel_rfl) (by kernel_rfl)
            · refine Run.u 400 E_ok mixed Try.func30 ?_
              refine Run.p [false] (by kernel_rfl) ?_
              refine Run.bH (e := vB) (gv := vB) (by kernel_rfl) (by kernel_rfl) (ok_spec_l00In _ _ _) (fun _ => rfl) fun r7 => ?_
              exact Run.rh (k := 1) (by kernel_rfl) (by kernel_rfl)

theorem ok_spec_Integer (a0 : I64) : Fun Try.prog 45 [] #[vI a0] (vIv (F_spec_Integer a0)) [] := by
  refine Fun.ofH 400 E_ok mixed Try.func45 (by kernel_rfl) (by kernel_rfl) ?_
  unfold F_spec_Integer
  refine Run.bH (e := vB) (gv := vIv) (by kernel_rfl) (by kernel_rfl) (ok_spec_l00In _ _ _) (fun _ => rfl) fun r1 => ?_
  refine Run.jH (gv := vIv) (by kernel_rfl) (?_) (?_)
  · refine Run.bH (e := vIv) (gv := vIv) (by kernel_rfl) (by kernel_rfl) (ok_spec_l04Whole) (fun _ => rfl) fun r2 => ?_
    exact Run.rh (k := 0) (by kernel_rfl) (by kernel_rfl)
  · refine Run.bH (e := vIv) (gv := vIv) (by kernel_rfl) (by kernel_rfl) (ok_spec_l04Make _ _) (fun _ => rfl) fun r3 => ?_
    exact Run.rh (k := 0) (by kernel_rfl) (by kernel_rfl)

theorem ok_spec_l02Divide_L0 : ∀ (fu : Nat) (a1 : U64) (a2 : U64) (x_qhi : U64) (x_rest : U64) (x_q : U64) (x_i : I64) (q0 : x_i.val ≤ 63) (hm : (x_i.val + 1).toNat < fu) (t : Array Value) (ht : maskA t [0, 3, 4, 5, 13, 14, 15, 16, 17, 18, 19, 20, 21, 22, 23, 24, 25, 26, 27, 28, 29, 30, 31, 32, 33, 34, 35, 36, 37, 38, 39, 40, 41, 42, 43, 44, 45, 46, 47, 48, 49, 50] = #[undef, .int .u64 a1.val, .int .u64 a2.val, undef, undef, undef, .int .u64 0, .int .u64 0, .int .u64 0, .int .u64 x_qhi.val, .int .u64 x_rest.val, .int .u64 x_q.val, .int .i64 x_i.val, undef, undef, undef, undef, undef, undef, undef, undef, undef, undef, undef, undef, undef, undef, undef, undef, undef, undef, undef, undef, undef, undef, undef, undef, undef, undef, undef, undef, undef, undef, undef, undef, undef, undef, undef, undef, undef, undef]), Cfg Try.prog 110 (loopAt Try.f110 0) t [] (RvH [] (vT_U_U_U (F_spec_l02Divide_L0 fu a1 a2 x_qhi x_rest x_q x_i))) := by
  intro fu
  induction fu with
  | zero => intro a1 a2 x_qhi x_rest x_q x_i q0 hm; exact absurd hm (Nat.not_lt_zero _)
  | succ fu ih =>
    intro a1 a2 x_qhi x_rest x_q x_i q0 hm t ht
    refine Cfg.round E_ok mixed Try.func110 ht fun g => ?_
    unfold F_spec_l02Divide_L0
    refine Run.jk (gv := vT_U_U_U) (by kernel_rfl) (fun h1 => ?_) (fun h1 => ?_)
    · refine Run.p [true, true] (by kernel_rfl) ?_
      refine Run.k (c := (decide (0 ≤ (wu64 x_i.val).val))) (by kernel_rfl) (by simp only [w64_val, wu64_val, c64_val, cu64_val, decide_eq_true_eq] at *; first | assumption | omega) ?_
      refine Run.p [true] (by kernel_rfl) ?_
      refine Run.jk (gv := vT_U_U_U) (by kernel_rfl) (fun h2 => ?_) (fun h2 => ?_)
      · refine Run.p [true, true, true, true] (by kernel_rfl) ?_
        exact Run.l (by kernel_rfl) (by kernel_rfl) (by kernel_rfl) (by kernel_rfl) (ih a1 a2 x_qhi (wu64 ((ior .u64 (ishl .u64 x_rest.val 1).val (iand .u64 (ishr a1 (wu64 x_i.val).val).val 1).val).val - a2.val)) (ior .u64 (ishl .u64 x_q.val 1).val 1) (w64 (x_i.val - 1)) (by have q1 := x_i.lo; simp only [w64_val, wu64_val, c64_val, cu64_val, decide_eq_true_eq] at *; omega) (by have q1 := x_i.lo; simp only [w64_val, wu64_val, c64_val, cu64_val, decide_eq_true_eq] at *; omega))
      · refine Run.p [false, false, false] (by kernel_rfl) ?_
        refine Run.jk (gv := vT_U_U_U) (by kernel_rfl) (fun h3 => ?_) (fun h3 => ?_)
        · exact Run.l (by kernel_rfl) (by kernel_rfl) (by kernel_rfl) (by kernel_rfl) (ih a1 a2 x_qhi (wu64 ((ior .u64 (ishl .u64 x_rest.val 1).val (iand .u64 (ishr a1 (wu64 x_i.val).val).val 1).val).val - a2.val)) (ior .u64 (ishl .u64 x_q.val 1).val 1) (w64 (x_i.val - 1)) (by have q1 := x_i.lo; simp only [w64_val, wu64_val, c64_val, cu64_val, decide_eq_true_eq] at *; omega) (by have q1 := x_i.lo; simp only [w64_val, wu64_val, c64_val, cu64_val, decide_eq_true_eq] at *; omega))
        · exact Run.l (by kernel_rfl) (by kernel_rfl) (by kernel_rfl) (by kernel_rfl) (ih a1 a2 x_qhi (ior .u64 (ishl .u64 x_rest.val 1).val (iand .u64 (ishr a1 (wu64 x_i.val).val).val 1).val) (ishl .u64 x_q.val 1) (w64 (x_i.val - 1)) (by have q1 := x_i.lo; simp only [w64_val, wu64_val, c64_val, cu64_val, decide_eq_true_eq] at *; omega) (by have q1 := x_i.lo; simp only [w64_val, wu64_val, c64_val, cu64_val, decide_eq_true_eq] at *; omega))
    · exact Run.rh (k := 0) (by kernel_rfl) (by kernel_rfl)

theorem ok_spec_l02Divide (a0 : U64) (a1 : U64) (a2 : U64) (p0 : a2.val ≠ 0) : Fun Try.prog 110 [] #[vU a0, vU a1, vU a2] (vT_U_U_U (F_spec_l02Divide a0 a1 a2)) [] := by
  refine Fun.ofH 400 E_ok mixed Try.func110 (by kernel_rfl) (by kernel_rfl) ?_
  unfold F_spec_l02Divide
  refine Run.k (c := (decide (a2.val ≠ 0))) (by kernel_rfl) (by simp only [w64_val, wu64_val, c64_val, cu64_val, decide_eq_true_eq] at *; first | assumption | omega) ?_
  refine Run.k (c := (decide (a2.val ≠ 0))) (by kernel_rfl) (by simp only [w64_val, wu64_val, c64_val, cu64_val, decide_eq_true_eq] at *; first | assumption | omega) ?_
  exact Run.l (by kernel_rfl) (by kernel_rfl) (by kernel_rfl) (by kernel_rfl) (ok_spec_l02Divide_L0 65 a1 a2 (wu64 (Int.tdiv a0.val a2.val)) (imod a0 a2.val) (cu64 0) (c64 63) (by decide) (by decide))

theorem ok_spec_l02Plus (a0 : Wd) (a1 : Wd) : Fun Try.prog 112 [] #[vWd a0, vWd a1] (vWd (F_spec_l02Plus a0 a1)) [] := by
  refine Fun.ofH 400 E_ok mixed Try.func112 (by kernel_rfl) (by kernel_rfl) ?_
  unfold F_spec_l02Plus
  refine Run.jH (gv := vWd) (by kernel_rfl) (?_) (?_)
  · exact Run.rh (k := 0) (by kernel_rfl) (by kernel_rfl)
  · exact Run.rh (k := 0) (by kernel_rfl) (by kernel_rfl)

theorem ok_spec_l02Div (a0 : Wd) (a1 : I64) (p0 : 0 < a1.val) : Fun Try.prog 102 [] #[vWd a0, vI a1] (vT_Wd_I (F_spec_l02Div a0 a1)) [] := by
  refine Fun.ofH 400 E_ok mixed Try.func102 (by kernel_rfl) (by kernel_rfl) ?_
  unfold F_spec_l02Div
  refine Run.jk (gv := vT_Wd_I) (by kernel_rfl) (fun h1 => ?_) (fun h1 => ?_)
  · refine Run.bk (e := vT_U_U_U) (gv := vT_Wd_I) (by kernel_rfl) (by kernel_rfl) (ok_spec_l02Divide _ _ _ (by have q1 := a1.hi; simp only [w64_val, wu64_val, decide_eq_true_eq] at *; omega)) (fun _ => rfl) fun r2 hr2 => ?_
    exact Run.rh (k := 0) (by kernel_rfl) (by kernel_rfl)
  · refine Run.bk (e := vWd) (gv := vT_Wd_I) (by kernel_rfl) (by kernel_rfl) (ok_spec_l02Minus _) (fun _ => rfl) fun r3 hr3 => ?_
    refine Run.bk (e := vT_U_U_U) (gv := vT_Wd_I) (by kernel_rfl) (by kernel_rfl) (ok_spec_l02Divide _ _ _ (by have q1 := a1.hi; simp only [w64_val, wu64_val, decide_eq_true_eq] at *; omega)) (fun _ => rfl) fun r4 hr4 => ?_
    refine Run.bk (e := vWd) (gv := vT_Wd_I) (by kernel_rfl) (by kernel_rfl) (ok_spec_l02Minus _) (fun _ => rfl) fun r5 hr5 => ?_
    refine Run.jk (gv := vT_Wd_I) (by kernel_rfl) (fun h6 => ?_) (fun h6 => ?_)
    · exact Run.rh (k := 0) (by kernel_rfl) (by kernel_rfl)
    · refine Run.bk (e := vWd) (gv := vT_Wd_I) (by kernel_rfl) (by kernel_rfl) (ok_spec_l02Of _) (fun _ => rfl) fun r7 hr7 => ?_
      refine Run.bk (e := vWd) (gv := vT_Wd_I) (by kernel_rfl) (by kernel_rfl) (ok_spec_l02Plus _ _) (fun _ => rfl) fun r8 hr8 => ?_
      exact Run.rh (k := 0) (by kernel_rfl) (by kernel_rfl)

theorem ok_spec_MulDivFloor (a0 : I64) (a1 : I64) (a2 : I64) : Fun Try.prog 88 [] #[vI a0, vI a1, vI a2] (vT_I_B (F_spec_MulDivFloor a0 a1 a2)) [] := by
  refine Fun.ofH 400 E_ok mixed Try.func88 (by kernel_rfl) (by kernel_rfl) ?_
  unfold F_spec_MulDivFloor
  refine Run.jk (gv := vT_I_B) (by kernel_rfl) (fun h1 => ?_) (fun h1 => ?_)
  · exact Run.rh (k := 0) (by kernel_rfl) (by kernel_rfl)
  · refine Run.bk (e := vWd) (gv := vT_I_B) (by kernel_rfl) (by kernel_rfl) (ok_spec_l02Mul _ _) (fun _ => rfl) fun r2 hr2 => ?_
    refine Run.bk (e := vT_Wd_I) (gv := vT_I_B) (by kernel_rfl) (by kernel_rfl) (ok_spec_l02Div _ _ (by simp only [c64_val, decide_eq_true_eq, decide_eq_false_iff_not] at *; omega)) (fun _ => rfl) fun r3 hr3 => ?_
    refine Run.bk (e := vT_I_B) (gv := vT_I_B) (by kernel_rfl) (by kernel_rfl) (ok_spec_l02Int _) (fun _ => rfl) fun r4 hr4 => ?_
    exact Run.rh (k := 0) (by kernel_rfl) (by kernel_rfl)

theorem ok_spec_l03Floor (a0 : I64) (a1 : I64) : Fun Try.prog 68 [] #[vI a0, vI a1] (vT_I_B (F_spec_l03Floor a0 a1)) [] := by
  refine Fun.ofH 400 E_ok mixed Try.func68 (by kernel_rfl) (by kernel_rfl) ?_
  unfold F_spec_l03Floor
  refine Run.jH (gv := vT_I_B) (by kernel_rfl) (?_) (?_)
  · exact Run.rh (k := 0) (by kernel_rfl) (by kernel_rfl)
  · refine Run.bH (e := vT_I_B) (gv := vT_I_B) (by kernel_rfl) (by kernel_rfl) (ok_spec_MulDivFloor _ _ _) (fun _ => rfl) fun r1 => ?_
    refine Run.bH (e := vT_I_B) (gv := vT_I_B) (by kernel_rfl) (by kernel_rfl) (ok_spec_l03End _ _) (fun _ => rfl) fun r2 => ?_
    exact Run.rh (k := 0) (by kernel_rfl) (by kernel_rfl)

theorem ok_spec_l03Ceil (a0 : I64) (a1 : I64) : Fun Try.prog 69 [] #[vI a0, vI a1] (vT_I_B (F_spec_l03Ceil a0 a1)) [] := by
  refine Fun.ofH 400 E_ok mixed Try.func69 (by kernel_rfl) (by kernel_rfl) ?_
  unfold F_spec_l03Ceil
  refine Run.jH (gv := vT_I_B) (by kernel_rfl) (?_) (?_)
  · exact Run.rh (k := 0) (by kernel_rfl) (by kernel_rfl)
  · refine Run.bH (e := vT_I_B) (gv := vT_I_B) (by kernel_rfl) (by kernel_rfl) (ok_spec_MulDivFloor _ _ _) (fun _ => rfl) fun r1 => ?_
    refine Run.jH (gv := vT_I_B) (by kernel_rfl) (?_) (?_)
    · exact Run.rh (k := 0) (by kernel_rfl) (by kernel_rfl)
    · refine Run.jH (gv := vT_I_B) (by kernel_rfl) (?_) (?_)
      · refine Run.bH (e := vT_I_B) (gv := vT_I_B) (by kernel_rfl) (by kernel_rfl) (ok_spec_l03End _ _) (fun _ => rfl) fun r2 => ?_
        exact Run.rh (k := 0) (by kernel_rfl) (by kernel_rfl)
      · refine Run.bH (e := vT_I_B) (gv := vT_I_B) (by kernel_rfl) (by kernel_rfl) (ok_spec_l03End _ _) (fun _ => rfl) fun r3 => ?_
        exact Run.rh (k := 0) (by kernel_rfl) (by kernel_rfl)

theorem ok_spec_Quotient (a0 : I64) (a1 : I64) : Fun Try.prog 46 [] #[vI a0, vI a1] (vIv (F_spec_Quotient a0 a1)) [] := by
  refine Fun.ofH 400 E_ok mixed Try.func46 (by kernel_rfl) (by kernel_rfl) ?_
  unfold F_spec_Quotient
  refine Run.jH (gv := vIv) (by kernel_rfl) (?_) (?_)
  · refine Run.jH (gv := vIv) (by kernel_rfl) (?_) (?_)
    · refine Run.p [true, true, true] (by kernel_rfl) ?_
      refine Run.bH (e := vIv) (gv := vIv) (by kernel_rfl) (by kernel_rfl) (ok_spec_l04Whole) (fun _ => rfl) fun r1 => ?_
      exact Run.rh (k := 0) (by kernel_rfl) (by kernel_rfl)
    · refine Run.p [false, false] (by kernel_rfl) ?_
      refine Run.jH (gv := vIv) (by kernel_rfl) (?_) (?_)
      · refine Run.bH (e := vIv) (gv := vIv) (by kernel_rfl) (by kernel_rfl) (ok_spec_l04Whole) (fun _ => rfl) fun r2 => ?_
        exact Run.rh (k := 0) (by kernel_rfl) (by kernel_rfl)
      · refine Run.bH (e := vT_I_B) (gv := vIv) (by kernel_rfl) (by kernel_rfl) (ok_spec_l03Floor _ _) (fun _ => rfl) fun r3 => ?_
        refine Run.bH (e := vT_I_B) (gv := vIv) (by kernel_rfl) (by kernel_rfl) (ok_spec_l03Ceil _ _) (fun _ => rfl) fun r4 => ?_
        refine Run.jH (gv := vIv) (by kernel_rfl) (?_) (?_)
        · refine Run.p [true, true, true] (by kernel_rfl) ?_
          refine Run.bH (e := vIv) (gv := vIv) (by kernel_rfl) (by kernel_rfl) (ok_spec_l04Whole) (fun _ => rfl) fun r5 => ?_
          exact Run.rh (k := 0) (by kernel_rfl) (by kernel_rfl)
        · refine Run.p [false, false] (by kernel_rfl) ?_
          refine Run.jH (gv := vIv) (by kernel_rfl) (?_) (?_)
          · refine Run.bH (e := vIv) (gv := vIv) (by kernel_rfl) (by kernel_rfl) (ok_spec_l04Whole) (fun _ => rfl) fun r6 => ?_
            exact Run.rh (k := 0) (by kernel_rfl) (by kernel_rfl)
          · refine Run.bH (e := vIv) (gv := vIv) (by kernel_rfl) (by kernel_rfl) (ok_spec_l04Make _ _) (fun _ => rfl) fun r7 => ?_
            exact Run.rh (k := 0) (by kernel_rfl) (by kernel_rfl)
  · refine Run.bH (e := vT_I_B) (gv := vIv) (by kernel_rfl) (by kernel_rfl) (ok_spec_l03Floor _ _) (fun _ => rfl) fun r8 => ?_
    refine Run.bH (e := vT_I_B) (gv := vIv) (by kernel_rfl) (by kernel_rfl) (ok_spec_l03Ceil _ _) (fun _ => rfl) fun r9 => ?_
    refine Run.jH (gv := vIv) (by kernel_rfl) (?_) (?_)
    · refine Run.p [true, true, true] (by kernel_rfl) ?_
      refine Run.bH (e := vIv) (gv := vIv) (by kernel_rfl) (by kernel_rfl) (ok_spec_l04Whole) (fun _ => rfl) fun r10 => ?_
      exact Run.rh (k := 0) (by kernel_rfl) (by kernel_rfl)
    · refine Run.p [false, false] (by kernel_rfl) ?_
      refine Run.jH (gv := vIv) (by kernel_rfl) (?_) (?_)
      · refine Run.bH (e := vIv) (gv := vIv) (by kernel_rfl) (by kernel_rfl) (ok_spec_l04Whole) (fun _ => rfl) fun r11 => ?_
        exact Run.rh (k := 0) (by kernel_rfl) (by kernel_rfl)
      · refine Run.bH (e := vIv) (gv := vIv) (by kernel_rfl) (by kernel_rfl) (ok_spec_l04Make _ _) (fun _ => rfl) fun r12 => ?_
        exact Run.rh (k := 0) (by kernel_rfl) (by kernel_rfl)

theorem ok_spec_l05Turn_r : ∀ (fu : Nat) (a0 : I64) (p0 : -9223372036854775808 < a0.val) (hm : min (0 - a0.val).toNat 1 < fu), Fun Try.prog 92 [] #[vI a0] (vIv (F_spec_l05Turn_r fu a0)) [] := by
  intro fu
  induction fu with
  | zero => intro a0 p0 hm; exact absurd hm (Nat.not_lt_zero _)
  | succ fu ih =>
    intro a0 p0 hm
    refine Fun.ofH 400 E_ok mixed Try.func92 (by kernel_rfl) (by kernel_rfl) ?_
    unfold F_spec_l05Turn_r
    refine Run.jk (gv := vIv) (by kernel_rfl) (fun h1 => ?_) (fun h1 => ?_)
    · exact Run.rh (k := 0) (by kernel_rfl) (by kernel_rfl)
    · refine Run.jk (gv := vIv) (by kernel_rfl) (fun h2 => ?_) (fun h2 => ?_)
      · refine Run.bk (e := vIv) (gv := vIv) (by kernel_rfl) (by kernel_rfl) (ih (w64 (0 - a0.val)) (by simp only [w64_val, decide_eq_true_eq, decide_eq_false_iff_not] at *; omega) (by simp only [w64_val, decide_eq_true_eq, decide_eq_false_iff_not] at *; omega)) (fun _ => rfl) fun r3 hr3 => ?_
        exact Run.rh (k := 0) (by kernel_rfl) (by kernel_rfl)
      · refine Run.bk (e := vT_I_B) (gv := vIv) (by kernel_rfl) (by kernel_rfl) (ok_spec_MulFloor _ _ _) (fun _ => rfl) fun r4 hr4 => ?_
        exact Run.rh (k := 0) (by kernel_rfl) (by kernel_rfl)
theorem ok_spec_l05Turn (a0 : I64) (p0 : -9223372036854775808 < a0.val) : Fun Try.prog 92 [] #[vI a0] (vIv (F_spec_l05Turn a0)) [] := ok_spec_l05Turn_r 2 a0 p0 (by omega)

theorem ok_spec_PiI : Fun Try.prog 74 [] #[] (vIv (F_spec_PiI)) [] := by
  refine Fun.ofH 400 E_ok mixed Try.func74 (by kernel_rfl) (by kernel_rfl) ?_
  unfold F_spec_PiI
  refine Run.bk (e := vIv) (gv := vIv) (by kernel_rfl) (by kernel_rfl) (ok_spec_l05Turn _ (by decide)) (fun _ => rfl) fun r1 hr1 => ?_
  exact Run.rh (k := 0) (by kernel_rfl) (by kernel_rfl)

theorem ok_spec_l23Arc (a0 : I64) : Fun Try.prog 48 [] #[vI a0] (vIv (F_spec_l23Arc a0)) [] := by
  refine Fun.ofH 400 E_ok mixed Try.func48 (by kernel_rfl) (by kernel_rfl) ?_
  unfold F_spec_l23Arc
  refine Run.bH (e := vIv) (gv := vIv) (by kernel_rfl) (by kernel_rfl) (ok_spec_PiI) (fun _ => rfl) fun r1 => ?_
  refine Run.bH (e := vIv) (gv := vIv) (by kernel_rfl) (by kernel_rfl) (ok_spec_Quotient _ _) (fun _ => rfl) fun r2 => ?_
  refine Run.bH (e := vIv) (gv := vIv) (by kernel_rfl) (by kernel_rfl) (ok_spec_MulI _ _) (fun _ => rfl) fun r3 => ?_
  exact Run.rh (k := 0) (by kernel_rfl) (by kernel_rfl)

theorem ok_spec_NegI (a0 : Iv) : Fun Try.prog 35 [] #[vIv a0] (vIv (F_spec_NegI a0)) [] := by
  refine Fun.ofH 400 E_ok mixed Try.func35 (by kernel_rfl) (by kernel_rfl) ?_
  unfold F_spec_NegI
  refine Run.bH (e := vB) (gv := vIv) (by kernel_rfl) (by kernel_rfl) (ok_spec_l04Ok _) (fun _ => rfl) fun r1 => ?_
  refine Run.jH (gv := vIv) (by kernel_rfl) (?_) (?_)
  · refine Run.bH (e := vIv) (gv := vIv) (by kernel_rfl) (by kernel_rfl) (ok_spec_l04Whole) (fun _ => rfl) fun r2 => ?_
    exact Run.rh (k := 0) (by kernel_rfl) (by kernel_rfl)
  · refine Run.bH (e := vIv) (gv := vIv) (by kernel_rfl) (by kernel_rfl) (ok_spec_l04Make _ _) (fun _ => rfl) fun r3 => ?_
    exact Run.rh (k := 0) (by kernel_rfl) (by kernel_rfl)

theorem ok_spec_l23Affine__pSf (b0 : Sf) : Fun Try.prog 31 [(#[.int .i64 b0.tx.val, .int .i64 b0.ty.val, .int .i64 b0.tz.val, .int .i64 b0.rx.val, .int .i64 b0.ry.val, .int .i64 b0.rz.val, .int .i64 b0.sc.val], 49)] #[.pointer (some ⟨0, 0, none⟩)] (vAf (F_spec_l23Affine__pSf b0)) [(#[.int .i64 b0.tx.val, .int .i64 b0.ty.val, .int .i64 b0.tz.val, .int .i64 b0.rx.val, .int .i64 b0.ry.val, .int .i64 b0.rz.val, .int .i64 b0.sc.val], 49)] := by
  refine Fun.ofH 400 E_ok mixed Try.func31 (by kernel_rfl) (by kernel_rfl) ?_
  unfold F_spec_l23Affine__pSf
  refine Run.bH (e := vIv) (gv := vAf) (by kernel_rfl) (by kernel_rfl) (ok_spec_Integer _) (fun _ => rfl) fun r1 => ?_
  refine Run.bH (e := vIv) (gv := vAf) (by kernel_rfl) (by kernel_rfl) (ok_spec_Quotient _ _) (fun _ => rfl) fun r2 => ?_
  refine Run.bH (e := vIv) (gv := vAf) (by kernel_rfl) (by kernel_rfl) (ok_spec_AddI _ _) (fun _ => rfl) fun r3 => ?_
  refine Run.bH (e := vIv) (gv := vAf) (by kernel_rfl) (by kernel_rfl) (ok_spec_l23Arc _) (fun _ => rfl) fun r4 => ?_
  refine Run.bH (e := vIv) (gv := vAf) (by kernel_rfl) (by kernel_rfl) (ok_spec_MulI _ _) (fun _ => rfl) fun r5 => ?_
  refine Run.bH (e := vIv) (gv := vAf) (by kernel_rfl) (by kernel_rfl) (ok_spec_l23Arc _) (fun _ => rfl) fun r6 => ?_
  refine Run.bH (e := vIv) (gv := vAf) (by kernel_rfl) (by kernel_rfl) (ok_spec_MulI _ _) (fun _ => rfl) fun r7 => ?_
  refine Run.bH (e := vIv) (gv := vAf) (by kernel_rfl) (by kernel_rfl) (ok_spec_l23Arc _) (fun _ => rfl) fun r8 => ?_
  refine Run.bH (e := vIv) (gv := vAf) (by kernel_rfl) (by kernel_rfl) (ok_spec_MulI _ _) (fun _ => rfl) fun r9 => ?_
  refine Run.bH (e := vIv) (gv := vAf) (by kernel_rfl) (by kernel_rfl) (ok_spec_NegI _) (fun _ => rfl) fun r10 => ?_
  refine Run.bH (e := vIv) (gv := vAf) (by kernel_rfl) (by kernel_rfl) (ok_spec_NegI _) (fun _ => rfl) fun r11 => ?_
  refine Run.bH (e := vIv) (gv := vAf) (by kernel_rfl) (by kernel_rfl) (ok_spec_NegI _) (fun _ => rfl) fun r12 => ?_
  refine Run.bH (e := vIv) (gv := vAf) (by kernel_rfl) (by kernel_rfl) (ok_spec_Quotient _ _) (fun _ => rfl) fun r13 => ?_
  refine Run.bH (e := vIv) (gv := vAf) (by kernel_rfl) (by kernel_rfl) (ok_spec_Quotient _ _) (fun _ => rfl) fun r14 => ?_
  refine Run.bH (e := vIv) (gv := vAf) (by kernel_rfl) (by kernel_rfl) (ok_spec_Quotient _ _) (fun _ => rfl) fun r15 => ?_
  exact Run.rh (k := 1) (by kernel_rfl) (by kernel_rfl)

theorem ok_spec_AffineOf (a0 : Sf) : Fun Try.prog 15 [] #[vSf a0] (vT_Af_I (F_spec_AffineOf a0)) [] := by
  refine Fun.ofH 400 E_ok mixed Try.func15 (by kernel_rfl) (by kernel_rfl) ?_
  unfold F_spec_AffineOf
  refine Run.sb (e := vB) (gv := vT_Af_I) [0] (by kernel_rfl) (by kernel_rfl) (by kernel_rfl) (by decide) (by kernel_rfl) (ok_spec_l23Ok__pSf _) (fun _ => rfl) fun r1 => ?_
  refine Run.jH (gv := vT_Af_I) (by kernel_rfl) (?_) (?_)
  · exact Run.rh (k := 0) (by kernel_rfl) (by kernel_rfl)
  · refine Run.sb (e := vAf) (gv := vT_Af_I) [0] (by kernel_rfl) (by kernel_rfl) (by kernel_rfl) (by decide) (by kernel_rfl) (ok_spec_l23Affine__pSf _) (fun _ => rfl) fun r2 => ?_
    exact Run.rh (k := 0) (by kernel_rfl) (by kernel_rfl)

theorem ok_impl_areWithin__s3 (b0_0 : I64) (b0_1 : I64) (b0_2 : I64) (a0 : I64) : Fun Try.prog 49 [(#[.int .i64 b0_0.val, .int .i64 b0_1.val, .int .i64 b0_2.val], 2)] #[vI a0, .slice (some ⟨0, 0, none⟩) 3 3] (vB (F_impl_areWithin__s3 b0_0 b0_1 b0_2 a0)) [(#[.int .i64 b0_0.val, .int .i64 b0_1.val, .int .i64 b0_2.val], 2)] := by
  refine Fun.ofH 400 E_ok mixed Try.func49 (by kernel_rfl) (by kernel_rfl) ?_
  unfold F_impl_areWithin__s3
  refine Run.u 400 E_ok mixed Try.func49 ?_
  refine Run.p [true, true] (by kernel_rfl) ?_
  refine Run.bH (e := vB) (gv := vB) (by kernel_rfl) (by kernel_rfl) (ok_impl_within _ _ _) (fun _ => rfl) fun r1 => ?_
  refine Run.jH (gv := vB) (by kernel_rfl) (?_) (?_)
  · exact Run.rh (k := 1) (by kernel_rfl) (by kernel_rfl)
  · refine Run.u 400 E_ok mixed Try.func49 ?_
    refine Run.p [true, true] (by kernel_rfl) ?_
    refine Run.bH (e := vB) (gv := vB) (by kernel_rfl) (by kernel_rfl) (ok_impl_within _ _ _) (fun _ => rfl) fun r2 => ?_
    refine Run.jH (gv := vB) (by kernel_rfl) (?_) (?_)
    · exact Run.rh (k := 1) (by kernel_rfl) (by kernel_rfl)
    · refine Run.u 400 E_ok mixed Try.func49 ?_
      refine Run.p [true, true] (by kernel_rfl) ?_
      refine Run.bH (e := vB) (gv := vB) (by kernel_rfl) (by kernel_rfl) (ok_impl_within _ _ _) (fun _ => rfl) fun r3 => ?_
      refine Run.jH (gv := vB) (by kernel_rfl) (?_) (?_)
      · exact Run.rh (k := 1) (by kernel_rfl) (by kernel_rfl)
      · refine Run.u 400 E_ok mixed Try.func49 ?_
        refine Run.p [false] (by kernel_rfl) ?_
        exact Run.rh (k := 1) (by kernel_rfl) (by kernel_rfl)

theorem ok_impl_areWithin__s1 (b0 : I64) (a0 : I64) : Fun Try.prog 49 [(#[.int .i64 b0.val], 2)] #[vI a0, .slice (some ⟨0, 0, none⟩) 1 1] (vB (F_impl_areWithin__s1 b0 a0)) [(#[.int .i64 b0.val], 2)] := by
  refine Fun.ofH 400 E_ok mixed Try.func49 (by kernel_rfl) (by kernel_rfl) ?_
  unfold F_impl_areWithin__s1
  refine Run.u 400 E_ok mixed Try.func49 ?_
  refine Run.p [true, true] (by kernel_rfl) ?_
  refine Run.bH (e := vB) (gv := vB) (by kernel_rfl) (by kernel_rfl) (ok_impl_within _ _ _) (fun _ => rfl) fun r1 => ?_
  refine Run.jH (gv := vB) (by kernel_rfl) (?_) (?_)
  · exact Run.rh (k := 1) (by kernel_rfl) (by kernel_rfl)
  · refine Run.u 400 E_ok mixed Try.func49 ?_
    refine Run.p [false] (by kernel_rfl) ?_
    exact Run.rh (k := 1) (by kernel_rfl) (by kernel_rfl)

theorem ok_impl_ValidShift (a0 : Sf) : Fun Try.prog 32 [] #[vSf a0] (vB (F_impl_ValidShift a0)) [] := by
  refine Fun.ofH 400 E_ok mixed Try.func32 (by kernel_rfl) (by kernel_rfl) ?_
  unfold F_impl_ValidShift
  refine Run.sb (e := vB) (gv := vB) [1] (by kernel_rfl) (by kernel_rfl) (by kernel_rfl) (by decide) (by kernel_rfl) (ok_impl_areWithin__s3 _ _ _ _) (fun _ => rfl) fun r1 => ?_
  refine Run.jH (gv := vB) (by kernel_rfl) (?_) (?_)
  · refine Run.p [true, true, true, true, true, true, true] (by kernel_rfl) ?_
    refine Run.sb (e := vB) (gv := vB) [2] (by kernel_rfl) (by kernel_rfl) (by kernel_rfl) (by decide) (by kernel_rfl) (ok_impl_areWithin__s3 _ _ _ _) (fun _ => rfl) fun r2 => ?_
    refine Run.p [true] (by kernel_rfl) ?_
    refine Run.jH (gv := vB) (by kernel_rfl) (?_) (?_)
    · refine Run.p [true, true, true] (by kernel_rfl) ?_
      refine Run.sb (e := vB) (gv := vB) [3] (by kernel_rfl) (by kernel_rfl) (by kernel_rfl) (by decide) (by kernel_rfl) (ok_impl_areWithin__s1 _ _) (fun _ => rfl) fun r3 => ?_
      refine Run.p [true] (by kernel_rfl) ?_
      exact Run.rh (k := 0) (by kernel_rfl) (by kernel_rfl)
    · refine Run.p [false, false, false, false] (by kernel_rfl) ?_
      exact Run.rh (k := 0) (by kernel_rfl) (by kernel_rfl)
  · refine Run.p [false, false, false, false, false, false, false, false, false, false, false, false, false] (by kernel_rfl) ?_
    exact Run.rh (k := 0) (by kernel_rfl) (by kernel_rfl)

theorem ok_impl_Integer (a0 : I64) : Fun Try.prog 50 [] #[vI a0] (vIv (F_impl_Integer a0)) [] := by
  refine Fun.ofH 400 E_ok mixed Try.func50 (by kernel_rfl) (by kernel_rfl) ?_
  unfold F_impl_Integer
  refine Run.bH (e := vB) (gv := vIv) (by kernel_rfl) (by kernel_rfl) (ok_impl_within _ _ _) (fun _ => rfl) fun r1 => ?_
  refine Run.jH (gv := vIv) (by kernel_rfl) (?_) (?_)
  · refine Run.bH (e := vIv) (gv := vIv) (by kernel_rfl) (by kernel_rfl) (ok_impl_Whole) (fun _ => rfl) fun r2 => ?_
    exact Run.rh (k := 0) (by kernel_rfl) (by kernel_rfl)
  · refine Run.bH (e := vIv) (gv := vIv) (by kernel_rfl) (by kernel_rfl) (ok_impl_bounded _ _ _) (fun _ => rfl) fun r3 => ?_
    exact Run.rh (k := 0) (by kernel_rfl) (by kernel_rfl)

def ren : Shelf.Ren := ⟨fun n => if n = 129 then 124 else if n = 134 then 123 else 0, fun n => if n = 3 then 3 else if n = 4 then 4 else if n = 5 then 5 else if n = 9 then 9 else if n = 46 then 109 else if n = 53 then 91 else 0, fun n => n⟩
theorem lays134 : Lays.n134 Try.prog ren := { mixed := mixed, f129 := by kernel_rfl, f134 := by kernel_rfl, t3 := by kernel_rfl, a3 := fun w => by kernel_rfl, z3 := fun w => by kernel_rfl, v3 := fun w => by kernel_rfl, t4 := by kernel_rfl, a4 := fun w => by kernel_rfl, z4 := fun w => by kernel_rfl, v4 := fun w => by kernel_rfl, t5 := by kernel_rfl, a5 := fun w => by kernel_rfl, z5 := fun w => by kernel_rfl, v5 := fun w => by kernel_rfl, t9 := by kernel_rfl, a9 := fun w => by kernel_rfl, z9 := fun w => by kernel_rfl, v9 := fun w => by kernel_rfl, t46 := by kernel_rfl, a46 := fun w => by kernel_rfl, z46 := fun w => by kernel_rfl, v46 := fun w => by kernel_rfl, t53 := by kernel_rfl, a53 := fun w => by kernel_rfl, z53 := fun w => by kernel_rfl, v53 := fun w => by kernel_rfl }
theorem ok_bits_LeadingZeros64 (a0 : U64) : Fun Try.prog 123 [] #[vU a0] (vI (F_bits_LeadingZeros64 a0)) [] := by
  refine Fun.ofCalls Try.func123 (by kernel_rfl) (by kernel_rfl) (by kernel_rfl) (by kernel_rfl) fun w => ?_
  refine (Any.bits_LeadingZeros64 lays134 a0.val w a0.lo a0.hi).mono ?_
  rintro e w' ⟨rfl, rfl⟩
  have h := Lib.bitLen_le a0.val.toNat 64 (by have q0 := U64.lo a0; have q1 := U64.hi a0; omega) (by have q0 := U64.lo a0; have q1 := U64.hi a0; omega)
  have e : vI (F_bits_LeadingZeros64 a0) = .int .i64 (64 - (Lib.bitLen a0.val.toNat : Int)) := by
    show Value.int .i64 (w64 (64 - (Lib.bitLen a0.val.toNat : Int))).val = _
    rw [w64_val]
    congr 1
    omega
  exact ⟨by rw [e], rfl⟩

theorem ok_bits_Div64_L1 : ∀ (fu : Nat) (x_y : U64) (x_s : U64) (x_yn1 : U64) (x_yn0 : U64) (x_un0 : U64) (x_q1 : U64) (x_un21 : U64) (x_rhat : U64) (x_q0 : U64) (q0 : x_rhat.val < 4294967296) (q1 : 1 ≤ x_yn1.val ∧ x_yn1.val ≤ 4294967295) (hm : (4294967296 - x_rhat.val).toNat < fu) (t : Array Value) (ht : maskA t [0, 1, 3, 4, 5, 11, 12, 13, 19, 20, 21, 22, 23, 24, 25, 26, 27, 28, 29, 30, 31, 32, 33, 34, 35, 36, 37, 38, 39, 40, 41, 42, 43, 44, 45, 46, 47, 48, 49, 50, 51, 52, 53, 54, 55, 56, 57, 58, 59, 60, 61, 62, 63, 64, 65, 66, 67, 68, 69, 70, 71, 72, 73, 74, 75, 76, 77, 78, 79, 80, 81, 82, 83, 84, 85, 86, 87, 88, 89, 90, 91, 92, 93, 94, 95, 96, 97, 98, 99, 100, 101, 102, 103, 104, 105, 106, 107, 108, 109, 110, 111, 112, 113, 114, 115, 116, 117, 118, 119, 120, 121, 122, 123, 124, 125, 126, 127, 128, 129, 130, 131, 132, 133, 134] = #[undef, undef, .int .u64 x_y.val, undef, undef, undef, .int .u64 0, .int .u64 0, .int .u64 x_s.val, .int .u64 x_yn1.val, .int .u64 x_yn0.val, undef, undef, undef, .int .u64 x_un0.val, .int .u64 x_q1.val, .int .u64 x_rhat.val, .int .u64 x_un21.val, .int .u64 x_q0.val, undef, undef, undef, undef, undef, undef, undef, undef, undef, undef, undef, undef, undef, undef, undef, undef, undef, undef, undef, undef, undef, undef, undef, undef, undef, undef, undef, undef, undef, undef, undef, undef, undef, undef, undef, undef, undef, undef, undef, undef, undef, undef, undef, undef, undef, undef, undef, undef, undef, undef, undef, undef, undef, undef, undef, undef, undef, undef, undef, undef, undef, undef, undef, undef, undef, undef, undef, undef, undef, undef, undef, undef, undef, undef, undef, undef, undef, undef, undef, undef, undef, undef, undef, undef, undef, undef, undef, undef, undef, undef, undef, undef, undef, undef, undef, undef, undef, undef, undef, undef, undef, undef, undef, undef, undef, undef, undef, undef, undef, undef, undef, undef, undef, undef, undef, undef]), Cfg Try.prog 121 (loopAt Try.f121 1) t [] (RvH [] (vT_U_U (F_bits_Div64_L1 fu x_y x_s x_yn1 x_yn0 x_un0 x_q1 x_un21 x_rhat x_q0))) := by
  intro fu
  induction fu with
  | zero => intro x_y x_s x_yn1 x_yn0 x_un0 x_q1 x_un21 x_rhat x_q0 q0 q1 hm; exact absurd hm (Nat.not_lt_zero _)
  | succ fu ih =>
    intro x_y x_s x_yn1 x_yn0 x_un0 x_q1 x_un21 x_rhat x_q0 q0 q1 hm t ht
    refine Cfg.round E_ok mixed Try.func121 ht fun g => ?_
    unfold F_bits_Div64_L1
    refine Run.jk (gv := vT_U_U) (by kernel_rfl) (fun h5 => ?_) (fun h5 => ?_)
    · refine Run.p [true, true, true, true, true, true, true, true, true] (by kernel_rfl) ?_
      refine Run.jk (gv := vT_U_U) (by kernel_rfl) (fun h6 => ?_) (fun h6 => ?_)
      · refine Run.k (c := (decide (0 ≤ x_s.val))) (by kernel_rfl) (by first | (have n2 := norm_yn a2 (by have := a0.lo; omega); rw [← hr2] at n2; exact decide_eq_true (by omega)) | (have p1 := q1.1; exact decide_eq_true (by omega)) | exact decide_eq_true (U64.lo _) | exact decide_eq_true (by have := U64.lo a0; omega)) ?_
        exact Run.rh (k := 0) (by kernel_rfl) (by kernel_rfl)
      · exact Run.l (by kernel_rfl) (by kernel_rfl) (by kernel_rfl) (by kernel_rfl) (ih x_y x_s x_yn1 x_yn0 x_un0 x_q1 x_un21 (wu64 (x_rhat.val + x_yn1.val)) (wu64 (x_q0.val - 1)) (by first | exact q1 | (have p1 := q1.1; have p2 := q1.2; have p3 := x_rhat.lo; simp only [wu64_val, decide_eq_true_eq, decide_eq_false_iff_not] at *; omega)) (by first | exact q1 | (have p1 := q1.1; have p2 := q1.2; have p3 := x_rhat.lo; simp only [wu64_val, decide_eq_true_eq, decide_eq_false_iff_not] at *; omega)) (by first | exact q1 | (have p1 := q1.1; have p2 := q1.2; have p3 := x_rhat.lo; simp only [wu64_val, decide_eq_true_eq, decide_eq_false_iff_not] at *; omega)))
    · refine Run.p [false, false, false, false, false, false, false, false] (by kernel_rfl) ?_
      refine Run.jk (gv := vT_U_U) (by kernel_rfl) (fun h7 => ?_) (fun h7 => ?_)
      · refine Run.jk (gv := vT_U_U) (by kernel_rfl) (fun h8 => ?_) (fun h8 => ?_)
        · refine Run.k (c := (decide (0 ≤ x_s.val))) (by kernel_rfl) (by first | (have n2 := norm_yn a2 (by have := a0.lo; omega); rw [← hr2] at n2; exact decide_eq_true (by omega)) | (have p1 := q1.1; exact decide_eq_true (by omega)) | exact decide_eq_true (U64.lo _) | exact decide_eq_true (by have := U64.lo a0; omega)) ?_
          exact Run.rh (k := 0) (by kernel_rfl) (by kernel_rfl)
        · exact Run.l (by kernel_rfl) (by kernel_rfl) (by kernel_rfl) (by kernel_rfl) (ih x_y x_s x_yn1 x_yn0 x_un0 x_q1 x_un21 (wu64 (x_rhat.val + x_yn1.val)) (wu64 (x_q0.val - 1)) (by first | exact q1 | (have p1 := q1.1; have p2 := q1.2; have p3 := x_rhat.lo; simp only [wu64_val, decide_eq_true_eq, decide_eq_false_iff_not] at *; omega)) (by first | exact q1 | (have p1 := q1.1; have p2 := q1.2; have p3 := x_rhat.lo; simp only [wu64_val, decide_eq_true_eq, decide_eq_false_iff_not] at *; omega)) (by first | exact q1 | (have p1 := q1.1; have p2 := q1.2; have p3 := x_rhat.lo; simp only [wu64_val, decide_eq_true_eq, decide_eq_false_iff_not] at *; omega)))
      · refine Run.k (c := (decide (0 ≤ x_s.val))) (by kernel_rfl) (by first | (have n2 := norm_yn a2 (by have := a0.lo; omega); rw [← hr2] at n2; exact decide_eq_true (by omega)) | (have p1 := q1.1; exact decide_eq_true (by omega)) | exact decide_eq_true (U64.lo _) | exact decide_eq_true (by have := U64.lo a0; omega)) ?_
        exact Run.rh (k := 0) (by kernel_rfl) (by kernel_rfl)

theorem ok_bits_Div64_L0 : ∀ (fu : Nat) (x_y : U64) (x_s : U64) (x_yn1 : U64) (x_yn0 : U64) (x_un32 : U64) (x_un1 : U64) (x_un0 : U64) (x_q1 : U64) (x_rhat : U64) (q0 : x_rhat.val < 4294967296) (q1 : 1 ≤ x_yn1.val ∧ x_yn1.val ≤ 4294967295) (hm : (4294967296 - x_rhat.val).toNat < fu) (t : Array Value) (ht : maskA t [0, 1, 3, 4, 5, 12, 17, 18, 19, 20, 21, 22, 23, 24, 25, 26, 27, 28, 29, 30, 31, 32, 33, 34, 35, 36, 37, 38, 39, 40, 41, 42, 43, 44, 45, 46, 47, 48, 49, 50, 51, 52, 53, 54, 55, 56, 57, 58, 59, 60, 61, 62, 63, 64, 65, 66, 67, 68, 69, 70, 71, 72, 73, 74, 75, 76, 77, 78, 79, 80, 81, 82, 83, 84, 85, 86, 87, 88, 89, 90, 91, 92, 93, 94, 95, 96, 97, 98, 99, 100, 101, 102, 103, 104, 105, 106, 107, 108, 109, 110, 111, 112, 113, 114, 115, 116, 117, 118, 119, 120, 121, 122, 123, 124, 125, 126, 127, 128, 129, 130, 131, 132, 133, 134] = #[undef, undef, .int .u64 x_y.val, undef, undef, undef, .int .u64 0, .int .u64 0, .int .u64 x_s.val, .int .u64 x_yn1.val, .int .u64 x_yn0.val, .int .u64 x_un32.val, undef, .int .u64 x_un1.val, .int .u64 x_un0.val, .int .u64 x_q1.val, .int .u64 x_rhat.val, undef, undef, undef, undef, undef, undef, undef, undef, undef, undef, undef, undef, undef, undef, undef, undef, undef, undef, undef, undef, undef, undef, undef, undef, undef, undef, undef, undef, undef, undef, undef, undef, undef, undef, undef, undef, undef, undef, undef, undef, undef, undef, undef, undef, undef, undef, undef, undef, undef, undef, undef, undef, undef, undef, undef, undef, undef, undef, undef, undef, undef, undef, undef, undef, undef, undef, undef, undef, undef, undef, undef, undef, undef, undef, undef, undef, undef, undef, undef, undef, undef, undef, undef, undef, undef, undef, undef, undef, undef, undef, undef, undef, undef, undef, undef, undef, undef, undef, undef, undef, undef, undef, undef, undef, undef, undef, undef, undef, undef, undef, undef, undef, undef, undef, undef, undef, undef, undef]), Cfg Try.prog 121 (loopAt Try.f121 0) t [] (RvH [] (vT_U_U (F_bits_Div64_L0 fu x_y x_s x_yn1 x_yn0 x_un32 x_un1 x_un0 x_q1 x_rhat))) := by
  intro fu
  induction fu with
  | zero => intro x_y x_s x_yn1 x_yn0 x_un32 x_un1 x_un0 x_q1 x_rhat q0 q1 hm; exact absurd hm (Nat.not_lt_zero _)
  | succ fu ih =>
    intro x_y x_s x_yn1 x_yn0 x_un32 x_un1 x_un0 x_q1 x_rhat q0 q1 hm t ht
    refine Cfg.round E_ok mixed Try.func121 ht fun g => ?_
    unfold F_bits_Div64_L0
    refine Run.jk (gv := vT_U_U) (by kernel_rfl) (fun h3 => ?_) (fun h3 => ?_)
    · refine Run.p [true, true, true, true, true, true, true, true, true] (by kernel_rfl) ?_
      refine Run.jk (gv := vT_U_U) (by kernel_rfl) (fun h4 => ?_) (fun h4 => ?_)
      · refine Run.k (c := (decide (x_yn1.val ≠ 0))) (by kernel_rfl) (by first | (have n2 := norm_yn a2 (by have := a0.lo; omega); rw [← hr2] at n2; exact decide_eq_true (by omega)) | (have p1 := q1.1; exact decide_eq_true (by omega)) | exact decide_eq_true (U64.lo _) | exact decide_eq_true (by have := U64.lo a0; omega)) ?_
        exact Run.l (by kernel_rfl) (by kernel_rfl) (by kernel_rfl) (by kernel_rfl) (ok_bits_Div64_L1 ((4294967296 - (wu64 ((wu64 ((wu64 ((wu64 (x_un32.val * 4294967296)).val + x_un1.val)).val - (wu64 ((wu64 (x_q1.val - 1)).val * x_y.val)).val)).val - (wu64 ((wu64 (Int.tdiv (wu64 ((wu64 ((wu64 (x_un32.val * 4294967296)).val + x_un1.val)).val - (wu64 ((wu64 (x_q1.val - 1)).val * x_y.val)).val)).val x_yn1.val)).val * x_yn1.val)).val)).val).toNat + 1) x_y x_s x_yn1 x_yn0 x_un0 (wu64 (x_q1.val - 1)) (wu64 ((wu64 ((wu64 (x_un32.val * 4294967296)).val + x_un1.val)).val - (wu64 ((wu64 (x_q1.val - 1)).val * x_y.val)).val)) (wu64 ((wu64 ((wu64 ((wu64 (x_un32.val * 4294967296)).val + x_un1.val)).val - (wu64 ((wu64 (x_q1.val - 1)).val * x_y.val)).val)).val - (wu64 ((wu64 (Int.tdiv (wu64 ((wu64 ((wu64 (x_un32.val * 4294967296)).val + x_un1.val)).val - (wu64 ((wu64 (x_q1.val - 1)).val * x_y.val)).val)).val x_yn1.val)).val * x_yn1.val)).val)) (wu64 (Int.tdiv (wu64 ((wu64 ((wu64 (x_un32.val * 4294967296)).val + x_un1.val)).val - (wu64 ((wu64 (x_q1.val - 1)).val * x_y.val)).val)).val x_yn1.val)) (by first | exact rem_lt _ _ q1.1 q1.2 | exact q1 | exact Nat.lt_succ_self _) (by first | exact rem_lt _ _ q1.1 q1.2 | exact q1 | exact Nat.lt_succ_self _) (by first | exact rem_lt _ _ q1.1 q1.2 | exact q1 | exact Nat.lt_succ_self _))
      · exact Run.l (by kernel_rfl) (by kernel_rfl) (by kernel_rfl) (by kernel_rfl) (ih x_y x_s x_yn1 x_yn0 x_un32 x_un1 x_un0 (wu64 (x_q1.val - 1)) (wu64 (x_rhat.val + x_yn1.val)) (by first | exact q1 | (have p1 := q1.1; have p2 := q1.2; have p3 := x_rhat.lo; simp only [wu64_val, decide_eq_true_eq, decide_eq_false_iff_not] at *; omega)) (by first | exact q1 | (have p1 := q1.1; have p2 := q1.2; have p3 := x_rhat.lo; simp only [wu64_val, decide_eq_true_eq, decide_eq_false_iff_not] at *; omega)) (by first | exact q1 | (have p1 := q1.1; have p2 := q1.2; have p3 := x_rhat.lo; simp only [wu64_val, decide_eq_true_eq, decide_eq_false_iff_not] at *; omega)))
    · refine Run.p [false, false, false, false, false, false, false, false] (by kernel_rfl) ?_
      refine Run.jk (gv := vT_U_U) (by kernel_rfl) (fun h9 => ?_) (fun h9 => ?_)
      · refine Run.jk (gv := vT_U_U) (by kernel_rfl) (fun h10 => ?_) (fun h10 => ?_)
        · refine Run.k (c := (decide (x_yn1.val ≠ 0))) (by kernel_rfl) (by first | (have n2 := norm_yn a2 (by have := a0.lo; omega); rw [← hr2] at n2; exact decide_eq_true (by omega)) | (have p1 := q1.1; exact decide_eq_true (by omega)) | exact decide_eq_true (U64.lo _) | exact decide_eq_true (by have := U64.lo a0; omega)) ?_
          exact Run.l (by kernel_rfl) (by kernel_rfl) (by kernel_rfl) (by kernel_rfl) (ok_bits_Div64_L1 ((4294967296 - (wu64 ((wu64 ((wu64 ((wu64 (x_un32.val * 4294967296)).val + x_un1.val)).val - (wu64 ((wu64 (x_q1.val - 1)).val * x_y.val)).val)).val - (wu64 ((wu64 (Int.tdiv (wu64 ((wu64 ((wu64 (x_un32.val * 4294967296)).val + x_un1.val)).val - (wu64 ((wu64 (x_q1.val - 1)).val * x_y.val)).val)).val x_yn1.val)).val * x_yn1.val)).val)).val).toNat + 1) x_y x_s x_yn1 x_yn0 x_un0 (wu64 (x_q1.val - 1)) (wu64 ((wu64 ((wu64 (x_un32.val * 4294967296)).val + x_un1.val)).val - (wu64 ((wu64 (x_q1.val - 1)).val * x_y.val)).val)) (wu64 ((wu64 ((wu64 ((wu64 (x_un32.val * 4294967296)).val + x_un1.val)).val - (wu64 ((wu64 (x_q1.val - 1)).val * x_y.val)).val)).val - (wu64 ((wu64 (Int.tdiv (wu64 ((wu64 ((wu64 (x_un32.val * 4294967296)).val + x_un1.val)).val - (wu64 ((wu64 (x_q1.val - 1)).val * x_y.val)).val)).val x_yn1.val)).val * x_yn1.val)).val)) (wu64 (Int.tdiv (wu64 ((wu64 ((wu64 (x_un32.val * 4294967296)).val + x_un1.val)).val - (wu64 ((wu64 (x_q1.val - 1)).val * x_y.val)).val)).val x_yn1.val)) (by first | exact rem_lt _ _ q1.1 q1.2 | exact q1 | exact Nat.lt_succ_self _) (by first | exact rem_lt _ _ q1.1 q1.2 | exact q1 | exact Nat.lt_succ_self _) (by first | exact rem_lt _ _ q1.1 q1.2 | exact q1 | exact Nat.lt_succ_self _))
        · exact Run.l (by kernel_rfl) (by kernel_rfl) (by kernel_rfl) (by kernel_rfl) (ih x_y x_s x_yn1 x_yn0 x_un32 x_un1 x_un0 (wu64 (x_q1.val - 1)) (wu64 (x_rhat.val + x_yn1.val)) (by first | exact q1 | (have p1 := q1.1; have p2 := q1.2; have p3 := x_rhat.lo; simp only [wu64_val, decide_eq_true_eq, decide_eq_false_iff_not] at *; omega)) (by first | exact q1 | (have p1 := q1.1; have p2 := q1.2; have p3 := x_rhat.lo; simp only [wu64_val, decide_eq_true_eq, decide_eq_false_iff_not] at *; omega)) (by first | exact q1 | (have p1 := q1.1; have p2 := q1.2; have p3 := x_rhat.lo; simp only [wu64_val, decide_eq_true_eq, decide_eq_false_iff_not] at *; omega)))
      · refine Run.k (c := (decide (x_yn1.val ≠ 0))) (by kernel_rfl) (by first | (have n2 := norm_yn a2 (by have := a0.lo; omega); rw [← hr2] at n2; exact decide_eq_true (by omega)) | (have p1 := q1.1; exact decide_eq_true (by omega)) | exact decide_eq_true (U64.lo _) | exact decide_eq_true (by have := U64.lo a0; omega)) ?_
        exact Run.l (by kernel_rfl) (by kernel_rfl) (by kernel_rfl) (by kernel_rfl) (ok_bits_Div64_L1 ((4294967296 - (wu64 ((wu64 ((wu64 ((wu64 (x_un32.val * 4294967296)).val + x_un1.val)).val - (wu64 (x_q1.val * x_y.val)).val)).val - (wu64 ((wu64 (Int.tdiv (wu64 ((wu64 ((wu64 (x_un32.val * 4294967296)).val + x_un1.val)).val - (wu64 (x_q1.val * x_y.val)).val)).val x_yn1.val)).val * x_yn1.val)).val)).val).toNat + 1) x_y x_s x_yn1 x_yn0 x_un0 x_q1 (wu64 ((wu64 ((wu64 (x_un32.val * 4294967296)).val + x_un1.val)).val - (wu64 (x_q1.val * x_y.val)).val)) (wu64 ((wu64 ((wu64 ((wu64 (x_un32.val * 4294967296)).val + x_un1.val)).val - (wu64 (x_q1.val * x_y.val)).val)).val - (wu64 ((wu64 (Int.tdiv (wu64 ((wu64 ((wu64 (x_un32.val * 4294967296)).val + x_un1.val)).val - (wu64 (x_q1.val * x_y.val)).val)).val x_yn1.val)).val * x_yn1.val)).val)) (wu64 (Int.tdiv (wu64 ((wu64 ((wu64 (x_un32.val * 4294967296)).val + x_un1.val)).val - (wu64 (x_q1.val * x_y.val)).val)).val x_yn1.val)) (by first | exact rem_lt _ _ q1.1 q1.2 | exact q1 | exact Nat.lt_succ_self _) (by first | exact rem_lt _ _ q1.1 q1.2 | exact q1 | exact Nat.lt_succ_self _) (by first | exact rem_lt _ _ q1.1 q1.2 | exact q1 | exact Nat.lt_succ_self _))

theorem ok_bits_Div64 (a0 : U64) (a1 : U64) (a2 : U64) (p0 : a0.val < a2.val) : Fun Try.prog 121 [] #[vU a0, vU a1, vU a2] (vT_U_U (F_bits_Div64 a0 a1 a2)) [] := by
  refine Fun.ofH 400 E_ok mixed Try.func121 (by kernel_rfl) (by kernel_rfl) ?_
  unfold F_bits_Div64
  refine Run.kn (c := (a2.val == 0)) (by kernel_rfl) (by have q := a0.lo; simp; omega) ?_
  refine Run.kn (c := (decide (a2.val ≤ a0.val))) (by kernel_rfl) (by simp; omega) ?_
  refine Run.jk (gv := vT_U_U) (by kernel_rfl) (fun h1 => ?_) (fun h1 => ?_)
  · refine Run.k (c := (decide (a2.val ≠ 0))) (by kernel_rfl) (by first | (have n2 := norm_yn a2 (by have := a0.lo; omega); rw [← hr2] at n2; exact decide_eq_true (by omega)) | (have p1 := q1.1; exact decide_eq_true (by omega)) | exact decide_eq_true (U64.lo _) | exact decide_eq_true (by have := U64.lo a0; omega)) ?_
    refine Run.k (c := (decide (a2.val ≠ 0))) (by kernel_rfl) (by first | (have n2 := norm_yn a2 (by have := a0.lo; omega); rw [← hr2] at n2; exact decide_eq_true (by omega)) | (have p1 := q1.1; exact decide_eq_true (by omega)) | exact decide_eq_true (U64.lo _) | exact decide_eq_true (by have := U64.lo a0; omega)) ?_
    exact Run.rh (k := 0) (by kernel_rfl) (by kernel_rfl)
  · refine Run.bk (e := vI) (gv := vT_U_U) (by kernel_rfl) (by kernel_rfl) (ok_bits_LeadingZeros64 _) (fun _ => rfl) fun r2 hr2 => ?_
    refine Run.k (c := (decide (0 ≤ (wu64 r2.val).val))) (by kernel_rfl) (by first | (have n2 := norm_yn a2 (by have := a0.lo; omega); rw [← hr2] at n2; exact decide_eq_true (by omega)) | (have p1 := q1.1; exact decide_eq_true (by omega)) | exact decide_eq_true (U64.lo _) | exact decide_eq_true (by have := U64.lo a0; omega)) ?_
    refine Run.p [true] (by kernel_rfl) ?_
    refine Run.k (c := (decide (0 ≤ (wu64 r2.val).val))) (by kernel_rfl) (by first | (have n2 := norm_yn a2 (by have := a0.lo; omega); rw [← hr2] at n2; exact decide_eq_true (by omega)) | (have p1 := q1.1; exact decide_eq_true (by omega)) | exact decide_eq_true (U64.lo _) | exact decide_eq_true (by have := U64.lo a0; omega)) ?_
    refine Run.k (c := (decide (0 ≤ (wu64 (64 - (wu64 r2.val).val)).val))) (by kernel_rfl) (by first | (have n2 := norm_yn a2 (by have := a0.lo; omega); rw [← hr2] at n2; exact decide_eq_true (by omega)) | (have p1 := q1.1; exact decide_eq_true (by omega)) | exact decide_eq_true (U64.lo _) | exact decide_eq_true (by have := U64.lo a0; omega)) ?_
    refine Run.k (c := (decide (0 ≤ (wu64 r2.val).val))) (by kernel_rfl) (by first | (have n2 := norm_yn a2 (by have := a0.lo; omega); rw [← hr2] at n2; exact decide_eq_true (by omega)) | (have p1 := q1.1; exact decide_eq_true (by omega)) | exact decide_eq_true (U64.lo _) | exact decide_eq_true (by have := U64.lo a0; omega)) ?_
    refine Run.p [true] (by kernel_rfl) ?_
    refine Run.k (c := (decide ((ishr (ishl .u64 a2.val (wu64 r2.val).val) 32).val ≠ 0))) (by kernel_rfl) (by first | (have n2 := norm_yn a2 (by have := a0.lo; omega); rw [← hr2] at n2; exact decide_eq_true (by omega)) | (have p1 := q1.1; exact decide_eq_true (by omega)) | exact decide_eq_true (U64.lo _) | exact decide_eq_true (by have := U64.lo a0; omega)) ?_
    exact Run.l (by kernel_rfl) (by kernel_rfl) (by kernel_rfl) (by kernel_rfl) (ok_bits_Div64_L0 ((4294967296 - (wu64 ((ior .u64 (ishl .u64 a0.val (wu64 r2.val).val).val (ishr a1 (wu64 (64 - (wu64 r2.val).val)).val).val).val - (wu64 ((wu64 (Int.tdiv (ior .u64 (ishl .u64 a0.val (wu64 r2.val).val).val (ishr a1 (wu64 (64 - (wu64 r2.val).val)).val).val).val (ishr (ishl .u64 a2.val (wu64 r2.val).val) 32).val)).val * (ishr (ishl .u64 a2.val (wu64 r2.val).val) 32).val)).val)).val).toNat + 1) (ishl .u64 a2.val (wu64 r2.val).val) (wu64 r2.val) (ishr (ishl .u64 a2.val (wu64 r2.val).val) 32) (iand .u64 (ishl .u64 a2.val (wu64 r2.val).val).val 4294967295) (ior .u64 (ishl .u64 a0.val (wu64 r2.val).val).val (ishr a1 (wu64 (64 - (wu64 r2.val).val)).val).val) (ishr (ishl .u64 a1.val (wu64 r2.val).val) 32) (iand .u64 (ishl .u64 a1.val (wu64 r2.val).val).val 4294967295) (wu64 (Int.tdiv (ior .u64 (ishl .u64 a0.val (wu64 r2.val).val).val (ishr a1 (wu64 (64 - (wu64 r2.val).val)).val).val).val (ishr (ishl .u64 a2.val (wu64 r2.val).val) 32).val)) (wu64 ((ior .u64 (ishl .u64 a0.val (wu64 r2.val).val).val (ishr a1 (wu64 (64 - (wu64 r2.val).val)).val).val).val - (wu64 ((wu64 (Int.tdiv (ior .u64 (ishl .u64 a0.val (wu64 r2.val).val).val (ishr a1 (wu64 (64 - (wu64 r2.val).val)).val).val).val (ishr (ishl .u64 a2.val (wu64 r2.val).val) 32).val)).val * (ishr (ishl .u64 a2.val (wu64 r2.val).val) 32).val)).val)) (by have n2 := norm_yn a2 (by have := a0.lo; omega); rw [← hr2] at n2; first | exact rem_lt _ _ n2.1 n2.2 | exact n2 | exact Nat.lt_succ_self _) (by have n2 := norm_yn a2 (by have := a0.lo; omega); rw [← hr2] at n2; first | exact rem_lt _ _ n2.1 n2.2 | exact n2 | exact Nat.lt_succ_self _) (by have n2 := norm_yn a2 (by have := a0.lo; omega); rw [← hr2] at n2; first | exact rem_lt _ _ n2.1 n2.2 | exact n2 | exact Nat.lt_succ_self _))

theorem ok_impl_divided (a0 : U64) (a1 : U64) (a2 : U64) (p0 : a2.val ≠ 0) : Fun Try.prog 116 [] #[vU a0, vU a1, vU a2] (vT_U_U_U (F_impl_divided a0 a1 a2)) [] := by
  refine Fun.ofH 400 E_ok mixed Try.func116 (by kernel_rfl) (by kernel_rfl) ?_
  unfold F_impl_divided
  refine Run.k (c := (decide (a2.val ≠ 0))) (by kernel_rfl) (by first | exact decide_eq_true p0 | exact imod_lt _ _ p0) ?_
  refine Run.k (c := (decide (a2.val ≠ 0))) (by kernel_rfl) (by first | exact decide_eq_true p0 | exact imod_lt _ _ p0) ?_
  refine Run.bk (e := vT_U_U) (gv := vT_U_U_U) (by kernel_rfl) (by kernel_rfl) (ok_bits_Div64 _ _ _ (by first | exact decide_eq_true p0 | exact imod_lt _ _ p0)) (fun _ => rfl) fun r1 hr1 => ?_
  exact Run.rh (k := 0) (by kernel_rfl) (by kernel_rfl)

theorem ok_impl_Wide_negative (a0 : Wd) : Fun Try.prog 117 [] #[vWd a0] (vWd (F_impl_Wide_negative a0)) [] := by
  refine Fun.ofH 400 E_ok mixed Try.func117 (by kernel_rfl) (by kernel_rfl) ?_
  unfold F_impl_Wide_negative
  refine Run.k (c := (decide (0 ≤ (0 : Int)) && (decide (0 ≤ (a0.lo.val : Int)) && (decide ((a0.lo.val : Int) ≤ 18446744073709551615) && (decide (0 ≤ (0 : Int)) && decide ((0 : Int) ≤ 1)))))) (by kernel_rfl) (by simp only [Bool.and_eq_true, decide_eq_true_eq]; exact ⟨U64.lo (cu64 0), U64.lo a0.lo, U64.hi a0.lo, U64.lo (cu64 0), (by decide)⟩) ?_
  refine Run.k (c := (decide (0 ≤ (0 : Int)) && (decide (0 ≤ ((wu64 a0.hi.val).val : Int)) && (decide (((wu64 a0.hi.val).val : Int) ≤ 18446744073709551615) && (decide (0 ≤ ((sbb_hi (cu64 0) a0.lo (cu64 0)).val : Int)) && decide (((sbb_hi (cu64 0) a0.lo (cu64 0)).val : Int) ≤ 1)))))) (by kernel_rfl) (by simp only [Bool.and_eq_true, decide_eq_true_eq]; exact ⟨U64.lo (cu64 0), U64.lo (wu64 a0.hi.val), U64.hi (wu64 a0.hi.val), U64.lo (sbb_hi (cu64 0) a0.lo (cu64 0)), (sbb_hi_le _ _ _)⟩) ?_
  exact Run.rh (k := 0) (by kernel_rfl) (by kernel_rfl)

theorem ok_impl_WideDiv (a0 : Wd) (a1 : I64) : Fun Try.prog 106 [] #[vWd a0, vI a1] (vT_Wd_I_B (F_impl_WideDiv a0 a1)) [] := by
  refine Fun.ofH 400 E_ok mixed Try.func106 (by kernel_rfl) (by kernel_rfl) ?_
  unfold F_impl_WideDiv
  refine Run.jk (gv := vT_Wd_I_B) (by kernel_rfl) (fun h1 => ?_) (fun h1 => ?_)
  · exact Run.rh (k := 0) (by kernel_rfl) (by kernel_rfl)
  · refine Run.jk (gv := vT_Wd_I_B) (by kernel_rfl) (fun h2 => ?_) (fun h2 => ?_)
    · refine Run.bk (e := vT_U_U_U) (gv := vT_Wd_I_B) (by kernel_rfl) (by kernel_rfl) (ok_impl_divided _ _ _ (by have q := a1.hi; simp only [wu64_val, decide_eq_true_eq, decide_eq_false_iff_not] at *; omega)) (fun _ => rfl) fun r3 hr3 => ?_
      exact Run.rh (k := 0) (by kernel_rfl) (by kernel_rfl)
    · refine Run.bk (e := vWd) (gv := vT_Wd_I_B) (by kernel_rfl) (by kernel_rfl) (ok_impl_Wide_negative _) (fun _ => rfl) fun r4 hr4 => ?_
      refine Run.bk (e := vT_U_U_U) (gv := vT_Wd_I_B) (by kernel_rfl) (by kernel_rfl) (ok_impl_divided _ _ _ (by have q := a1.hi; simp only [wu64_val, decide_eq_true_eq, decide_eq_false_iff_not] at *; omega)) (fun _ => rfl) fun r5 hr5 => ?_
      refine Run.jk (gv := vT_Wd_I_B) (by kernel_rfl) (fun h6 => ?_) (fun h6 => ?_)
      · refine Run.bk (e := vWd) (gv := vT_Wd_I_B) (by kernel_rfl) (by kernel_rfl) (ok_impl_Wide_negative _) (fun _ => rfl) fun r7 hr7 => ?_
        exact Run.rh (k := 0) (by kernel_rfl) (by kernel_rfl)
      · refine Run.k (c := (decide (0 ≤ (r5.2.1.val : Int)) && (decide (0 ≤ (1 : Int)) && (decide (0 ≤ (0 : Int)) && decide ((0 : Int) ≤ 1))))) (by kernel_rfl) (by simp only [Bool.and_eq_true, decide_eq_true_eq]; exact ⟨U64.lo r5.2.1, U64.lo (cu64 1), U64.lo (cu64 0), (by decide)⟩) ?_
        refine Run.bk (e := vWd) (gv := vT_Wd_I_B) (by kernel_rfl) (by kernel_rfl) (ok_impl_Wide_negative _) (fun _ => rfl) fun r8 hr8 => ?_
        exact Run.rh (k := 0) (by kernel_rfl) (by kernel_rfl)

theorem ok_impl_MulDivFloor (a0 : I64) (a1 : I64) (a2 : I64) : Fun Try.prog 94 [] #[vI a0, vI a1, vI a2] (vT_I_B (F_impl_MulDivFloor a0 a1 a2)) [] := by
  refine Fun.ofH 400 E_ok mixed Try.func94 (by kernel_rfl) (by kernel_rfl) ?_
  unfold F_impl_MulDivFloor
  refine Run.bH (e := vWd) (gv := vT_I_B) (by kernel_rfl) (by kernel_rfl) (ok_impl_WideMul _ _) (fun _ => rfl) fun r1 => ?_
  refine Run.bH (e := vT_Wd_I_B) (gv := vT_I_B) (by kernel_rfl) (by kernel_rfl) (ok_impl_WideDiv _ _) (fun _ => rfl) fun r2 => ?_
  refine Run.jH (gv := vT_I_B) (by kernel_rfl) (?_) (?_)
  · exact Run.rh (k := 0) (by kernel_rfl) (by kernel_rfl)
  · refine Run.bH (e := vT_I_B) (gv := vT_I_B) (by kernel_rfl) (by kernel_rfl) (ok_impl_WideInt _) (fun _ => rfl) fun r3 => ?_
    exact Run.rh (k := 0) (by kernel_rfl) (by kernel_rfl)

theorem ok_impl_FixFloor (a0 : I64) (a1 : I64) : Fun Try.prog 76 [] #[vI a0, vI a1] (vT_I_B (F_impl_FixFloor a0 a1)) [] := by
  refine Fun.ofH 400 E_ok mixed Try.func76 (by kernel_rfl) (by kernel_rfl) ?_
  unfold F_impl_FixFloor
  refine Run.bH (e := vT_I_B) (gv := vT_I_B) (by kernel_rfl) (by kernel_rfl) (ok_impl_MulDivFloor _ _ _) (fun _ => rfl) fun r1 => ?_
  refine Run.bH (e := vT_I_B) (gv := vT_I_B) (by kernel_rfl) (by kernel_rfl) (ok_impl_fixed _ _) (fun _ => rfl) fun r2 => ?_
  exact Run.rh (k := 0) (by kernel_rfl) (by kernel_rfl)

theorem ok_impl_mulDivCeil (a0 : I64) (a1 : I64) (a2 : I64) : Fun Try.prog 95 [] #[vI a0, vI a1, vI a2] (vT_I_B (F_impl_mulDivCeil a0 a1 a2)) [] := by
  refine Fun.ofH 400 E_ok mixed Try.func95 (by kernel_rfl) (by kernel_rfl) ?_
  unfold F_impl_mulDivCeil
  refine Run.bH (e := vWd) (gv := vT_I_B) (by kernel_rfl) (by kernel_rfl) (ok_impl_WideMul _ _) (fun _ => rfl) fun r1 => ?_
  refine Run.bH (e := vT_Wd_I_B) (gv := vT_I_B) (by kernel_rfl) (by kernel_rfl) (ok_impl_WideDiv _ _) (fun _ => rfl) fun r2 => ?_
  refine Run.jH (gv := vT_I_B) (by kernel_rfl) (?_) (?_)
  · exact Run.rh (k := 0) (by kernel_rfl) (by kernel_rfl)
  · refine Run.bH (e := vT_I_B) (gv := vT_I_B) (by kernel_rfl) (by kernel_rfl) (ok_impl_WideInt _) (fun _ => rfl) fun r3 => ?_
    refine Run.jH (gv := vT_I_B) (by kernel_rfl) (?_) (?_)
    · refine Run.p [true, true, true, true, true] (by kernel_rfl) ?_
      exact Run.rh (k := 0) (by kernel_rfl) (by kernel_rfl)
    · refine Run.p [false, false] (by kernel_rfl) ?_
      refine Run.jH (gv := vT_I_B) (by kernel_rfl) (?_) (?_)
      · refine Run.p [true, false, true, false] (by kernel_rfl) ?_
        refine Run.jH (gv := vT_I_B) (by kernel_rfl) (?_) (?_)
        · exact Run.rh (k := 0) (by kernel_rfl) (by kernel_rfl)
        · refine Run.jH (gv := vT_I_B) (by kernel_rfl) (?_) (?_)
          · exact Run.rh (k := 0) (by kernel_rfl) (by kernel_rfl)
          · exact Run.rh (k := 0) (by kernel_rfl) (by kernel_rfl)
      · refine Run.p [false, false, false, false, false] (by kernel_rfl) ?_
        refine Run.jH (gv := vT_I_B) (by kernel_rfl) (?_) (?_)
        · exact Run.rh (k := 0) (by kernel_rfl) (by kernel_rfl)
        · exact Run.rh (k := 0) (by kernel_rfl) (by kernel_rfl)

theorem ok_impl_FixCeil (a0 : I64) (a1 : I64) : Fun Try.prog 77 [] #[vI a0, vI a1] (vT_I_B (F_impl_FixCeil a0 a1)) [] := by
  refine Fun.ofH 400 E_ok mixed Try.func77 (by kernel_rfl) (by kernel_rfl) ?_
  unfold F_impl_FixCeil
  refine Run.bH (e := vT_I_B) (gv := vT_I_B) (by kernel_rfl) (by kernel_rfl) (ok_impl_mulDivCeil _ _ _) (fun _ => rfl) fun r1 => ?_
  refine Run.bH (e := vT_I_B) (gv := vT_I_B) (by kernel_rfl) (by kernel_rfl) (ok_impl_fixed _ _) (fun _ => rfl) fun r2 => ?_
  exact Run.rh (k := 0) (by kernel_rfl) (by kernel_rfl)

theorem ok_impl_Quotient (a0 : I64) (a1 : I64) : Fun Try.prog 51 [] #[vI a0, vI a1] (vIv (F_impl_Quotient a0 a1)) [] := by
  refine Fun.ofH 400 E_ok mixed Try.func51 (by kernel_rfl) (by kernel_rfl) ?_
  unfold F_impl_Quotient
  refine Run.jH (gv := vIv) (by kernel_rfl) (?_) (?_)
  · refine Run.jH (gv := vIv) (by kernel_rfl) (?_) (?_)
    · refine Run.p [true, true, true] (by kernel_rfl) ?_
      refine Run.bH (e := vIv) (gv := vIv) (by kernel_rfl) (by kernel_rfl) (ok_impl_Whole) (fun _ => rfl) fun r1 => ?_
      exact Run.rh (k := 0) (by kernel_rfl) (by kernel_rfl)
    · refine Run.p [false, false] (by kernel_rfl) ?_
      refine Run.jH (gv := vIv) (by kernel_rfl) (?_) (?_)
      · refine Run.bH (e := vIv) (gv := vIv) (by kernel_rfl) (by kernel_rfl) (ok_impl_Whole) (fun _ => rfl) fun r2 => ?_
        exact Run.rh (k := 0) (by kernel_rfl) (by kernel_rfl)
      · refine Run.bH (e := vT_I_B) (gv := vIv) (by kernel_rfl) (by kernel_rfl) (ok_impl_FixFloor _ _) (fun _ => rfl) fun r3 => ?_
        refine Run.bH (e := vT_I_B) (gv := vIv) (by kernel_rfl) (by kernel_rfl) (ok_impl_FixCeil _ _) (fun _ => rfl) fun r4 => ?_
        refine Run.jH (gv := vIv) (by kernel_rfl) (?_) (?_)
        · refine Run.p [true] (by kernel_rfl) ?_
          refine Run.bH (e := vIv) (gv := vIv) (by kernel_rfl) (by kernel_rfl) (ok_impl_bounded _ _ _) (fun _ => rfl) fun r5 => ?_
          exact Run.rh (k := 0) (by kernel_rfl) (by kernel_rfl)
        · refine Run.p [false] (by kernel_rfl) ?_
          refine Run.bH (e := vIv) (gv := vIv) (by kernel_rfl) (by kernel_rfl) (ok_impl_bounded _ _ _) (fun _ => rfl) fun r6 => ?_
          exact Run.rh (k := 0) (by kernel_rfl) (by kernel_rfl)
  · refine Run.bH (e := vT_I_B) (gv := vIv) (by kernel_rfl) (by kernel_rfl) (ok_impl_FixFloor _ _) (fun _ => rfl) fun r7 => ?_
    refine Run.bH (e := vT_I_B) (gv := vIv) (by kernel_rfl) (by kernel_rfl) (ok_impl_FixCeil _ _) (fun _ => rfl) fun r8 => ?_
    refine Run.jH (gv := vIv) (by kernel_rfl) (?_) (?_)
    · refine Run.p [true] (by kernel_rfl) ?_
      refine Run.bH (e := vIv) (gv := vIv) (by kernel_rfl) (by kernel_rfl) (ok_impl_bounded _ _ _) (fun _ => rfl) fun r9 => ?_
      exact Run.rh (k := 0) (by kernel_rfl) (by kernel_rfl)
    · refine Run.p [false] (by kernel_rfl) ?_
      refine Run.bH (e := vIv) (gv := vIv) (by kernel_rfl) (by kernel_rfl) (ok_impl_bounded _ _ _) (fun _ => rfl) fun r10 => ?_
      exact Run.rh (k := 0) (by kernel_rfl) (by kernel_rfl)

theorem ok_impl_IsWhole (a0 : Iv) : Fun Try.prog 64 [] #[vIv a0] (vB (F_impl_IsWhole a0)) [] := by
  refine Fun.ofH 400 E_ok mixed Try.func64 (by kernel_rfl) (by kernel_rfl) ?_
  unfold F_impl_IsWhole
  refine Run.bH (e := vB) (gv := vB) (by kernel_rfl) (by kernel_rfl) (ok_impl_ValidInterval _) (fun _ => rfl) fun r1 => ?_
  exact Run.rh (k := 0) (by kernel_rfl) (by kernel_rfl)

theorem ok_impl_NegI (a0 : Iv) : Fun Try.prog 37 [] #[vIv a0] (vIv (F_impl_NegI a0)) [] := by
  refine Fun.ofH 400 E_ok mixed Try.func37 (by kernel_rfl) (by kernel_rfl) ?_
  unfold F_impl_NegI
  refine Run.bH (e := vB) (gv := vIv) (by kernel_rfl) (by kernel_rfl) (ok_impl_IsWhole _) (fun _ => rfl) fun r1 => ?_
  refine Run.jH (gv := vIv) (by kernel_rfl) (?_) (?_)
  · refine Run.bH (e := vIv) (gv := vIv) (by kernel_rfl) (by kernel_rfl) (ok_impl_Whole) (fun _ => rfl) fun r2 => ?_
    exact Run.rh (k := 0) (by kernel_rfl) (by kernel_rfl)
  · exact Run.rh (k := 0) (by kernel_rfl) (by kernel_rfl)

theorem ok_impl_TurnI_r : ∀ (fu : Nat) (a0 : I64) (hm : min (0 - a0.val).toNat 1 < fu), Fun Try.prog 81 [] #[vI a0] (vIv (F_impl_TurnI_r fu a0)) [] := by
  intro fu
  induction fu with
  | zero => intro a0 hm; exact absurd hm (Nat.not_lt_zero _)
  | succ fu ih =>
    intro a0 hm
    refine Fun.ofH 400 E_ok mixed Try.func81 (by kernel_rfl) (by kernel_rfl) ?_
    unfold F_impl_TurnI_r
    refine Run.bk (e := vB) (gv := vIv) (by kernel_rfl) (by kernel_rfl) (ok_impl_within _ _ _) (fun _ => rfl) fun r1 hr1 => ?_
    refine Run.jk (gv := vIv) (by kernel_rfl) (fun h2 => ?_) (fun h2 => ?_)
    · refine Run.bk (e := vIv) (gv := vIv) (by kernel_rfl) (by kernel_rfl) (ok_impl_Whole) (fun _ => rfl) fun r3 hr3 => ?_
      exact Run.rh (k := 0) (by kernel_rfl) (by kernel_rfl)
    · refine Run.jk (gv := vIv) (by kernel_rfl) (fun h4 => ?_) (fun h4 => ?_)
      · refine Run.bk (e := vIv) (gv := vIv) (by kernel_rfl) (by kernel_rfl) (ih (w64 (0 - a0.val)) (by rw [hr1] at h2; simp [F_impl_within, c64_val] at h2; simp only [w64_val, decide_eq_true_eq, decide_eq_false_iff_not] at *; omega)) (fun _ => rfl) fun r5 hr5 => ?_
        refine Run.bk (e := vIv) (gv := vIv) (by kernel_rfl) (by kernel_rfl) (ok_impl_NegI _) (fun _ => rfl) fun r6 hr6 => ?_
        exact Run.rh (k := 0) (by kernel_rfl) (by kernel_rfl)
      · refine Run.jk (gv := vIv) (by kernel_rfl) (fun h7 => ?_) (fun h7 => ?_)
        · exact Run.rh (k := 0) (by kernel_rfl) (by kernel_rfl)
        · refine Run.bk (e := vT_I_B) (gv := vIv) (by kernel_rfl) (by kernel_rfl) (ok_impl_MulFloor _ _ _) (fun _ => rfl) fun r8 hr8 => ?_
          exact Run.rh (k := 0) (by kernel_rfl) (by kernel_rfl)
theorem ok_impl_TurnI (a0 : I64) : Fun Try.prog 81 [] #[vI a0] (vIv (F_impl_TurnI a0)) [] := ok_impl_TurnI_r 2 a0 (by omega)

theorem ok_impl_PiI : Fun Try.prog 54 [] #[] (vIv (F_impl_PiI)) [] := by
  refine Fun.ofH 400 E_ok mixed Try.func54 (by kernel_rfl) (by kernel_rfl) ?_
  unfold F_impl_PiI
  refine Run.bH (e := vIv) (gv := vIv) (by kernel_rfl) (by kernel_rfl) (ok_impl_TurnI _) (fun _ => rfl) fun r1 => ?_
  exact Run.rh (k := 0) (by kernel_rfl) (by kernel_rfl)

theorem ok_impl_affineOf_1__pIv (b0 : Iv) (a0 : I64) : Fun Try.prog 52 [(#[.int .i64 b0.lo.val, .int .i64 b0.hi.val], 30)] #[vI a0, .pointer (some ⟨0, 0, none⟩)] (vIv (F_impl_affineOf_1__pIv b0 a0)) [(#[.int .i64 b0.lo.val, .int .i64 b0.hi.val], 30)] := by
  refine Fun.ofH 400 E_ok mixed Try.func52 (by kernel_rfl) (by kernel_rfl) ?_
  unfold F_impl_affineOf_1__pIv
  refine Run.bH (e := vIv) (gv := vIv) (by kernel_rfl) (by kernel_rfl) (ok_impl_PiI) (fun _ => rfl) fun r1 => ?_
  refine Run.bH (e := vIv) (gv := vIv) (by kernel_rfl) (by kernel_rfl) (ok_impl_Quotient _ _) (fun _ => rfl) fun r2 => ?_
  refine Run.bH (e := vIv) (gv := vIv) (by kernel_rfl) (by kernel_rfl) (ok_impl_MulI _ _) (fun _ => rfl) fun r3 => ?_
  refine Run.bH (e := vIv) (gv := vIv) (by kernel_rfl) (by kernel_rfl) (ok_impl_MulI _ _) (fun _ => rfl) fun r4 => ?_
  exact Run.rh (k := 1) (by kernel_rfl) (by kernel_rfl)

theorem ok_impl_affineOf (a0 : Sf) : Fun Try.prog 33 [] #[vSf a0] (vAf (F_impl_affineOf a0)) [] := by
  refine Fun.ofH 400 E_ok mixed Try.func33 (by kernel_rfl) (by kernel_rfl) ?_
  unfold F_impl_affineOf
  refine Run.bH (e := vIv) (gv := vAf) (by kernel_rfl) (by kernel_rfl) (ok_impl_Integer _) (fun _ => rfl) fun r1 => ?_
  refine Run.bH (e := vIv) (gv := vAf) (by kernel_rfl) (by kernel_rfl) (ok_impl_Quotient _ _) (fun _ => rfl) fun r2 => ?_
  refine Run.bH (e := vIv) (gv := vAf) (by kernel_rfl) (by kernel_rfl) (ok_impl_AddI _ _) (fun _ => rfl) fun r3 => ?_
  refine Run.sb (e := vIv) (gv := vAf) [2] (by kernel_rfl) (by kernel_rfl) (by kernel_rfl) (by decide) (by kernel_rfl) (ok_impl_affineOf_1__pIv _ _) (fun _ => rfl) fun r4 => ?_
  refine Run.sb (e := vIv) (gv := vAf) [2] (by kernel_rfl) (by kernel_rfl) (by kernel_rfl) (by decide) (by kernel_rfl) (ok_impl_affineOf_1__pIv _ _) (fun _ => rfl) fun r5 => ?_
  refine Run.sb (e := vIv) (gv := vAf) [2] (by kernel_rfl) (by kernel_rfl) (by kernel_rfl) (by decide) (by kernel_rfl) (ok_impl_affineOf_1__pIv _ _) (fun _ => rfl) fun r6 => ?_
  refine Run.bH (e := vIv) (gv := vAf) (by kernel_rfl) (by kernel_rfl) (ok_impl_NegI _) (fun _ => rfl) fun r7 => ?_
  refine Run.bH (e := vIv) (gv := vAf) (by kernel_rfl) (by kernel_rfl) (ok_impl_NegI _) (fun _ => rfl) fun r8 => ?_
  refine Run.bH (e := vIv) (gv := vAf) (by kernel_rfl) (by kernel_rfl) (ok_impl_NegI _) (fun _ => rfl) fun r9 => ?_
  refine Run.bH (e := vIv) (gv := vAf) (by kernel_rfl) (by kernel_rfl) (ok_impl_Quotient _ _) (fun _ => rfl) fun r10 => ?_
  refine Run.bH (e := vIv) (gv := vAf) (by kernel_rfl) (by kernel_rfl) (ok_impl_Quotient _ _) (fun _ => rfl) fun r11 => ?_
  refine Run.bH (e := vIv) (gv := vAf) (by kernel_rfl) (by kernel_rfl) (ok_impl_Quotient _ _) (fun _ => rfl) fun r12 => ?_
  exact Run.rh (k := 0) (by kernel_rfl) (by kernel_rfl)

theorem ok_impl_AffineOf (a0 : Sf) : Fun Try.prog 17 [] #[vSf a0] (vT_Af_I (F_impl_AffineOf a0)) [] := by
  refine Fun.ofH 400 E_ok mixed Try.func17 (by kernel_rfl) (by kernel_rfl) ?_
  unfold F_impl_AffineOf
  refine Run.bH (e := vB) (gv := vT_Af_I) (by kernel_rfl) (by kernel_rfl) (ok_impl_ValidShift _) (fun _ => rfl) fun r1 => ?_
  refine Run.jH (gv := vT_Af_I) (by kernel_rfl) (?_) (?_)
  · exact Run.rh (k := 0) (by kernel_rfl) (by kernel_rfl)
  · refine Run.bH (e := vAf) (gv := vT_Af_I) (by kernel_rfl) (by kernel_rfl) (ok_impl_affineOf _) (fun _ => rfl) fun r2 => ?_
    exact Run.rh (k := 0) (by kernel_rfl) (by kernel_rfl)

theorem ok_laws_FnExactAffineOf (a0 : Sf) : Fun Try.prog 5 [] #[vSf a0] (vB (F_laws_FnExactAffineOf a0)) [] := by
  refine Fun.ofH 400 E_ok mixed Try.func5 (by kernel_rfl) (by kernel_rfl) ?_
  unfold F_laws_FnExactAffineOf
  refine Run.bH (e := vSf) (gv := vB) (by kernel_rfl) (by kernel_rfl) (ok_laws_toShift _) (fun _ => rfl) fun r1 => ?_
  refine Run.bH (e := vT_Af_I) (gv := vB) (by kernel_rfl) (by kernel_rfl) (ok_spec_AffineOf _) (fun _ => rfl) fun r2 => ?_
  refine Run.bH (e := vSf) (gv := vB) (by kernel_rfl) (by kernel_rfl) (ok_laws_toShift _) (fun _ => rfl) fun r3 => ?_
  refine Run.bH (e := vT_Af_I) (gv := vB) (by kernel_rfl) (by kernel_rfl) (ok_impl_AffineOf _) (fun _ => rfl) fun r4 => ?_
  refine Run.bH (e := vB) (gv := vB) (by kernel_rfl) (by kernel_rfl) (ok_laws_eqAffine _ _) (fun _ => rfl) fun r5 => ?_
  refine Run.jH (gv := vB) (by kernel_rfl) (?_) (?_)
  · refine Run.p [true, true, true, true] (by kernel_rfl) ?_
    exact Run.rh (k := 0) (by kernel_rfl) (by kernel_rfl)
  · refine Run.p [false, false, false] (by kernel_rfl) ?_
    refine Run.jH (gv := vB) (by kernel_rfl) (?_) (?_)
    · exact Run.rh (k := 0) (by kernel_rfl) (by kernel_rfl)
    · exact Run.rh (k := 0) (by kernel_rfl) (by kernel_rfl)

theorem ok_spec_SubI (a0 : Iv) (a1 : Iv) : Fun Try.prog 82 [] #[vIv a0, vIv a1] (vIv (F_spec_SubI a0 a1)) [] := by
  refine Fun.ofH 400 E_ok mixed Try.func82 (by kernel_rfl) (by kernel_rfl) ?_
  unfold F_spec_SubI
  refine Run.bH (e := vB) (gv := vIv) (by kernel_rfl) (by kernel_rfl) (ok_spec_l04Ok _) (fun _ => rfl) fun r1 => ?_
  refine Run.jH (gv := vIv) (by kernel_rfl) (?_) (?_)
  · refine Run.p [true, true, true, true] (by kernel_rfl) ?_
    refine Run.bH (e := vIv) (gv := vIv) (by kernel_rfl) (by kernel_rfl) (ok_spec_l04Whole) (fun _ => rfl) fun r2 => ?_
    exact Run.rh (k := 0) (by kernel_rfl) (by kernel_rfl)
  · refine Run.p [false] (by kernel_rfl) ?_
    refine Run.bH (e := vB) (gv := vIv) (by kernel_rfl) (by kernel_rfl) (ok_spec_l04Ok _) (fun _ => rfl) fun r3 => ?_
    refine Run.p [false, false] (by kernel_rfl) ?_
    refine Run.jH (gv := vIv) (by kernel_rfl) (?_) (?_)
    · refine Run.bH (e := vIv) (gv := vIv) (by kernel_rfl) (by kernel_rfl) (ok_spec_l04Whole) (fun _ => rfl) fun r4 => ?_
      exact Run.rh (k := 0) (by kernel_rfl) (by kernel_rfl)
    · refine Run.bH (e := vIv) (gv := vIv) (by kernel_rfl) (by kernel_rfl) (ok_spec_l04Make _ _) (fun _ => rfl) fun r5 => ?_
      exact Run.rh (k := 0) (by kernel_rfl) (by kernel_rfl)

theorem ok_spec_CrossV (a0 : Vc) (a1 : Vc) : Fun Try.prog 55 [] #[vVc a0, vVc a1] (vVc (F_spec_CrossV a0 a1)) [] := by
  refine Fun.ofH 400 E_ok mixed Try.func55 (by kernel_rfl) (by kernel_rfl) ?_
  unfold F_spec_CrossV
  refine Run.bH (e := vIv) (gv := vVc) (by kernel_rfl) (by kernel_rfl) (ok_spec_MulI _ _) (fun _ => rfl) fun r1 => ?_
  refine Run.bH (e := vIv) (gv := vVc) (by kernel_rfl) (by kernel_rfl) (ok_spec_MulI _ _) (fun _ => rfl) fun r2 => ?_
  refine Run.bH (e := vIv) (gv := vVc) (by kernel_rfl) (by kernel_rfl) (ok_spec_SubI _ _) (fun _ => rfl) fun r3 => ?_
  refine Run.bH (e := vIv) (gv := vVc) (by kernel_rfl) (by kernel_rfl) (ok_spec_MulI _ _) (fun _ => rfl) fun r4 => ?_
  refine Run.bH (e := vIv) (gv := vVc) (by kernel_rfl) (by kernel_rfl) (ok_spec_MulI _ _) (fun _ => rfl) fun r5 => ?_
  refine Run.bH (e := vIv) (gv := vVc) (by kernel_rfl) (by kernel_rfl) (ok_spec_SubI _ _) (fun _ => rfl) fun r6 => ?_
  refine Run.bH (e := vIv) (gv := vVc) (by kernel_rfl) (by kernel_rfl) (ok_spec_MulI _ _) (fun _ => rfl) fun r7 => ?_
  refine Run.bH (e := vIv) (gv := vVc) (by kernel_rfl) (by kernel_rfl) (ok_spec_MulI _ _) (fun _ => rfl) fun r8 => ?_
  refine Run.bH (e := vIv) (gv := vVc) (by kernel_rfl) (by kernel_rfl) (ok_spec_SubI _ _) (fun _ => rfl) fun r9 => ?_
  exact Run.rh (k := 0) (by kernel_rfl) (by kernel_rfl)

theorem ok_spec_l04Has (a0 : Iv) (a1 : I64) : Fun Try.prog 83 [] #[vIv a0, vI a1] (vB (F_spec_l04Has a0 a1)) [] := by
  refine Fun.ofH 400 E_ok mixed Try.func83 (by kernel_rfl) (by kernel_rfl) ?_
  unfold F_spec_l04Has
  refine Run.bH (e := vB) (gv := vB) (by kernel_rfl) (by kernel_rfl) (ok_spec_l00In _ _ _) (fun _ => rfl) fun r1 => ?_
  exact Run.rh (k := 0) (by kernel_rfl) (by kernel_rfl)

theorem ok_spec_HasI (a0 : Iv) (a1 : I64) : Fun Try.prog 56 [] #[vIv a0, vI a1] (vB (F_spec_HasI a0 a1)) [] := by
  refine Fun.ofH 400 E_ok mixed Try.func56 (by kernel_rfl) (by kernel_rfl) ?_
  unfold F_spec_HasI
  refine Run.bH (e := vB) (gv := vB) (by kernel_rfl) (by kernel_rfl) (ok_spec_l04Ok _) (fun _ => rfl) fun r1 => ?_
  refine Run.jH (gv := vB) (by kernel_rfl) (?_) (?_)
  · refine Run.p [true, true, true] (by kernel_rfl) ?_
    exact Run.rh (k := 0) (by kernel_rfl) (by kernel_rfl)
  · refine Run.p [false, false] (by kernel_rfl) ?_
    refine Run.bH (e := vB) (gv := vB) (by kernel_rfl) (by kernel_rfl) (ok_spec_l04Has _ _) (fun _ => rfl) fun r2 => ?_
    refine Run.p [false] (by kernel_rfl) ?_
    exact Run.rh (k := 0) (by kernel_rfl) (by kernel_rfl)

theorem ok_spec_l03DivDown (a0 : I64) (a1 : I64) : Fun Try.prog 98 [] #[vI a0, vI a1] (vT_I_B (F_spec_l03DivDown a0 a1)) [] := by
  refine Fun.ofH 400 E_ok mixed Try.func98 (by kernel_rfl) (by kernel_rfl) ?_
  unfold F_spec_l03DivDown
  refine Run.bH (e := vB) (gv := vT_I_B) (by kernel_rfl) (by kernel_rfl) (ok_spec_l03Ok _) (fun _ => rfl) fun r1 => ?_
  refine Run.jH (gv := vT_I_B) (by kernel_rfl) (?_) (?_)
  · refine Run.p [true, true, true, true, true, true, true] (by kernel_rfl) ?_
    exact Run.rh (k := 0) (by kernel_rfl) (by kernel_rfl)
  · refine Run.p [false] (by kernel_rfl) ?_
    refine Run.bH (e := vB) (gv := vT_I_B) (by kernel_rfl) (by kernel_rfl) (ok_spec_l03Ok _) (fun _ => rfl) fun r2 => ?_
    refine Run.p [false, false] (by kernel_rfl) ?_
    refine Run.jH (gv := vT_I_B) (by kernel_rfl) (?_) (?_)
    · refine Run.p [true, true, true] (by kernel_rfl) ?_
      exact Run.rh (k := 0) (by kernel_rfl) (by kernel_rfl)
    · refine Run.p [false, false] (by kernel_rfl) ?_
      refine Run.jH (gv := vT_I_B) (by kernel_rfl) (?_) (?_)
      · exact Run.rh (k := 0) (by kernel_rfl) (by kernel_rfl)
      · refine Run.jH (gv := vT_I_B) (by kernel_rfl) (?_) (?_)
        · refine Run.bH (e := vT_I_B) (gv := vT_I_B) (by kernel_rfl) (by kernel_rfl) (ok_spec_MulDivFloor _ _ _) (fun _ => rfl) fun r3 => ?_
          refine Run.bH (e := vT_I_B) (gv := vT_I_B) (by kernel_rfl) (by kernel_rfl) (ok_spec_l03End _ _) (fun _ => rfl) fun r4 => ?_
          exact Run.rh (k := 0) (by kernel_rfl) (by kernel_rfl)
        · refine Run.bH (e := vT_I_B) (gv := vT_I_B) (by kernel_rfl) (by kernel_rfl) (ok_spec_MulDivFloor _ _ _) (fun _ => rfl) fun r5 => ?_
          refine Run.bH (e := vT_I_B) (gv := vT_I_B) (by kernel_rfl) (by kernel_rfl) (ok_spec_l03End _ _) (fun _ => rfl) fun r6 => ?_
          exact Run.rh (k := 0) (by kernel_rfl) (by kernel_rfl)

theorem ok_spec_l03DivUp (a0 : I64) (a1 : I64) : Fun Try.prog 99 [] #[vI a0, vI a1] (vT_I_B (F_spec_l03DivUp a0 a1)) [] := by
  refine Fun.ofH 400 E_ok mixed Try.func99 (by kernel_rfl) (by kernel_rfl) ?_
  unfold F_spec_l03DivUp
  refine Run.bH (e := vB) (gv := vT_I_B) (by kernel_rfl) (by kernel_rfl) (ok_spec_l03Ok _) (fun _ => rfl) fun r1 => ?_
  refine Run.jH (gv := vT_I_B) (by kernel_rfl) (?_) (?_)
  · exact Run.rh (k := 0) (by kernel_rfl) (by kernel_rfl)
  · refine Run.bH (e := vT_I_B) (gv := vT_I_B) (by kernel_rfl) (by kernel_rfl) (ok_spec_l03DivDown _ _) (fun _ => rfl) fun r2 => ?_
    exact Run.rh (k := 0) (by kernel_rfl) (by kernel_rfl)

theorem ok_spec_DivI (a0 : Iv) (a1 : Iv) : Fun Try.prog 84 [] #[vIv a0, vIv a1] (vIv (F_spec_DivI a0 a1)) [] := by
  refine Fun.ofH 400 E_ok mixed Try.func84 (by kernel_rfl) (by kernel_rfl) ?_
  unfold F_spec_DivI
  refine Run.bH (e := vB) (gv := vIv) (by kernel_rfl) (by kernel_rfl) (ok_spec_l04Ok _) (fun _ => rfl) fun r1 => ?_
  refine Run.jH (gv := vIv) (by kernel_rfl) (?_) (?_)
  · refine Run.p [true, true, true, true, true, true, true] (by kernel_rfl) ?_
    refine Run.bH (e := vIv) (gv := vIv) (by kernel_rfl) (by kernel_rfl) (ok_spec_l04Whole) (fun _ => rfl) fun r2 => ?_
    exact Run.rh (k := 0) (by kernel_rfl) (by kernel_rfl)
  · refine Run.p [false] (by kernel_rfl) ?_
    refine Run.bH (e := vB) (gv := vIv) (by kernel_rfl) (by kernel_rfl) (ok_spec_l04Ok _) (fun _ => rfl) fun r3 => ?_
    refine Run.p [false, false] (by kernel_rfl) ?_
    refine Run.jH (gv := vIv) (by kernel_rfl) (?_) (?_)
    · refine Run.p [true, true, true] (by kernel_rfl) ?_
      refine Run.bH (e := vIv) (gv := vIv) (by kernel_rfl) (by kernel_rfl) (ok_spec_l04Whole) (fun _ => rfl) fun r4 => ?_
      exact Run.rh (k := 0) (by kernel_rfl) (by kernel_rfl)
    · refine Run.p [false] (by kernel_rfl) ?_
      refine Run.bH (e := vB) (gv := vIv) (by kernel_rfl) (by kernel_rfl) (ok_spec_l04Has _ _) (fun _ => rfl) fun r5 => ?_
      refine Run.p [false] (by kernel_rfl) ?_
      refine Run.jH (gv := vIv) (by kernel_rfl) (?_) (?_)
      · refine Run.bH (e := vIv) (gv := vIv) (by kernel_rfl) (by kernel_rfl) (ok_spec_l04Whole) (fun _ => rfl) fun r6 => ?_
        exact Run.rh (k := 0) (by kernel_rfl) (by kernel_rfl)
      · refine Run.u 400 E_ok mixed Try.func84 ?_
        refine Run.p [true] (by kernel_rfl) ?_
        refine Run.u 400 E_ok mixed Try.func84 ?_
        refine Run.p [true, true, true] (by kernel_rfl) ?_
        refine Run.bH (e := vT_I_B) (gv := vIv) (by kernel_rfl) (by kernel_rfl) (ok_spec_l03DivDown _ _) (fun _ => rfl) fun r7 => ?_
        refine Run.p [true, true] (by kernel_rfl) ?_
        refine Run.bH (e := vT_I_B) (gv := vIv) (by kernel_rfl) (by kernel_rfl) (ok_spec_l03DivUp _ _) (fun _ => rfl) fun r8 => ?_
        refine Run.jH (gv := vIv) (by kernel_rfl) (?_) (?_)
        · refine Run.p [true, true, true] (by kernel_rfl) ?_
          refine Run.bH (e := vIv) (gv := vIv) (by kernel_rfl) (by kernel_rfl) (ok_spec_l04Whole) (fun _ => rfl) fun r9 => ?_
          exact Run.rh (k := 0) (by kernel_rfl) (by kernel_rfl)
        · refine Run.p [false, false] (by kernel_rfl) ?_
          refine Run.jH (gv := vIv) (by kernel_rfl) (?_) (?_)
          · refine Run.bH (e := vIv) (gv := vIv) (by kernel_rfl) (by kernel_rfl) (ok_spec_l04Whole) (fun _ => rfl) fun r10 => ?_
            exact Run.rh (k := 0) (by kernel_rfl) (by kernel_rfl)
          · refine Run.bH (e := vI) (gv := vIv) (by kernel_rfl) (by kernel_rfl) (ok_spec_l00Min _ _) (fun _ => rfl) fun r11 => ?_
            refine Run.bH (e := vI) (gv := vIv) (by kernel_rfl) (by kernel_rfl) (ok_spec_l00Max _ _) (fun _ => rfl) fun r12 => ?_
            refine Run.u 400 E_ok mixed Try.func84 ?_
            refine Run.p [true, true, true] (by kernel_rfl) ?_
            refine Run.bH (e := vT_I_B) (gv := vIv) (by kernel_rfl) (by kernel_rfl) (ok_spec_l03DivDown _ _) (fun _ => rfl) fun r13 => ?_
            refine Run.p [true, true] (by kernel_rfl) ?_
            refine Run.bH (e := vT_I_B) (gv := vIv) (by kernel_rfl) (by kernel_rfl) (ok_spec_l03DivUp _ _) (fun _ => rfl) fun r14 => ?_
            refine Run.jH (gv := vIv) (by kernel_rfl) (?_) (?_)
            · refine Run.p [true, true, true] (by kernel_rfl) ?_
              refine Run.bH (e := vIv) (gv := vIv) (by kernel_rfl) (by kernel_rfl) (ok_spec_l04Whole) (fun _ => rfl) fun r15 => ?_
              exact Run.rh (k := 0) (by kernel_rfl) (by kernel_rfl)
            · refine Run.p [false, false] (by kernel_rfl) ?_
              refine Run.jH (gv := vIv) (by kernel_rfl) (?_) (?_)
              · refine Run.bH (e := vIv) (gv := vIv) (by kernel_rfl) (by kernel_rfl) (ok_spec_l04Whole) (fun _ => rfl) fun r16 => ?_
                exact Run.rh (k := 0) (by kernel_rfl) (by kernel_rfl)
              · refine Run.bH (e := vI) (gv := vIv) (by kernel_rfl) (by kernel_rfl) (ok_spec_l00Min _ _) (fun _ => rfl) fun r17 => ?_
                refine Run.bH (e := vI) (gv := vIv) (by kernel_rfl) (by kernel_rfl) (ok_spec_l00Max _ _) (fun _ => rfl) fun r18 => ?_
                refine Run.u 400 E_ok mixed Try.func84 ?_
                refine Run.p [false] (by kernel_rfl) ?_
                refine Run.u 400 E_ok mixed Try.func84 ?_
                refine Run.p [true] (by kernel_rfl) ?_
                refine Run.u 400 E_ok mixed Try.func84 ?_
                refine Run.p [true, true, true] (by kernel_rfl) ?_
                refine Run.bH (e := vT_I_B) (gv := vIv) (by kernel_rfl) (by kernel_rfl) (ok_spec_l03DivDown _ _) (fun _ => rfl) fun r19 => ?_
                refine Run.p [true, true] (by kernel_rfl) ?_
                refine Run.bH (e := vT_I_B) (gv := vIv) (by kernel_rfl) (by kernel_rfl) (ok_spec_l03DivUp _ _) (fun _ => rfl) fun r20 => ?_
                refine Run.jH (gv := vIv) (by kernel_rfl) (?_) (?_)
                · refine Run.p [true, true, true] (by kernel_rfl) ?_
                  refine Run.bH (e := vIv) (gv := vIv) (by kernel_rfl) (by kernel_rfl) (ok_spec_l04Whole) (fun _ => rfl) fun r21 => ?_
                  exact Run.rh (k := 0) (by kernel_rfl) (by kernel_rfl)
                · refine Run.p [false, false] (by kernel_rfl) ?_
                  refine Run.jH (gv := vIv) (by kernel_rfl) (?_) (?_)
                  · refine Run.bH (e := vIv) (gv := vIv) (by kernel_rfl) (by kernel_rfl) (ok_spec_l04Whole) (fun _ => rfl) fun r22 => ?_
                    exact Run.rh (k := 0) (by kernel_rfl) (by kernel_rfl)
                  · refine Run.bH (e := vI) (gv := vIv) (by kernel_rfl) (by kernel_rfl) (ok_spec_l00Min _ _) (fun _ => rfl) fun r23 => ?_
                    refine Run.bH (e := vI) (gv := vIv) (by kernel_rfl) (by kernel_rfl) (ok_spec_l00Max _ _) (fun _ => rfl) fun r24 => ?_
                    refine Run.u 400 E_ok mixed Try.func84 ?_
                    refine Run.p [true, true, true] (by kernel_rfl) ?_
                    refine Run.bH (e := vT_I_B) (gv := vIv) (by kernel_rfl) (by kernel_rfl) (ok_spec_l03DivDown _ _) (fun _ => rfl) fun r25 => ?_
                    refine Run.p [true, true] (by kernel_rfl) ?_
                    refine Run.bH (e := vT_I_B) (gv := vIv) (by kernel_rfl) (by kernel_rfl) (ok_spec_l03DivUp _ _) (fun _ => rfl) fun r26 => ?_
                    refine Run.jH (gv := vIv) (by kernel_rfl) (?_) (?_)
                    · refine Run.p [true, true, true] (by kernel_rfl) ?_
                      refine Run.bH (e := vIv) (gv := vIv) (by kernel_rfl) (by kernel_rfl) (ok_spec_l04Whole) (fun _ => rfl) fun r27 => ?_
                      exact Run.rh (k := 0) (by kernel_rfl) (by kernel_rfl)
                    · refine Run.p [false, false] (by kernel_rfl) ?_
                      refine Run.jH (gv := vIv) (by kernel_rfl) (?_) (?_)
                      · refine Run.bH (e := vIv) (gv := vIv) (by kernel_rfl) (by kernel_rfl) (ok_spec_l04Whole) (fun _ => rfl) fun r28 => ?_
                        exact Run.rh (k := 0) (by kernel_rfl) (by kernel_rfl)
                      · refine Run.bH (e := vI) (gv := vIv) (by kernel_rfl) (by kernel_rfl) (ok_spec_l00Min _ _) (fun _ => rfl) fun r29 => ?_
                        refine Run.bH (e := vI) (gv := vIv) (by kernel_rfl) (by kernel_rfl) (ok_spec_l00Max _ _) (fun _ => rfl) fun r30 => ?_
                        refine Run.u 400 E_ok mixed Try.func84 ?_
                        refine Run.p [false] (by kernel_rfl) ?_
                        refine Run.u 400 E_ok mixed Try.func84 ?_
                        refine Run.p [false] (by kernel_rfl) ?_
                        refine Run.bH (e := vIv) (gv := vIv) (by kernel_rfl) (by kernel_rfl) (ok_spec_l04Make _ _) (fun _ => rfl) fun r31 => ?_
                        exact Run.rh (k := 0) (by kernel_rfl) (by kernel_rfl)

theorem ok_spec_l10Over (a0 : Vc) (a1 : Iv) : Fun Try.prog 57 [] #[vVc a0, vIv a1] (vVc (F_spec_l10Over a0 a1)) [] := by
  refine Fun.ofH 400 E_ok mixed Try.func57 (by kernel_rfl) (by kernel_rfl) ?_
  unfold F_spec_l10Over
  refine Run.bH (e := vIv) (gv := vVc) (by kernel_rfl) (by kernel_rfl) (ok_spec_DivI _ _) (fun _ => rfl) fun r1 => ?_
  refine Run.bH (e := vIv) (gv := vVc) (by kernel_rfl) (by kernel_rfl) (ok_spec_DivI _ _) (fun _ => rfl) fun r2 => ?_
  refine Run.bH (e := vIv) (gv := vVc) (by kernel_rfl) (by kernel_rfl) (ok_spec_DivI _ _) (fun _ => rfl) fun r3 => ?_
  exact Run.rh (k := 0) (by kernel_rfl) (by kernel_rfl)

theorem ok_spec_InverseM (a0 : Mt) : Fun Try.prog 34 [] #[vMt a0] (vT_Mt_B (F_spec_InverseM a0)) [] := by
  refine Fun.ofH 400 E_ok mixed Try.func34 (by kernel_rfl) (by kernel_rfl) ?_
  unfold F_spec_InverseM
  refine Run.bH (e := vVc) (gv := vT_Mt_B) (by kernel_rfl) (by kernel_rfl) (ok_spec_CrossV _ _) (fun _ => rfl) fun r1 => ?_
  refine Run.bH (e := vVc) (gv := vT_Mt_B) (by kernel_rfl) (by kernel_rfl) (ok_spec_CrossV _ _) (fun _ => rfl) fun r2 => ?_
  refine Run.bH (e := vVc) (gv := vT_Mt_B) (by kernel_rfl) (by kernel_rfl) (ok_spec_CrossV _ _) (fun _ => rfl) fun r3 => ?_
  refine Run.bH (e := vIv) (gv := vT_Mt_B) (by kernel_rfl) (by kernel_rfl) (ok_spec_DotV _ _) (fun _ => rfl) fun r4 => ?_
  refine Run.bH (e := vB) (gv := vT_Mt_B) (by kernel_rfl) (by kernel_rfl) (ok_spec_HasI _ _) (fun _ => rfl) fun r5 => ?_
  refine Run.jH (gv := vT_Mt_B) (by kernel_rfl) (?_) (?_)
  · exact Run.rh (k := 0) (by kernel_rfl) (by kernel_rfl)
  · refine Run.bH (e := vMt) (gv := vT_Mt_B) (by kernel_rfl) (by kernel_rfl) (ok_spec_l10Columns _) (fun _ => rfl) fun r6 => ?_
    refine Run.bH (e := vVc) (gv := vT_Mt_B) (by kernel_rfl) (by kernel_rfl) (ok_spec_l10Over _ _) (fun _ => rfl) fun r7 => ?_
    refine Run.bH (e := vVc) (gv := vT_Mt_B) (by kernel_rfl) (by kernel_rfl) (ok_spec_l10Over _ _) (fun _ => rfl) fun r8 => ?_
    refine Run.bH (e := vVc) (gv := vT_Mt_B) (by kernel_rfl) (by kernel_rfl) (ok_spec_l10Over _ _) (fun _ => rfl) fun r9 => ?_
    exact Run.rh (k := 0) (by kernel_rfl) (by kernel_rfl)

theorem ok_spec_InvertAffine (a0 : Af) : Fun Try.prog 18 [] #[vAf a0] (vT_Af_B (F_spec_InvertAffine a0)) [] := by
  refine Fun.ofH 400 E_ok mixed Try.func18 (by kernel_rfl) (by kernel_rfl) ?_
  unfold F_spec_InvertAffine
  refine Run.bH (e := vT_Mt_B) (gv := vT_Af_B) (by kernel_rfl) (by kernel_rfl) (ok_spec_InverseM _) (fun _ => rfl) fun r1 => ?_
  refine Run.jH (gv := vT_Af_B) (by kernel_rfl) (?_) (?_)
  · exact Run.rh (k := 0) (by kernel_rfl) (by kernel_rfl)
  · refine Run.bH (e := vVc) (gv := vT_Af_B) (by kernel_rfl) (by kernel_rfl) (ok_spec_ApplyM _ _) (fun _ => rfl) fun r2 => ?_
    refine Run.bH (e := vIv) (gv := vT_Af_B) (by kernel_rfl) (by kernel_rfl) (ok_spec_NegI _) (fun _ => rfl) fun r3 => ?_
    refine Run.bH (e := vIv) (gv := vT_Af_B) (by kernel_rfl) (by kernel_rfl) (ok_spec_NegI _) (fun _ => rfl) fun r4 => ?_
    refine Run.bH (e := vIv) (gv := vT_Af_B) (by kernel_rfl) (by kernel_rfl) (ok_spec_NegI _) (fun _ => rfl) fun r5 => ?_
    exact Run.rh (k := 0) (by kernel_rfl) (by kernel_rfl)

theorem ok_impl_SubI (a0 : Iv) (a1 : Iv) : Fun Try.prog 85 [] #[vIv a0, vIv a1] (vIv (F_impl_SubI a0 a1)) [] := by
  refine Fun.ofH 400 E_ok mixed Try.func85 (by kernel_rfl) (by kernel_rfl) ?_
  unfold F_impl_SubI
  refine Run.bH (e := vIv) (gv := vIv) (by kernel_rfl) (by kernel_rfl) (ok_impl_NegI _) (fun _ => rfl) fun r1 => ?_
  refine Run.bH (e := vIv) (gv := vIv) (by kernel_rfl) (by kernel_rfl) (ok_impl_AddI _ _) (fun _ => rfl) fun r2 => ?_
  exact Run.rh (k := 0) (by kernel_rfl) (by kernel_rfl)

theorem ok_impl_CrossV (a0 : Vc) (a1 : Vc) : Fun Try.prog 61 [] #[vVc a0, vVc a1] (vVc (F_impl_CrossV a0 a1)) [] := by
  refine Fun.ofH 400 E_ok mixed Try.func61 (by kernel_rfl) (by kernel_rfl) ?_
  unfold F_impl_CrossV
  refine Run.bH (e := vIv) (gv := vVc) (by kernel_rfl) (by kernel_rfl) (ok_impl_MulI _ _) (fun _ => rfl) fun r1 => ?_
  refine Run.bH (e := vIv) (gv := vVc) (by kernel_rfl) (by kernel_rfl) (ok_impl_MulI _ _) (fun _ => rfl) fun r2 => ?_
  refine Run.bH (e := vIv) (gv := vVc) (by kernel_rfl) (by kernel_rfl) (ok_impl_SubI _ _) (fun _ => rfl) fun r3 => ?_
  refine Run.bH (e := vIv) (gv := vVc) (by kernel_rfl) (by kernel_rfl) (ok_impl_MulI _ _) (fun _ => rfl) fun r4 => ?_
  refine Run.bH (e := vIv) (gv := vVc) (by kernel_rfl) (by kernel_rfl) (ok_impl_MulI _ _) (fun _ => rfl) fun r5 => ?_
  refine Run.bH (e := vIv) (gv := vVc) (by kernel_rfl) (by kernel_rfl) (ok_impl_SubI _ _) (fun _ => rfl) fun r6 => ?_
  refine Run.bH (e := vIv) (gv := vVc) (by kernel_rfl) (by kernel_rfl) (ok_impl_MulI _ _) (fun _ => rfl) fun r7 => ?_
  refine Run.bH (e := vIv) (gv := vVc) (by kernel_rfl) (by kernel_rfl) (ok_impl_MulI _ _) (fun _ => rfl) fun r8 => ?_
  refine Run.bH (e := vIv) (gv := vVc) (by kernel_rfl) (by kernel_rfl) (ok_impl_SubI _ _) (fun _ => rfl) fun r9 => ?_
  exact Run.rh (k := 0) (by kernel_rfl) (by kernel_rfl)

theorem ok_impl_HasI (a0 : Iv) (a1 : I64) : Fun Try.prog 62 [] #[vIv a0, vI a1] (vB (F_impl_HasI a0 a1)) [] := by
  refine Fun.ofH 400 E_ok mixed Try.func62 (by kernel_rfl) (by kernel_rfl) ?_
  unfold F_impl_HasI
  refine Run.bH (e := vB) (gv := vB) (by kernel_rfl) (by kernel_rfl) (ok_impl_IsWhole _) (fun _ => rfl) fun r1 => ?_
  refine Run.jH (gv := vB) (by kernel_rfl) (?_) (?_)
  · refine Run.p [true, true, true, true, true, true] (by kernel_rfl) ?_
    exact Run.rh (k := 0) (by kernel_rfl) (by kernel_rfl)
  · refine Run.p [false, false, false, false, false] (by kernel_rfl) ?_
    refine Run.bH (e := vB) (gv := vB) (by kernel_rfl) (by kernel_rfl) (ok_impl_within _ _ _) (fun _ => rfl) fun r2 => ?_
    refine Run.p [false] (by kernel_rfl) ?_
    exact Run.rh (k := 0) (by kernel_rfl) (by kernel_rfl)

theorem ok_impl_DivDown (a0 : I64) (a1 : I64) : Fun Try.prog 100 [] #[vI a0, vI a1] (vT_I_B (F_impl_DivDown a0 a1)) [] := by
  refine Fun.ofH 400 E_ok mixed Try.func100 (by kernel_rfl) (by kernel_rfl) ?_
  unfold F_impl_DivDown
  refine Run.bH (e := vB) (gv := vT_I_B) (by kernel_rfl) (by kernel_rfl) (ok_impl_ValidFix _) (fun _ => rfl) fun r1 => ?_
  refine Run.jH (gv := vT_I_B) (by kernel_rfl) (?_) (?_)
  · refine Run.p [true, true, true, true] (by kernel_rfl) ?_
    exact Run.rh (k := 0) (by kernel_rfl) (by kernel_rfl)
  · refine Run.p [false] (by kernel_rfl) ?_
    refine Run.bH (e := vB) (gv := vT_I_B) (by kernel_rfl) (by kernel_rfl) (ok_impl_ValidFix _) (fun _ => rfl) fun r2 => ?_
    refine Run.p [false, false] (by kernel_rfl) ?_
    refine Run.jH (gv := vT_I_B) (by kernel_rfl) (?_) (?_)
    · exact Run.rh (k := 0) (by kernel_rfl) (by kernel_rfl)
    · refine Run.jH (gv := vT_I_B) (by kernel_rfl) (?_) (?_)
      · refine Run.bH (e := vT_I_B) (gv := vT_I_B) (by kernel_rfl) (by kernel_rfl) (ok_impl_MulDivFloor _ _ _) (fun _ => rfl) fun r3 => ?_
        refine Run.bH (e := vT_I_B) (gv := vT_I_B) (by kernel_rfl) (by kernel_rfl) (ok_impl_fixed _ _) (fun _ => rfl) fun r4 => ?_
        exact Run.rh (k := 0) (by kernel_rfl) (by kernel_rfl)
      · refine Run.bH (e := vT_I_B) (gv := vT_I_B) (by kernel_rfl) (by kernel_rfl) (ok_impl_MulDivFloor _ _ _) (fun _ => rfl) fun r5 => ?_
        refine Run.bH (e := vT_I_B) (gv := vT_I_B) (by kernel_rfl) (by kernel_rfl) (ok_impl_fixed _ _) (fun _ => rfl) fun r6 => ?_
        exact Run.rh (k := 0) (by kernel_rfl) (by kernel_rfl)

theorem ok_impl_DivUp (a0 : I64) (a1 : I64) : Fun Try.prog 101 [] #[vI a0, vI a1] (vT_I_B (F_impl_DivUp a0 a1)) [] := by
  refine Fun.ofH 400 E_ok mixed Try.func101 (by kernel_rfl) (by kernel_rfl) ?_
  unfold F_impl_DivUp
  refine Run.bH (e := vB) (gv := vT_I_B) (by kernel_rfl) (by kernel_rfl) (ok_impl_ValidFix _) (fun _ => rfl) fun r1 => ?_
  refine Run.jH (gv := vT_I_B) (by kernel_rfl) (?_) (?_)
  · refine Run.p [true, true, true, true] (by kernel_rfl) ?_
    exact Run.rh (k := 0) (by kernel_rfl) (by kernel_rfl)
  · refine Run.p [false] (by kernel_rfl) ?_
    refine Run.bH (e := vB) (gv := vT_I_B) (by kernel_rfl) (by kernel_rfl) (ok_impl_ValidFix _) (fun _ => rfl) fun r2 => ?_
    refine Run.p [false, false] (by kernel_rfl) ?_
    refine Run.jH (gv := vT_I_B) (by kernel_rfl) (?_) (?_)
    · exact Run.rh (k := 0) (by kernel_rfl) (by kernel_rfl)
    · refine Run.bH (e := vT_I_B) (gv := vT_I_B) (by kernel_rfl) (by kernel_rfl) (ok_impl_DivDown _ _) (fun _ => rfl) fun r3 => ?_
      exact Run.rh (k := 0) (by kernel_rfl) (by kernel_rfl)

theorem ok_impl_combine__impl_DivDown__impl_DivUp (a0 : Iv) (a1 : Iv) : Fun Try.prog 78 [] #[vIv a0, vIv a1, .func (.func 100) #[] #[], .func (.func 101) #[] #[]] (vIv (F_impl_combine__impl_DivDown__impl_DivUp a0 a1)) [] := by
  refine Fun.ofH 400 E_ok mixed Try.func78 (by kernel_rfl) (by kernel_rfl) ?_
  unfold F_impl_combine__impl_DivDown__impl_DivUp
  refine Run.u 400 E_ok mixed Try.func78 ?_
  refine Run.p [true] (by kernel_rfl) ?_
  refine Run.u 400 E_ok mixed Try.func78 ?_
  refine Run.p [true] (by kernel_rfl) ?_
  refine Run.bH (e := vT_I_B) (gv := vIv) (by kernel_rfl) (by kernel_rfl) (ok_impl_DivDown _ _) (fun _ => rfl) fun r1 => ?_
  refine Run.bH (e := vT_I_B) (gv := vIv) (by kernel_rfl) (by kernel_rfl) (ok_impl_DivUp _ _) (fun _ => rfl) fun r2 => ?_
  refine Run.jH (gv := vIv) (by kernel_rfl) (?_) (?_)
  · refine Run.p [true, true, true] (by kernel_rfl) ?_
    refine Run.bH (e := vIv) (gv := vIv) (by kernel_rfl) (by kernel_rfl) (ok_impl_Whole) (fun _ => rfl) fun r3 => ?_
    exact Run.rh (k := 0) (by kernel_rfl) (by kernel_rfl)
  · refine Run.p [false, false] (by kernel_rfl) ?_
    refine Run.jH (gv := vIv) (by kernel_rfl) (?_) (?_)
    · refine Run.bH (e := vIv) (gv := vIv) (by kernel_rfl) (by kernel_rfl) (ok_impl_Whole) (fun _ => rfl) fun r4 => ?_
      exact Run.rh (k := 0) (by kernel_rfl) (by kernel_rfl)
    · refine Run.p [true] (by kernel_rfl) ?_
      refine Run.u 400 E_ok mixed Try.func78 ?_
      refine Run.p [true] (by kernel_rfl) ?_
      refine Run.bH (e := vT_I_B) (gv := vIv) (by kernel_rfl) (by kernel_rfl) (ok_impl_DivDown _ _) (fun _ => rfl) fun r5 => ?_
      refine Run.bH (e := vT_I_B) (gv := vIv) (by kernel_rfl) (by kernel_rfl) (ok_impl_DivUp _ _) (fun _ => rfl) fun r6 => ?_
      refine Run.jH (gv := vIv) (by kernel_rfl) (?_) (?_)
      · refine Run.p [true, true, true] (by kernel_rfl) ?_
        refine Run.bH (e := vIv) (gv := vIv) (by kernel_rfl) (by kernel_rfl) (ok_impl_Whole) (fun _ => rfl) fun r7 => ?_
        exact Run.rh (k := 0) (by kernel_rfl) (by kernel_rfl)
      · refine Run.p [false, false] (by kernel_rfl) ?_
        refine Run.jH (gv := vIv) (by kernel_rfl) (?_) (?_)
        · refine Run.bH (e := vIv) (gv := vIv) (by kernel_rfl) (by kernel_rfl) (ok_impl_Whole) (fun _ => rfl) fun r8 => ?_
          exact Run.rh (k := 0) (by kernel_rfl) (by kernel_rfl)
        · refine Run.p [false] (by kernel_rfl) ?_
          refine Run.u 400 E_ok mixed Try.func78 ?_
          refine Run.p [false] (by kernel_rfl) ?_
          refine Run.u 400 E_ok mixed Try.func78 ?_
          refine Run.p [true] (by kernel_rfl) ?_
          refine Run.u 400 E_ok mixed Try.func78 ?_
          refine Run.p [true] (by kernel_rfl) ?_
          refine Run.bH (e := vT_I_B) (gv := vIv) (by kernel_rfl) (by kernel_rfl) (ok_impl_DivDown _ _) (fun _ => rfl) fun r9 => ?_
          refine Run.bH (e := vT_I_B) (gv := vIv) (by kernel_rfl) (by kernel_rfl) (ok_impl_DivUp _ _) (fun _ => rfl) fun r10 => ?_
          refine Run.jH (gv := vIv) (by kernel_rfl) (?_) (?_)
          · refine Run.p [true, true, true] (by kernel_rfl) ?_
            refine Run.bH (e := vIv) (gv := vIv) (by kernel_rfl) (by kernel_rfl) (ok_impl_Whole) (fun _ => rfl) fun r11 => ?_
            exact Run.rh (k := 0) (by kernel_rfl) (by kernel_rfl)
          · refine Run.p [false, false] (by kernel_rfl) ?_
            refine Run.jH (gv := vIv) (by kernel_rfl) (?_) (?_)
            · refine Run.bH (e := vIv) (gv := vIv) (by kernel_rfl) (by kernel_rfl) (ok_impl_Whole) (fun _ => rfl) fun r12 => ?_
              exact Run.rh (k := 0) (by kernel_rfl) (by kernel_rfl)
            · refine Run.p [false] (by kernel_rfl) ?_
              refine Run.u 400 E_ok mixed Try.func78 ?_
              refine Run.p [true] (by kernel_rfl) ?_
              refine Run.bH (e := vT_I_B) (gv := vIv) (by kernel_rfl) (by kernel_rfl) (ok_impl_DivDown _ _) (fun _ => rfl) fun r13 => ?_
              refine Run.bH (e := vT_I_B) (gv := vIv) (by kernel_rfl) (by kernel_rfl) (ok_impl_DivUp _ _) (fun _ => rfl) fun r14 => ?_
              refine Run.jH (gv := vIv) (by kernel_rfl) (?_) (?_)
              · refine Run.p [true, true, true] (by kernel_rfl) ?_
                refine Run.bH (e := vIv) (gv := vIv) (by kernel_rfl) (by kernel_rfl) (ok_impl_Whole) (fun _ => rfl) fun r15 => ?_
                exact Run.rh (k := 0) (by kernel_rfl) (by kernel_rfl)
              · refine Run.p [false, false] (by kernel_rfl) ?_
                refine Run.jH (gv := vIv) (by kernel_rfl) (?_) (?_)
                · refine Run.bH (e := vIv) (gv := vIv) (by kernel_rfl) (by kernel_rfl) (ok_impl_Whole) (fun _ => rfl) fun r16 => ?_
                  exact Run.rh (k := 0) (by kernel_rfl) (by kernel_rfl)
                · refine Run.p [false] (by kernel_rfl) ?_
                  refine Run.u 400 E_ok mixed Try.func78 ?_
                  refine Run.p [false] (by kernel_rfl) ?_
                  refine Run.u 400 E_ok mixed Try.func78 ?_
                  refine Run.p [false] (by kernel_rfl) ?_
                  refine Run.bH (e := vIv) (gv := vIv) (by kernel_rfl) (by kernel_rfl) (ok_impl_bounded _ _ _) (fun _ => rfl) fun r17 => ?_
                  exact Run.rh (k := 0) (by kernel_rfl) (by kernel_rfl)

theorem ok_impl_DivI (a0 : Iv) (a1 : Iv) : Fun Try.prog 86 [] #[vIv a0, vIv a1] (vIv (F_impl_DivI a0 a1)) [] := by
  refine Fun.ofH 400 E_ok mixed Try.func86 (by kernel_rfl) (by kernel_rfl) ?_
  unfold F_impl_DivI
  refine Run.bH (e := vB) (gv := vIv) (by kernel_rfl) (by kernel_rfl) (ok_impl_areBounded _ _) (fun _ => rfl) fun r1 => ?_
  refine Run.jH (gv := vIv) (by kernel_rfl) (?_) (?_)
  · refine Run.p [true, true, true] (by kernel_rfl) ?_
    refine Run.bH (e := vIv) (gv := vIv) (by kernel_rfl) (by kernel_rfl) (ok_impl_Whole) (fun _ => rfl) fun r2 => ?_
    exact Run.rh (k := 0) (by kernel_rfl) (by kernel_rfl)
  · refine Run.p [false] (by kernel_rfl) ?_
    refine Run.bH (e := vB) (gv := vIv) (by kernel_rfl) (by kernel_rfl) (ok_impl_HasI _ _) (fun _ => rfl) fun r3 => ?_
    refine Run.p [false] (by kernel_rfl) ?_
    refine Run.jH (gv := vIv) (by kernel_rfl) (?_) (?_)
    · refine Run.bH (e := vIv) (gv := vIv) (by kernel_rfl) (by kernel_rfl) (ok_impl_Whole) (fun _ => rfl) fun r4 => ?_
      exact Run.rh (k := 0) (by kernel_rfl) (by kernel_rfl)
    · refine Run.bH (e := vIv) (gv := vIv) (by kernel_rfl) (by kernel_rfl) (ok_impl_combine__impl_DivDown__impl_DivUp _ _) (fun _ => rfl) fun r5 => ?_
      exact Run.rh (k := 0) (by kernel_rfl) (by kernel_rfl)

end Go.Proofs.Ytkbkopmelaiffaa.Abs
