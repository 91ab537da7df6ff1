/- The program's functions are these; part 3 (written by w.py). -/
import Derived.Test.YtjbdilphncpceaaGreatE
import Derived.Test.YtjbdilphncpceaaGreatF5
import Derived.Test.YtjbdilphncpceaaGreatQpre
import Derived.Test.YtjbdilphncpceaaGreatK1
import Derived.Test.YtjbdilphncpceaaGreatK2
set_option linter.unusedVariables false
set_option linter.unusedSimpArgs false
namespace Go.Proofs.YtjbdilphncpceaaGreat.Abs
open Go Go.RowKit

theorem ok_spec_GlobalOf (a0 : Pj) (a1 : Vc) : Fun Tryz.prog 102 [] #[vPj a0, vVc a1] (vT_Iv_Iv_I (F_spec_GlobalOf a0 a1)) [] := by
  refine Fun.ofH 400 E_ok mixed Tryz.func102 (by kernel_rfl) (by kernel_rfl) ?_
  unfold F_spec_GlobalOf
  refine Run.w (e := vB) (gv := vT_Iv_Iv_I) [0] (ok_spec_l18Ok__pPj _) fun r1 _ => ?_
  refine Run.y (gv := vT_Iv_Iv_I) (fun _ => ?_) (fun _ => ?_)
  · exact Run.x 0
  · refine Run.q (e := vIv) (gv := vT_Iv_Iv_I) (ok_spec_RadiansOf _) fun r2 _ => ?_
    refine Run.q (e := vIv) (gv := vT_Iv_Iv_I) (ok_spec_CosI _) fun r3 _ => ?_
    refine Run.q (e := vIv) (gv := vT_Iv_Iv_I) (ok_spec_MulI _ _) fun r4 _ => ?_
    refine Run.q (e := vIv) (gv := vT_Iv_Iv_I) (ok_spec_SinI _) fun r5 _ => ?_
    refine Run.q (e := vIv) (gv := vT_Iv_Iv_I) (ok_spec_MulI _ _) fun r6 _ => ?_
    refine Run.q (e := vIv) (gv := vT_Iv_Iv_I) (ok_spec_SubI _ _) fun r7 _ => ?_
    refine Run.q (e := vIv) (gv := vT_Iv_Iv_I) (ok_spec_SinI _) fun r8 _ => ?_
    refine Run.q (e := vIv) (gv := vT_Iv_Iv_I) (ok_spec_MulI _ _) fun r9 _ => ?_
    refine Run.q (e := vIv) (gv := vT_Iv_Iv_I) (ok_spec_CosI _) fun r10 _ => ?_
    refine Run.q (e := vIv) (gv := vT_Iv_Iv_I) (ok_spec_MulI _ _) fun r11 _ => ?_
    refine Run.q (e := vIv) (gv := vT_Iv_Iv_I) (ok_spec_AddI _ _) fun r12 _ => ?_
    refine Run.q (e := vT_Iv_Iv_I) (gv := vT_Iv_Iv_I) (ok_spec_PositionOf _) fun r13 _ => ?_
    refine Run.y (gv := vT_Iv_Iv_I) (fun _ => ?_) (fun _ => ?_)
    · exact Run.x 0
    · refine Run.q (e := vIv) (gv := vT_Iv_Iv_I) (ok_spec_RadiansOf _) fun r14 _ => ?_
      refine Run.q (e := vIv) (gv := vT_Iv_Iv_I) (ok_spec_AddI _ _) fun r15 _ => ?_
      exact Run.x 0

theorem ok_spec_AzimuthalInverse (a0 : Pj) (a1 : Pn) : Fun Tryz.prog 32 [] #[vPj a0, vPn a1] (vT_Iv_Iv_I (F_spec_AzimuthalInverse a0 a1)) [] := by
  refine Fun.ofH 400 E_ok mixed Tryz.func32 (by kernel_rfl) (by kernel_rfl) ?_
  unfold F_spec_AzimuthalInverse
  refine Run.w (e := vB) (gv := vT_Iv_Iv_I) [0] (ok_spec_l18Ok__pPj _) fun r1 _ => ?_
  refine Run.y (gv := vT_Iv_Iv_I) (fun _ => ?_) (fun _ => ?_)
  · exact Run.x 0
  · refine Run.q (e := vIv) (gv := vT_Iv_Iv_I) (ok_spec_l15Flat _) fun r2 _ => ?_
    refine Run.q (e := vIv) (gv := vT_Iv_Iv_I) (ok_spec_l18Most _) fun r3 _ => ?_
    refine Run.q (e := vI) (gv := vT_Iv_Iv_I) (ok_spec_LessI _ _) fun r4 _ => ?_
    refine Run.y (gv := vT_Iv_Iv_I) (fun _ => ?_) (fun _ => ?_)
    · exact Run.x 0
    · refine Run.q (e := vVc) (gv := vT_Iv_Iv_I) (ok_spec_l18Back _ _) fun r5 _ => ?_
      refine Run.q (e := vT_Iv_Iv_I) (gv := vT_Iv_Iv_I) (ok_spec_GlobalOf _ _) fun r6 _ => ?_
      exact Run.x 0

theorem ok_spec_l19Ok (a0 : Pj) : Fun Tryz.prog 104 [] #[vPj a0] (vB (F_spec_l19Ok a0)) [] := by
  refine Fun.ofH 400 E_ok mixed Tryz.func104 (by kernel_rfl) (by kernel_rfl) ?_
  unfold F_spec_l19Ok
  refine Run.q (e := vB) (gv := vB) (ok_spec_l00In _ _ _) fun r1 _ => ?_
  refine Run.y (gv := vB) (fun _ => ?_) (fun _ => ?_)
  · refine Run.z [true] ?_
    refine Run.q (e := vB) (gv := vB) (ok_spec_l17Ok _) fun r2 _ => ?_
    refine Run.z [true] ?_
    exact Run.x 0
  · refine Run.z [false, false] ?_
    exact Run.x 0

theorem ok_spec_LogAt_L1 : ∀ (fu : Nat) (a0 : I64) (x_e : I64) (y_1 : Iv) (q0 : 1 ≤ a0.val) (q1 : a0.val ≤ 1152921504606846976) (q2 : -1000 ≤ x_e.val) (q3 : (x_e.val ≤ 0 ∧ y_1.lo.val = a0.val * 2 ^ (0 - x_e.val).toNat ∧ y_1.lo.val < 6442450944) ∨ 3221225472 ≤ y_1.lo.val) (hm : (64 + x_e.val).toNat < fu) (t : Array Value) (ht : maskA t [1, 5, 6, 7, 8, 9, 10, 11, 12, 13, 14, 15, 16, 17, 18, 19, 20, 21, 22, 23, 24, 25, 26, 27, 28, 29, 30, 31, 32, 33, 34, 35, 36, 37, 38, 39, 40, 41, 42, 43, 44, 45, 46, 47, 48, 49, 50, 51, 52, 53, 54, 55, 56, 57, 58, 59, 60, 61, 62, 63, 64, 65, 66, 67, 68, 69, 70, 71, 72, 73, 74, 75, 76, 77, 78] = #[.int .i64 a0.val, undef, .pointer (some ⟨0, 0, none⟩), .int .i64 x_e.val, .pointer (some ⟨1, 0, none⟩), undef, undef, undef, undef, undef, undef, undef, undef, undef, undef, undef, undef, undef, undef, undef, undef, undef, undef, undef, undef, undef, undef, undef, undef, undef, undef, undef, undef, undef, undef, undef, undef, undef, undef, undef, undef, undef, undef, undef, undef, undef, undef, undef, undef, undef, undef, undef, undef, undef, undef, undef, undef, undef, undef, undef, undef, undef, undef, undef, undef, undef, undef, undef, undef, undef, undef, undef, undef, undef, undef, undef, undef, undef, undef]), Cfg Tryz.prog 213 (loopAt Tryz.f213 1) t [(#[.int .i64 0, .int .i64 0], 34), (#[.int .i64 y_1.lo.val, .int .i64 y_1.hi.val], 34)] (RvH [] (vIv (F_spec_LogAt_L1 fu a0 x_e y_1))) := by
  intro fu
  induction fu with
  | zero => intro a0 x_e y_1 q0 q1 q2 q3 hm; exact absurd hm (Nat.not_lt_zero _)
  | succ fu ih =>
    intro a0 x_e y_1 q0 q1 q2 q3 hm t ht
    refine Cfg.round E_ok mixed Tryz.func213 ht fun g => ?_
    unfold F_spec_LogAt_L1
    refine Run.y (gv := vIv) (fun h5 => ?_) (fun h5 => ?_)
    · refine Run.k (c := (decide (0 ≤ (wu64 (w64 (0 - (w64 (x_e.val - 1)).val)).val).val))) (by kernel_rfl) (by exact decide_eq_true (U64.lo _)) ?_
      refine Run.k (c := (decide (0 ≤ (wu64 (w64 (0 - (w64 (x_e.val - 1)).val)).val).val))) (by kernel_rfl) (by exact decide_eq_true (U64.lo _)) ?_
      exact Run.l (by kernel_rfl) (by kernel_rfl) (by kernel_rfl) (by kernel_rfl) (ih a0 (w64 (x_e.val - 1)) (⟨(ishl .i64 a0.val (wu64 (w64 (0 - (w64 (x_e.val - 1)).val)).val).val), (ishl .i64 a0.val (wu64 (w64 (0 - (w64 (x_e.val - 1)).val)).val).val)⟩ : Iv) (by first | exact q0 | exact q1 | exact Nat.lt_succ_self _ | (have z := spec_two_less a0 x_e y_1 q0 q2 q3 h5; first | exact .inl z.2.2 | (simp only [w64_val]; omega))) (by first | exact q0 | exact q1 | exact Nat.lt_succ_self _ | (have z := spec_two_less a0 x_e y_1 q0 q2 q3 h5; first | exact .inl z.2.2 | (simp only [w64_val]; omega))) (by first | exact q0 | exact q1 | exact Nat.lt_succ_self _ | (have z := spec_two_less a0 x_e y_1 q0 q2 q3 h5; first | exact .inl z.2.2 | (simp only [w64_val]; omega))) (by first | exact q0 | exact q1 | exact Nat.lt_succ_self _ | (have z := spec_two_less a0 x_e y_1 q0 q2 q3 h5; first | exact .inl z.2.2 | (simp only [w64_val]; omega))) (by first | exact q0 | exact q1 | exact Nat.lt_succ_self _ | (have z := spec_two_less a0 x_e y_1 q0 q2 q3 h5; first | exact .inl z.2.2 | (simp only [w64_val]; omega))))
    · refine Run.q (e := vIv) (gv := vIv) (ok_spec_l08One) fun r6 hr6 => ?_
      refine Run.q (e := vIv) (gv := vIv) (ok_spec_SubI _ _) fun r7 hr7 => ?_
      refine Run.q (e := vIv) (gv := vIv) (ok_spec_l08One) fun r8 hr8 => ?_
      refine Run.q (e := vIv) (gv := vIv) (ok_spec_AddI _ _) fun r9 hr9 => ?_
      refine Run.q (e := vIv) (gv := vIv) (ok_spec_DivI _ _) fun r10 hr10 => ?_
      refine Run.q (e := vIv) (gv := vIv) (ok_spec_SqrI _) fun r11 hr11 => ?_
      refine Run.q (e := vIv) (gv := vIv) (ok_spec_Quotient _ _) fun r12 hr12 => ?_
      refine Run.u 400 E_ok mixed Tryz.func213 ?_
      refine Run.z [true] ?_
      refine Run.q (e := vIv) (gv := vIv) (ok_spec_Quotient _ _) fun r13 hr13 => ?_
      refine Run.q (e := vIv) (gv := vIv) (ok_spec_MulI _ _) fun r14 hr14 => ?_
      refine Run.q (e := vIv) (gv := vIv) (ok_spec_AddI _ _) fun r15 hr15 => ?_
      refine Run.u 400 E_ok mixed Tryz.func213 ?_
      refine Run.z [true] ?_
      refine Run.q (e := vIv) (gv := vIv) (ok_spec_Quotient _ _) fun r16 hr16 => ?_
      refine Run.q (e := vIv) (gv := vIv) (ok_spec_MulI _ _) fun r17 hr17 => ?_
      refine Run.q (e := vIv) (gv := vIv) (ok_spec_AddI _ _) fun r18 hr18 => ?_
      refine Run.u 400 E_ok mixed Tryz.func213 ?_
      refine Run.z [true] ?_
      refine Run.q (e := vIv) (gv := vIv) (ok_spec_Quotient _ _) fun r19 hr19 => ?_
      refine Run.q (e := vIv) (gv := vIv) (ok_spec_MulI _ _) fun r20 hr20 => ?_
      refine Run.q (e := vIv) (gv := vIv) (ok_spec_AddI _ _) fun r21 hr21 => ?_
      refine Run.u 400 E_ok mixed Tryz.func213 ?_
      refine Run.z [true] ?_
      refine Run.q (e := vIv) (gv := vIv) (ok_spec_Quotient _ _) fun r22 hr22 => ?_
      refine Run.q (e := vIv) (gv := vIv) (ok_spec_MulI _ _) fun r23 hr23 => ?_
      refine Run.q (e := vIv) (gv := vIv) (ok_spec_AddI _ _) fun r24 hr24 => ?_
      refine Run.u 400 E_ok mixed Tryz.func213 ?_
      refine Run.z [true] ?_
      refine Run.q (e := vIv) (gv := vIv) (ok_spec_Quotient _ _) fun r25 hr25 => ?_
      refine Run.q (e := vIv) (gv := vIv) (ok_spec_MulI _ _) fun r26 hr26 => ?_
      refine Run.q (e := vIv) (gv := vIv) (ok_spec_AddI _ _) fun r27 hr27 => ?_
      refine Run.u 400 E_ok mixed Tryz.func213 ?_
      refine Run.z [false] ?_
      refine Run.q (e := vIv) (gv := vIv) (ok_spec_Integer _) fun r28 hr28 => ?_
      refine Run.q (e := vIv) (gv := vIv) (ok_spec_MulI _ _) fun r29 hr29 => ?_
      refine Run.q (e := vIv) (gv := vIv) (ok_spec_MulI _ _) fun r30 hr30 => ?_
      refine Run.q (e := vIv) (gv := vIv) (ok_spec_l08Widen _ _) fun r31 hr31 => ?_
      refine Run.q (e := vIv) (gv := vIv) (ok_spec_LogTwoI _) fun r32 hr32 => ?_
      refine Run.q (e := vIv) (gv := vIv) (ok_spec_AddI _ _) fun r33 hr33 => ?_
      exact Run.x 0

theorem ok_spec_LogAt_L0 : ∀ (fu : Nat) (a0 : I64) (x_e : I64) (y_1 : Iv) (q0 : 1 ≤ a0.val) (q1 : a0.val ≤ 1152921504606846976) (q2 : 0 ≤ x_e.val ∧ x_e.val ≤ 40) (q3 : y_1.lo.val = (ishr a0 (wu64 x_e.val).val).val) (q4 : x_e.val = 0 ∨ 3221225472 ≤ y_1.lo.val) (hm : (64 - x_e.val).toNat < fu) (t : Array Value) (ht : maskA t [1, 5, 6, 7, 8, 9, 10, 11, 12, 13, 14, 15, 16, 17, 18, 19, 20, 21, 22, 23, 24, 25, 26, 27, 28, 29, 30, 31, 32, 33, 34, 35, 36, 37, 38, 39, 40, 41, 42, 43, 44, 45, 46, 47, 48, 49, 50, 51, 52, 53, 54, 55, 56, 57, 58, 59, 60, 61, 62, 63, 64, 65, 66, 67, 68, 69, 70, 71, 72, 73, 74, 75, 76, 77, 78] = #[.int .i64 a0.val, undef, .pointer (some ⟨0, 0, none⟩), .int .i64 x_e.val, .pointer (some ⟨1, 0, none⟩), undef, undef, undef, undef, undef, undef, undef, undef, undef, undef, undef, undef, undef, undef, undef, undef, undef, undef, undef, undef, undef, undef, undef, undef, undef, undef, undef, undef, undef, undef, undef, undef, undef, undef, undef, undef, undef, undef, undef, undef, undef, undef, undef, undef, undef, undef, undef, undef, undef, undef, undef, undef, undef, undef, undef, undef, undef, undef, undef, undef, undef, undef, undef, undef, undef, undef, undef, undef, undef, undef, undef, undef, undef, undef]), Cfg Tryz.prog 213 (loopAt Tryz.f213 0) t [(#[.int .i64 0, .int .i64 0], 34), (#[.int .i64 y_1.lo.val, .int .i64 y_1.hi.val], 34)] (RvH [] (vIv (F_spec_LogAt_L0 fu a0 x_e y_1))) := by
  intro fu
  induction fu with
  | zero => intro a0 x_e y_1 q0 q1 q2 q3 q4 hm; exact absurd hm (Nat.not_lt_zero _)
  | succ fu ih =>
    intro a0 x_e y_1 q0 q1 q2 q3 q4 hm t ht
    refine Cfg.round E_ok mixed Tryz.func213 ht fun g => ?_
    unfold F_spec_LogAt_L0
    refine Run.y (gv := vIv) (fun h4 => ?_) (fun h4 => ?_)
    · refine Run.k (c := (decide (0 ≤ (wu64 (w64 (x_e.val + 1)).val).val))) (by kernel_rfl) (by exact decide_eq_true (U64.lo _)) ?_
      refine Run.k (c := (decide (0 ≤ (wu64 (w64 (x_e.val + 1)).val).val))) (by kernel_rfl) (by exact decide_eq_true (U64.lo _)) ?_
      exact Run.l (by kernel_rfl) (by kernel_rfl) (by kernel_rfl) (by kernel_rfl) (ih a0 (w64 (x_e.val + 1)) (⟨(ishr a0 (wu64 (w64 (x_e.val + 1)).val).val), (w64 (0 - (ishr (w64 (0 - a0.val)) (wu64 (w64 (x_e.val + 1)).val).val).val))⟩ : Iv) (by first | exact q0 | exact q1 | exact Nat.lt_succ_self _ | rfl | exact spec_two_exit a0 x_e y_1 q2.1 q2.2 q3 q4 h4 | (have z := spec_shr_big a0 x_e y_1 q1 q2.1 q2.2 q3 h4; first | exact .inr z.2 | (simp only [w64_val]; omega))) (by first | exact q0 | exact q1 | exact Nat.lt_succ_self _ | rfl | exact spec_two_exit a0 x_e y_1 q2.1 q2.2 q3 q4 h4 | (have z := spec_shr_big a0 x_e y_1 q1 q2.1 q2.2 q3 h4; first | exact .inr z.2 | (simp only [w64_val]; omega))) (by first | exact q0 | exact q1 | exact Nat.lt_succ_self _ | rfl | exact spec_two_exit a0 x_e y_1 q2.1 q2.2 q3 q4 h4 | (have z := spec_shr_big a0 x_e y_1 q1 q2.1 q2.2 q3 h4; first | exact .inr z.2 | (simp only [w64_val]; omega))) (by first | exact q0 | exact q1 | exact Nat.lt_succ_self _ | rfl | exact spec_two_exit a0 x_e y_1 q2.1 q2.2 q3 q4 h4 | (have z := spec_shr_big a0 x_e y_1 q1 q2.1 q2.2 q3 h4; first | exact .inr z.2 | (simp only [w64_val]; omega))) (by first | exact q0 | exact q1 | exact Nat.lt_succ_self _ | rfl | exact spec_two_exit a0 x_e y_1 q2.1 q2.2 q3 q4 h4 | (have z := spec_shr_big a0 x_e y_1 q1 q2.1 q2.2 q3 h4; first | exact .inr z.2 | (simp only [w64_val]; omega))) (by first | exact q0 | exact q1 | exact Nat.lt_succ_self _ | rfl | exact spec_two_exit a0 x_e y_1 q2.1 q2.2 q3 q4 h4 | (have z := spec_shr_big a0 x_e y_1 q1 q2.1 q2.2 q3 h4; first | exact .inr z.2 | (simp only [w64_val]; omega))))
    · exact Run.l (by kernel_rfl) (by kernel_rfl) (by kernel_rfl) (by kernel_rfl) (ok_spec_LogAt_L1 ((64 + x_e.val).toNat + 1) a0 x_e y_1 (by first | exact q0 | exact q1 | exact Nat.lt_succ_self _ | exact spec_two_exit a0 x_e y_1 q2.1 q2.2 q3 q4 h4 | omega) (by first | exact q0 | exact q1 | exact Nat.lt_succ_self _ | exact spec_two_exit a0 x_e y_1 q2.1 q2.2 q3 q4 h4 | omega) (by first | exact q0 | exact q1 | exact Nat.lt_succ_self _ | exact spec_two_exit a0 x_e y_1 q2.1 q2.2 q3 q4 h4 | omega) (by first | exact q0 | exact q1 | exact Nat.lt_succ_self _ | exact spec_two_exit a0 x_e y_1 q2.1 q2.2 q3 q4 h4 | omega) (by first | exact q0 | exact q1 | exact Nat.lt_succ_self _ | exact spec_two_exit a0 x_e y_1 q2.1 q2.2 q3 q4 h4 | omega))

theorem ok_spec_LogAt (a0 : I64) : Fun Tryz.prog 213 [] #[vI a0] (vIv (F_spec_LogAt a0)) [] := by
  refine Fun.ofH 400 E_ok mixed Tryz.func213 (by kernel_rfl) (by kernel_rfl) ?_
  unfold F_spec_LogAt
  refine Run.q (e := vB) (gv := vIv) (ok_spec_l00In _ _ _) fun r1 hr1 => ?_
  refine Run.y (gv := vIv) (fun h2 => ?_) (fun h2 => ?_)
  · refine Run.q (e := vIv) (gv := vIv) (ok_spec_l04Whole) fun r3 hr3 => ?_
    exact Run.x 0
  · exact Run.l (by kernel_rfl) (by kernel_rfl) (by kernel_rfl) (by kernel_rfl) (ok_spec_LogAt_L0 ((64 - (c64 0).val).toNat + 1) a0 (c64 0) (⟨a0, a0⟩ : Iv) (by first | exact (in1_p hr1 h2).1 | exact (in1_p hr1 h2).2 | exact ⟨by decide, by decide⟩ | exact (shr0' a0).symm | exact .inl rfl | exact Nat.lt_succ_self _) (by first | exact (in1_p hr1 h2).1 | exact (in1_p hr1 h2).2 | exact ⟨by decide, by decide⟩ | exact (shr0' a0).symm | exact .inl rfl | exact Nat.lt_succ_self _) (by first | exact (in1_p hr1 h2).1 | exact (in1_p hr1 h2).2 | exact ⟨by decide, by decide⟩ | exact (shr0' a0).symm | exact .inl rfl | exact Nat.lt_succ_self _) (by first | exact (in1_p hr1 h2).1 | exact (in1_p hr1 h2).2 | exact ⟨by decide, by decide⟩ | exact (shr0' a0).symm | exact .inl rfl | exact Nat.lt_succ_self _) (by first | exact (in1_p hr1 h2).1 | exact (in1_p hr1 h2).2 | exact ⟨by decide, by decide⟩ | exact (shr0' a0).symm | exact .inl rfl | exact Nat.lt_succ_self _) (by first | exact (in1_p hr1 h2).1 | exact (in1_p hr1 h2).2 | exact ⟨by decide, by decide⟩ | exact (shr0' a0).symm | exact .inl rfl | exact Nat.lt_succ_self _))

theorem ok_spec_LogI (a0 : Iv) : Fun Tryz.prog 115 [] #[vIv a0] (vIv (F_spec_LogI a0)) [] := by
  refine Fun.ofH 400 E_ok mixed Tryz.func115 (by kernel_rfl) (by kernel_rfl) ?_
  unfold F_spec_LogI
  refine Run.q (e := vB) (gv := vIv) (ok_spec_l04Ok _) fun r1 _ => ?_
  refine Run.y (gv := vIv) (fun _ => ?_) (fun _ => ?_)
  · refine Run.q (e := vIv) (gv := vIv) (ok_spec_l04Whole) fun r2 _ => ?_
    exact Run.x 0
  · refine Run.q (e := vIv) (gv := vIv) (ok_spec_LogAt _) fun r3 _ => ?_
    refine Run.q (e := vIv) (gv := vIv) (ok_spec_LogAt _) fun r4 _ => ?_
    refine Run.q (e := vIv) (gv := vIv) (ok_spec_l08Ends _ _) fun r5 _ => ?_
    exact Run.x 0

theorem ok_spec_SinAt (a0 : I64) : Fun Tryz.prog 302 [] #[vI a0] (vIv (F_spec_SinAt a0)) [] := by
  refine Fun.ofH 400 E_ok mixed Tryz.func302 (by kernel_rfl) (by kernel_rfl) ?_
  unfold F_spec_SinAt
  refine Run.q (e := vIv) (gv := vIv) (ok_spec_l06At _ _) fun r1 _ => ?_
  exact Run.x 0

theorem ok_spec_CosAt (a0 : I64) : Fun Tryz.prog 303 [] #[vI a0] (vIv (F_spec_CosAt a0)) [] := by
  refine Fun.ofH 400 E_ok mixed Tryz.func303 (by kernel_rfl) (by kernel_rfl) ?_
  unfold F_spec_CosAt
  refine Run.q (e := vIv) (gv := vIv) (ok_spec_l06At _ _) fun r1 _ => ?_
  exact Run.x 0

theorem ok_spec_TanI_L0 : ∀ (fu : Nat) (a0 : Iv) (x_k : I64) (y_1 : Iv) (hm : (2000 - x_k.val).toNat < fu) (t : Array Value) (ht : maskA t [0, 4, 5, 6, 7, 8, 9, 10, 11, 12, 13, 14, 15, 16, 17, 18, 19, 20, 21, 22, 23, 24, 25, 26, 27, 28, 29, 30, 31, 32, 33, 34, 35, 36, 37, 38, 39, 40, 41, 42, 43, 44] = #[undef, .pointer (some ⟨0, 0, none⟩), .pointer (some ⟨1, 0, none⟩), .int .i64 x_k.val, undef, undef, undef, undef, undef, undef, undef, undef, undef, undef, undef, undef, undef, undef, undef, undef, undef, undef, undef, undef, undef, undef, undef, undef, undef, undef, undef, undef, undef, undef, undef, undef, undef, undef, undef, undef, undef, undef, undef, undef, undef]), Cfg Tryz.prog 262 (loopAt Tryz.f262 0) t [(#[.int .i64 a0.lo.val, .int .i64 a0.hi.val], 34), (#[.int .i64 y_1.lo.val, .int .i64 y_1.hi.val], 34)] (RvH [] (vIv (F_spec_TanI_L0 fu a0 x_k y_1))) := by
  intro fu
  induction fu with
  | zero => intro a0 x_k y_1 hm; exact absurd hm (Nat.not_lt_zero _)
  | succ fu ih =>
    intro a0 x_k y_1 hm t ht
    refine Cfg.round E_ok mixed Tryz.func262 ht fun g => ?_
    unfold F_spec_TanI_L0
    refine Run.q (e := vI) (gv := vIv) (ok_spec_QuarterOf _) fun r5 hr5 => ?_
    refine Run.y (gv := vIv) (fun h6 => ?_) (fun h6 => ?_)
    · refine Run.y (gv := vIv) (fun h7 => ?_) (fun h7 => ?_)
      · refine Run.z [true] ?_
        refine Run.q (e := vIv) (gv := vIv) (ok_spec_TurnI _) fun r8 hr8 => ?_
        refine Run.z [true, true] ?_
        refine Run.q (e := vB) (gv := vIv) (ok_spec_OverlapI _ _) fun r9 hr9 => ?_
        refine Run.z [true] ?_
        refine Run.y (gv := vIv) (fun h10 => ?_) (fun h10 => ?_)
        · refine Run.q (e := vIv) (gv := vIv) (ok_spec_Whole) fun r11 hr11 => ?_
          exact Run.x 0
        · exact Run.l (by kernel_rfl) (by kernel_rfl) (by kernel_rfl) (by kernel_rfl) (ih a0 (w64 (x_k.val + 1)) y_1 (by have q1 := x_k.lo; first | exact Nat.lt_succ_self _ | (have q2 := spec_quarter_le a0.hi; have q3 := spec_quarter_ge a0.hi; simp only [w64_val, decide_eq_true_eq, decide_eq_false_iff_not, *] at *; omega)))
      · refine Run.z [false, false, false, false, false] ?_
        exact Run.l (by kernel_rfl) (by kernel_rfl) (by kernel_rfl) (by kernel_rfl) (ih a0 (w64 (x_k.val + 1)) y_1 (by have q1 := x_k.lo; first | exact Nat.lt_succ_self _ | (have q2 := spec_quarter_le a0.hi; have q3 := spec_quarter_ge a0.hi; simp only [w64_val, decide_eq_true_eq, decide_eq_false_iff_not, *] at *; omega)))
    · refine Run.q (e := vIv) (gv := vIv) (ok_spec_SinAt _) fun r12 hr12 => ?_
      refine Run.q (e := vIv) (gv := vIv) (ok_spec_CosAt _) fun r13 hr13 => ?_
      refine Run.q (e := vIv) (gv := vIv) (ok_spec_DivI _ _) fun r14 hr14 => ?_
      refine Run.q (e := vIv) (gv := vIv) (ok_spec_SinAt _) fun r15 hr15 => ?_
      refine Run.q (e := vIv) (gv := vIv) (ok_spec_CosAt _) fun r16 hr16 => ?_
      refine Run.q (e := vIv) (gv := vIv) (ok_spec_DivI _ _) fun r17 hr17 => ?_
      refine Run.q (e := vIv) (gv := vIv) (ok_spec_HullI _ _) fun r18 hr18 => ?_
      exact Run.x 0

theorem ok_spec_TanI (a0 : Iv) : Fun Tryz.prog 262 [] #[vIv a0] (vIv (F_spec_TanI a0)) [] := by
  refine Fun.ofH 400 E_ok mixed Tryz.func262 (by kernel_rfl) (by kernel_rfl) ?_
  unfold F_spec_TanI
  refine Run.q (e := vB) (gv := vIv) (ok_spec_l06Fits _) fun r1 hr1 => ?_
  refine Run.y (gv := vIv) (fun h2 => ?_) (fun h2 => ?_)
  · refine Run.q (e := vIv) (gv := vIv) (ok_spec_Whole) fun r3 hr3 => ?_
    exact Run.x 0
  · refine Run.q (e := vI) (gv := vIv) (ok_spec_QuarterOf _) fun r4 hr4 => ?_
    exact Run.l (by kernel_rfl) (by kernel_rfl) (by kernel_rfl) (by kernel_rfl) (ok_spec_TanI_L0 ((2000 - (w64 (r4.val - 1)).val).toNat + 1) a0 (w64 (r4.val - 1)) (⟨(c64 0), (c64 0)⟩ : Iv) (by exact Nat.lt_succ_self _))

theorem ok_spec_l08Asinh_r : ∀ (fu : Nat) (a0 : I64) (p0 : -9223372036854775808 < a0.val) (hm : min (0 - a0.val).toNat 1 < fu), Fun Tryz.prog 301 [] #[vI a0] (vIv (F_spec_l08Asinh_r fu a0)) [] := by
  intro fu
  induction fu with
  | zero => intro a0 p0 hm; exact absurd hm (Nat.not_lt_zero _)
  | succ fu ih =>
    intro a0 p0 hm
    refine Fun.ofH 400 E_ok mixed Tryz.func301 (by kernel_rfl) (by kernel_rfl) ?_
    unfold F_spec_l08Asinh_r
    unfold F_spec_l08Asinh_b
    refine Run.y (gv := vIv) (fun h1 => ?_) (fun h1 => ?_)
    · refine Run.q (e := vIv) (gv := vIv) (ih (w64 (0 - a0.val)) (by simp only [w64_val, decide_eq_true_eq, decide_eq_false_iff_not] at *; omega) (by simp only [w64_val, decide_eq_true_eq, decide_eq_false_iff_not] at *; omega)) fun r2 hr2 => ?_
      refine Run.q (e := vIv) (gv := vIv) (ok_spec_NegI _) fun r3 hr3 => ?_
      exact Run.x 0
    · refine Run.y (gv := vIv) (fun h4 => ?_) (fun h4 => ?_)
      · refine Run.q (e := vIv) (gv := vIv) (ok_spec_l08At _) fun r5 hr5 => ?_
        refine Run.q (e := vIv) (gv := vIv) (ok_spec_l08At _) fun r6 hr6 => ?_
        refine Run.q (e := vIv) (gv := vIv) (ok_spec_SqrI _) fun r7 hr7 => ?_
        refine Run.q (e := vIv) (gv := vIv) (ok_spec_l08One) fun r8 hr8 => ?_
        refine Run.q (e := vIv) (gv := vIv) (ok_spec_AddI _ _) fun r9 hr9 => ?_
        refine Run.q (e := vIv) (gv := vIv) (ok_spec_SqrtI _) fun r10 hr10 => ?_
        refine Run.q (e := vIv) (gv := vIv) (ok_spec_AddI _ _) fun r11 hr11 => ?_
        refine Run.q (e := vIv) (gv := vIv) (ok_spec_LogI _) fun r12 hr12 => ?_
        exact Run.x 0
      · refine Run.q (e := vIv) (gv := vIv) (ok_spec_LogTwoI _) fun r13 hr13 => ?_
        refine Run.q (e := vIv) (gv := vIv) (ok_spec_LogAt _) fun r14 hr14 => ?_
        refine Run.q (e := vIv) (gv := vIv) (ok_spec_AddI _ _) fun r15 hr15 => ?_
        refine Run.q (e := vIv) (gv := vIv) (ok_spec_AddI _ _) fun r16 hr16 => ?_
        exact Run.x 0
theorem ok_spec_l08Asinh (a0 : I64) (p0 : -9223372036854775808 < a0.val) : Fun Tryz.prog 301 [] #[vI a0] (vIv (F_spec_l08Asinh a0)) [] := ok_spec_l08Asinh_r 2 a0 p0 (by omega)

theorem ok_spec_AsinhI (a0 : Iv) : Fun Tryz.prog 261 [] #[vIv a0] (vIv (F_spec_AsinhI a0)) [] := by
  refine Fun.ofH 400 E_ok mixed Tryz.func261 (by kernel_rfl) (by kernel_rfl) ?_
  unfold F_spec_AsinhI
  refine Run.q (e := vB) (gv := vIv) (ok_spec_l04Ok _) fun r1 hr1 => ?_
  refine Run.y (gv := vIv) (fun h2 => ?_) (fun h2 => ?_)
  · refine Run.q (e := vIv) (gv := vIv) (ok_spec_l04Whole) fun r3 hr3 => ?_
    exact Run.x 0
  · refine Run.q (e := vIv) (gv := vIv) (ok_spec_l08Asinh _ (by rw [hr1] at h2; have z := Ok4p (by simpa using h2); omega)) fun r4 hr4 => ?_
    refine Run.q (e := vIv) (gv := vIv) (ok_spec_l08Asinh _ (by rw [hr1] at h2; have z := Ok4p (by simpa using h2); omega)) fun r5 hr5 => ?_
    refine Run.q (e := vIv) (gv := vIv) (ok_spec_l08Ends _ _) fun r6 hr6 => ?_
    exact Run.x 0

theorem ok_spec_l19Iso (a0 : Iv) : Fun Tryz.prog 206 [] #[vIv a0] (vIv (F_spec_l19Iso a0)) [] := by
  refine Fun.ofH 400 E_ok mixed Tryz.func206 (by kernel_rfl) (by kernel_rfl) ?_
  unfold F_spec_l19Iso
  refine Run.q (e := vIv) (gv := vIv) (ok_spec_TanI _) fun r1 _ => ?_
  refine Run.q (e := vIv) (gv := vIv) (ok_spec_AsinhI _) fun r2 _ => ?_
  exact Run.x 0

theorem ok_spec_l19Cone (a0 : Pj) : Fun Tryz.prog 105 [] #[vPj a0] (vIv (F_spec_l19Cone a0)) [] := by
  refine Fun.ofH 400 E_ok mixed Tryz.func105 (by kernel_rfl) (by kernel_rfl) ?_
  unfold F_spec_l19Cone
  refine Run.q (e := vIv) (gv := vIv) (ok_spec_RadiansOf _) fun r1 _ => ?_
  refine Run.q (e := vIv) (gv := vIv) (ok_spec_RadiansOf _) fun r2 _ => ?_
  refine Run.y (gv := vIv) (fun _ => ?_) (fun _ => ?_)
  · refine Run.q (e := vIv) (gv := vIv) (ok_spec_SinI _) fun r3 _ => ?_
    refine Run.q (e := vIv) (gv := vIv) (ok_spec_SinI _) fun r4 _ => ?_
    refine Run.q (e := vIv) (gv := vIv) (ok_spec_AddI _ _) fun r5 _ => ?_
    refine Run.q (e := vIv) (gv := vIv) (ok_spec_HalfI _) fun r6 _ => ?_
    exact Run.x 0
  · refine Run.y (gv := vIv) (fun _ => ?_) (fun _ => ?_)
    · refine Run.q (e := vIv) (gv := vIv) (ok_spec_SinI _) fun r7 _ => ?_
      exact Run.x 0
    · refine Run.y (gv := vIv) (fun _ => ?_) (fun _ => ?_)
      · refine Run.q (e := vIv) (gv := vIv) (ok_spec_CosI _) fun r8 _ => ?_
        refine Run.q (e := vIv) (gv := vIv) (ok_spec_LogI _) fun r9 _ => ?_
        refine Run.q (e := vIv) (gv := vIv) (ok_spec_CosI _) fun r10 _ => ?_
        refine Run.q (e := vIv) (gv := vIv) (ok_spec_LogI _) fun r11 _ => ?_
        refine Run.q (e := vIv) (gv := vIv) (ok_spec_SubI _ _) fun r12 _ => ?_
        refine Run.q (e := vIv) (gv := vIv) (ok_spec_l19Iso _) fun r13 _ => ?_
        refine Run.q (e := vIv) (gv := vIv) (ok_spec_l19Iso _) fun r14 _ => ?_
        refine Run.q (e := vIv) (gv := vIv) (ok_spec_SubI _ _) fun r15 _ => ?_
        refine Run.q (e := vIv) (gv := vIv) (ok_spec_DivI _ _) fun r16 _ => ?_
        exact Run.x 0
      · refine Run.q (e := vIv) (gv := vIv) (ok_spec_CosI _) fun r17 _ => ?_
        refine Run.q (e := vIv) (gv := vIv) (ok_spec_CosI _) fun r18 _ => ?_
        refine Run.q (e := vIv) (gv := vIv) (ok_spec_SubI _ _) fun r19 _ => ?_
        refine Run.q (e := vIv) (gv := vIv) (ok_spec_SubI _ _) fun r20 _ => ?_
        refine Run.q (e := vIv) (gv := vIv) (ok_spec_DivI _ _) fun r21 _ => ?_
        exact Run.x 0

theorem ok_spec_ExpI (a0 : Iv) : Fun Tryz.prog 207 [] #[vIv a0] (vIv (F_spec_ExpI a0)) [] := by
  refine Fun.ofH 400 E_ok mixed Tryz.func207 (by kernel_rfl) (by kernel_rfl) ?_
  unfold F_spec_ExpI
  refine Run.q (e := vB) (gv := vIv) (ok_spec_l04Ok _) fun r1 _ => ?_
  refine Run.y (gv := vIv) (fun _ => ?_) (fun _ => ?_)
  · refine Run.q (e := vIv) (gv := vIv) (ok_spec_l04Whole) fun r2 _ => ?_
    exact Run.x 0
  · refine Run.q (e := vIv) (gv := vIv) (ok_spec_ExpAt _) fun r3 _ => ?_
    refine Run.q (e := vIv) (gv := vIv) (ok_spec_ExpAt _) fun r4 _ => ?_
    refine Run.q (e := vIv) (gv := vIv) (ok_spec_l08Ends _ _) fun r5 _ => ?_
    exact Run.x 0

theorem ok_spec_l19Constant (a0 : Pj) (a1 : Iv) : Fun Tryz.prog 106 [] #[vPj a0, vIv a1] (vIv (F_spec_l19Constant a0 a1)) [] := by
  refine Fun.ofH 400 E_ok mixed Tryz.func106 (by kernel_rfl) (by kernel_rfl) ?_
  unfold F_spec_l19Constant
  refine Run.q (e := vIv) (gv := vIv) (ok_spec_RadiansOf _) fun r1 _ => ?_
  refine Run.y (gv := vIv) (fun _ => ?_) (fun _ => ?_)
  · refine Run.q (e := vIv) (gv := vIv) (ok_spec_CosI _) fun r2 _ => ?_
    refine Run.q (e := vIv) (gv := vIv) (ok_spec_SqrI _) fun r3 _ => ?_
    refine Run.q (e := vIv) (gv := vIv) (ok_spec_Integer _) fun r4 _ => ?_
    refine Run.q (e := vIv) (gv := vIv) (ok_spec_MulI _ _) fun r5 _ => ?_
    refine Run.q (e := vIv) (gv := vIv) (ok_spec_SinI _) fun r6 _ => ?_
    refine Run.q (e := vIv) (gv := vIv) (ok_spec_MulI _ _) fun r7 _ => ?_
    refine Run.q (e := vIv) (gv := vIv) (ok_spec_AddI _ _) fun r8 _ => ?_
    exact Run.x 0
  · refine Run.y (gv := vIv) (fun _ => ?_) (fun _ => ?_)
    · refine Run.q (e := vIv) (gv := vIv) (ok_spec_CosI _) fun r9 _ => ?_
      refine Run.q (e := vIv) (gv := vIv) (ok_spec_l19Iso _) fun r10 _ => ?_
      refine Run.q (e := vIv) (gv := vIv) (ok_spec_MulI _ _) fun r11 _ => ?_
      refine Run.q (e := vIv) (gv := vIv) (ok_spec_ExpI _) fun r12 _ => ?_
      refine Run.q (e := vIv) (gv := vIv) (ok_spec_MulI _ _) fun r13 _ => ?_
      refine Run.q (e := vIv) (gv := vIv) (ok_spec_DivI _ _) fun r14 _ => ?_
      exact Run.x 0
    · refine Run.q (e := vIv) (gv := vIv) (ok_spec_CosI _) fun r15 _ => ?_
      refine Run.q (e := vIv) (gv := vIv) (ok_spec_DivI _ _) fun r16 _ => ?_
      refine Run.q (e := vIv) (gv := vIv) (ok_spec_AddI _ _) fun r17 _ => ?_
      exact Run.x 0

theorem ok_spec_l19Radius (a0 : I64) (a1 : Iv) (a2 : Iv) (a3 : Iv) : Fun Tryz.prog 108 [] #[vI a0, vIv a1, vIv a2, vIv a3] (vIv (F_spec_l19Radius a0 a1 a2 a3)) [] := by
  refine Fun.ofH 400 E_ok mixed Tryz.func108 (by kernel_rfl) (by kernel_rfl) ?_
  unfold F_spec_l19Radius
  refine Run.y (gv := vIv) (fun _ => ?_) (fun _ => ?_)
  · refine Run.q (e := vIv) (gv := vIv) (ok_spec_Integer _) fun r1 _ => ?_
    refine Run.q (e := vIv) (gv := vIv) (ok_spec_MulI _ _) fun r2 _ => ?_
    refine Run.q (e := vIv) (gv := vIv) (ok_spec_SinI _) fun r3 _ => ?_
    refine Run.q (e := vIv) (gv := vIv) (ok_spec_MulI _ _) fun r4 _ => ?_
    refine Run.q (e := vIv) (gv := vIv) (ok_spec_SubI _ _) fun r5 _ => ?_
    refine Run.q (e := vIv) (gv := vIv) (ok_spec_SqrtI _) fun r6 _ => ?_
    refine Run.q (e := vIv) (gv := vIv) (ok_spec_DivI _ _) fun r7 _ => ?_
    exact Run.x 0
  · refine Run.y (gv := vIv) (fun _ => ?_) (fun _ => ?_)
    · refine Run.q (e := vIv) (gv := vIv) (ok_spec_l19Iso _) fun r8 _ => ?_
      refine Run.q (e := vIv) (gv := vIv) (ok_spec_MulI _ _) fun r9 _ => ?_
      refine Run.q (e := vIv) (gv := vIv) (ok_spec_NegI _) fun r10 _ => ?_
      refine Run.q (e := vIv) (gv := vIv) (ok_spec_ExpI _) fun r11 _ => ?_
      refine Run.q (e := vIv) (gv := vIv) (ok_spec_MulI _ _) fun r12 _ => ?_
      exact Run.x 0
    · refine Run.q (e := vIv) (gv := vIv) (ok_spec_SubI _ _) fun r13 _ => ?_
      exact Run.x 0

theorem ok_spec_ConicInverse (a0 : Pj) (a1 : Pn) : Fun Tryz.prog 33 [] #[vPj a0, vPn a1] (vT_Iv_Iv_I (F_spec_ConicInverse a0 a1)) [] := by
  refine Fun.ofH 400 E_ok mixed Tryz.func33 (by kernel_rfl) (by kernel_rfl) ?_
  unfold F_spec_ConicInverse
  refine Run.q (e := vB) (gv := vT_Iv_Iv_I) (ok_spec_l19Ok _) fun r1 _ => ?_
  refine Run.y (gv := vT_Iv_Iv_I) (fun _ => ?_) (fun _ => ?_)
  · exact Run.x 0
  · refine Run.q (e := vIv) (gv := vT_Iv_Iv_I) (ok_spec_l19Cone _) fun r2 _ => ?_
    refine Run.q (e := vIv) (gv := vT_Iv_Iv_I) (ok_spec_l19Constant _ _) fun r3 _ => ?_
    refine Run.q (e := vIv) (gv := vT_Iv_Iv_I) (ok_spec_RadiansOf _) fun r4 _ => ?_
    refine Run.q (e := vIv) (gv := vT_Iv_Iv_I) (ok_spec_l19Radius _ _ _ _) fun r5 _ => ?_
    refine Run.q (e := vIv) (gv := vT_Iv_Iv_I) (ok_spec_SubI _ _) fun r6 _ => ?_
    refine Run.q (e := vIv) (gv := vT_Iv_Iv_I) (ok_spec_SqrI _) fun r7 _ => ?_
    refine Run.q (e := vIv) (gv := vT_Iv_Iv_I) (ok_spec_SqrI _) fun r8 _ => ?_
    refine Run.q (e := vIv) (gv := vT_Iv_Iv_I) (ok_spec_AddI _ _) fun r9 _ => ?_
    refine Run.q (e := vIv) (gv := vT_Iv_Iv_I) (ok_spec_SqrtI _) fun r10 _ => ?_
    refine Run.q (e := vIv) (gv := vT_Iv_Iv_I) (ok_spec_DirectionI _ _) fun r11 _ => ?_
    refine Run.y (gv := vT_Iv_Iv_I) (fun _ => ?_) (fun _ => ?_)
    · refine Run.q (e := vIv) (gv := vT_Iv_Iv_I) (ok_spec_NegI _) fun r12 _ => ?_
      refine Run.q (e := vIv) (gv := vT_Iv_Iv_I) (ok_spec_NegI _) fun r13 _ => ?_
      refine Run.q (e := vIv) (gv := vT_Iv_Iv_I) (ok_spec_NegI _) fun r14 _ => ?_
      refine Run.q (e := vIv) (gv := vT_Iv_Iv_I) (ok_spec_DirectionI _ _) fun r15 _ => ?_
      refine Run.q (e := vIv) (gv := vT_Iv_Iv_I) (ok_spec_DivI _ _) fun r16 _ => ?_
      refine Run.y (gv := vT_Iv_Iv_I) (fun _ => ?_) (fun _ => ?_)
      · refine Run.q (e := vIv) (gv := vT_Iv_Iv_I) (ok_spec_MulI _ _) fun r17 _ => ?_
        refine Run.q (e := vIv) (gv := vT_Iv_Iv_I) (ok_spec_SqrI _) fun r18 _ => ?_
        refine Run.q (e := vIv) (gv := vT_Iv_Iv_I) (ok_spec_SubI _ _) fun r19 _ => ?_
        refine Run.q (e := vIv) (gv := vT_Iv_Iv_I) (ok_spec_Integer _) fun r20 _ => ?_
        refine Run.q (e := vIv) (gv := vT_Iv_Iv_I) (ok_spec_MulI _ _) fun r21 _ => ?_
        refine Run.q (e := vIv) (gv := vT_Iv_Iv_I) (ok_spec_DivI _ _) fun r22 _ => ?_
        refine Run.q (e := vB) (gv := vT_Iv_Iv_I) (ok_spec_l04Ok _) fun r23 _ => ?_
        refine Run.y (gv := vT_Iv_Iv_I) (fun _ => ?_) (fun _ => ?_)
        · refine Run.z [true] ?_
          refine Run.q (e := vIv) (gv := vT_Iv_Iv_I) (ok_spec_l06Ring) fun r24 _ => ?_
          refine Run.z [true] ?_
          refine Run.q (e := vB) (gv := vT_Iv_Iv_I) (ok_spec_OverlapI _ _) fun r25 _ => ?_
          refine Run.z [true, true] ?_
          refine Run.y (gv := vT_Iv_Iv_I) (fun _ => ?_) (fun _ => ?_)
          · exact Run.x 0
          · refine Run.q (e := vIv) (gv := vT_Iv_Iv_I) (ok_spec_AsinI _) fun r26 _ => ?_
            refine Run.q (e := vT_Iv_Iv_I) (gv := vT_Iv_Iv_I) (ok_spec_l17Back _ _ _) fun r27 _ => ?_
            exact Run.x 0
        · refine Run.z [false, false, false, false, false] ?_
          refine Run.q (e := vIv) (gv := vT_Iv_Iv_I) (ok_spec_AsinI _) fun r28 _ => ?_
          refine Run.q (e := vT_Iv_Iv_I) (gv := vT_Iv_Iv_I) (ok_spec_l17Back _ _ _) fun r29 _ => ?_
          exact Run.x 0
      · refine Run.y (gv := vT_Iv_Iv_I) (fun _ => ?_) (fun _ => ?_)
        · refine Run.q (e := vIv) (gv := vT_Iv_Iv_I) (ok_spec_DivI _ _) fun r30 _ => ?_
          refine Run.q (e := vIv) (gv := vT_Iv_Iv_I) (ok_spec_LogI _) fun r31 _ => ?_
          refine Run.q (e := vIv) (gv := vT_Iv_Iv_I) (ok_spec_DivI _ _) fun r32 _ => ?_
          refine Run.q (e := vIv) (gv := vT_Iv_Iv_I) (ok_spec_SinhI _) fun r33 _ => ?_
          refine Run.q (e := vIv) (gv := vT_Iv_Iv_I) (ok_spec_AtanI _) fun r34 _ => ?_
          refine Run.q (e := vT_Iv_Iv_I) (gv := vT_Iv_Iv_I) (ok_spec_l17Back _ _ _) fun r35 _ => ?_
          exact Run.x 0
        · refine Run.q (e := vIv) (gv := vT_Iv_Iv_I) (ok_spec_SubI _ _) fun r36 _ => ?_
          refine Run.q (e := vT_Iv_Iv_I) (gv := vT_Iv_Iv_I) (ok_spec_l17Back _ _ _) fun r37 _ => ?_
          exact Run.x 0
    · refine Run.q (e := vIv) (gv := vT_Iv_Iv_I) (ok_spec_DivI _ _) fun r38 _ => ?_
      refine Run.y (gv := vT_Iv_Iv_I) (fun _ => ?_) (fun _ => ?_)
      · refine Run.q (e := vIv) (gv := vT_Iv_Iv_I) (ok_spec_MulI _ _) fun r39 _ => ?_
        refine Run.q (e := vIv) (gv := vT_Iv_Iv_I) (ok_spec_SqrI _) fun r40 _ => ?_
        refine Run.q (e := vIv) (gv := vT_Iv_Iv_I) (ok_spec_SubI _ _) fun r41 _ => ?_
        refine Run.q (e := vIv) (gv := vT_Iv_Iv_I) (ok_spec_Integer _) fun r42 _ => ?_
        refine Run.q (e := vIv) (gv := vT_Iv_Iv_I) (ok_spec_MulI _ _) fun r43 _ => ?_
        refine Run.q (e := vIv) (gv := vT_Iv_Iv_I) (ok_spec_DivI _ _) fun r44 _ => ?_
        refine Run.q (e := vB) (gv := vT_Iv_Iv_I) (ok_spec_l04Ok _) fun r45 _ => ?_
        refine Run.y (gv := vT_Iv_Iv_I) (fun _ => ?_) (fun _ => ?_)
        · refine Run.z [true] ?_
          refine Run.q (e := vIv) (gv := vT_Iv_Iv_I) (ok_spec_l06Ring) fun r46 _ => ?_
          refine Run.z [true] ?_
          refine Run.q (e := vB) (gv := vT_Iv_Iv_I) (ok_spec_OverlapI _ _) fun r47 _ => ?_
          refine Run.z [true, true] ?_
          refine Run.y (gv := vT_Iv_Iv_I) (fun _ => ?_) (fun _ => ?_)
          · exact Run.x 0
          · refine Run.q (e := vIv) (gv := vT_Iv_Iv_I) (ok_spec_AsinI _) fun r48 _ => ?_
            refine Run.q (e := vT_Iv_Iv_I) (gv := vT_Iv_Iv_I) (ok_spec_l17Back _ _ _) fun r49 _ => ?_
            exact Run.x 0
        · refine Run.z [false, false, false, false, false] ?_
          refine Run.q (e := vIv) (gv := vT_Iv_Iv_I) (ok_spec_AsinI _) fun r50 _ => ?_
          refine Run.q (e := vT_Iv_Iv_I) (gv := vT_Iv_Iv_I) (ok_spec_l17Back _ _ _) fun r51 _ => ?_
          exact Run.x 0
      · refine Run.y (gv := vT_Iv_Iv_I) (fun _ => ?_) (fun _ => ?_)
        · refine Run.q (e := vIv) (gv := vT_Iv_Iv_I) (ok_spec_DivI _ _) fun r52 _ => ?_
          refine Run.q (e := vIv) (gv := vT_Iv_Iv_I) (ok_spec_LogI _) fun r53 _ => ?_
          refine Run.q (e := vIv) (gv := vT_Iv_Iv_I) (ok_spec_DivI _ _) fun r54 _ => ?_
          refine Run.q (e := vIv) (gv := vT_Iv_Iv_I) (ok_spec_SinhI _) fun r55 _ => ?_
          refine Run.q (e := vIv) (gv := vT_Iv_Iv_I) (ok_spec_AtanI _) fun r56 _ => ?_
          refine Run.q (e := vT_Iv_Iv_I) (gv := vT_Iv_Iv_I) (ok_spec_l17Back _ _ _) fun r57 _ => ?_
          exact Run.x 0
        · refine Run.q (e := vIv) (gv := vT_Iv_Iv_I) (ok_spec_SubI _ _) fun r58 _ => ?_
          refine Run.q (e := vT_Iv_Iv_I) (gv := vT_Iv_Iv_I) (ok_spec_l17Back _ _ _) fun r59 _ => ?_
          exact Run.x 0

theorem ok_spec_l20Kind (a0 : I64) : Fun Tryz.prog 214 [] #[vI a0] (vB (F_spec_l20Kind a0)) [] := by
  refine Fun.ofH 400 E_ok mixed Tryz.func214 (by kernel_rfl) (by kernel_rfl) ?_
  unfold F_spec_l20Kind
  refine Run.q (e := vB) (gv := vB) (ok_spec_l00In _ _ _) fun r1 _ => ?_
  exact Run.x 0

theorem ok_spec_l20Ok__pPj (b0 : Pj) : Fun Tryz.prog 116 [(#[.int .i64 b0.kind.val, .int .i64 b0.lat0.val, .int .i64 b0.lon0.val, .int .i64 b0.lat1.val, .int .i64 b0.lat2.val], 32)] #[.pointer (some ⟨0, 0, none⟩)] (vB (F_spec_l20Ok__pPj b0)) [(#[.int .i64 b0.kind.val, .int .i64 b0.lat0.val, .int .i64 b0.lon0.val, .int .i64 b0.lat1.val, .int .i64 b0.lat2.val], 32)] := by
  refine Fun.ofH 400 E_ok mixed Tryz.func116 (by kernel_rfl) (by kernel_rfl) ?_
  unfold F_spec_l20Ok__pPj
  refine Run.q (e := vB) (gv := vB) (ok_spec_l20Kind _) fun r1 _ => ?_
  refine Run.y (gv := vB) (fun _ => ?_) (fun _ => ?_)
  · refine Run.z [true, true, true] ?_
    refine Run.q (e := vB) (gv := vB) (ok_spec_ValidProjection _) fun r2 _ => ?_
    refine Run.z [true] ?_
    exact Run.x 1
  · refine Run.z [false, false, false, false] ?_
    exact Run.x 1

theorem ok_spec_l20Root (a0 : I64) : Fun Tryz.prog 216 [] #[vI a0] (vIv (F_spec_l20Root a0)) [] := by
  refine Fun.ofH 400 E_ok mixed Tryz.func216 (by kernel_rfl) (by kernel_rfl) ?_
  unfold F_spec_l20Root
  refine Run.y (gv := vIv) (fun _ => ?_) (fun _ => ?_)
  · refine Run.q (e := vIv) (gv := vIv) (ok_spec_Integer _) fun r1 _ => ?_
    refine Run.q (e := vIv) (gv := vIv) (ok_spec_SqrtI _) fun r2 _ => ?_
    exact Run.x 0
  · refine Run.q (e := vIv) (gv := vIv) (ok_spec_Integer _) fun r3 _ => ?_
    refine Run.q (e := vIv) (gv := vIv) (ok_spec_PiI) fun r4 _ => ?_
    refine Run.q (e := vIv) (gv := vIv) (ok_spec_AddI _ _) fun r5 _ => ?_
    refine Run.q (e := vIv) (gv := vIv) (ok_spec_SqrtI _) fun r6 _ => ?_
    exact Run.x 0

theorem ok_spec_l20High (a0 : I64) : Fun Tryz.prog 117 [] #[vI a0] (vIv (F_spec_l20High a0)) [] := by
  refine Fun.ofH 400 E_ok mixed Tryz.func117 (by kernel_rfl) (by kernel_rfl) ?_
  unfold F_spec_l20High
  refine Run.y (gv := vIv) (fun _ => ?_) (fun _ => ?_)
  · refine Run.q (e := vIv) (gv := vIv) (ok_spec_TurnI _) fun r1 _ => ?_
    exact Run.x 0
  · refine Run.y (gv := vIv) (fun _ => ?_) (fun _ => ?_)
    · refine Run.q (e := vIv) (gv := vIv) (ok_spec_l20Root _) fun r2 _ => ?_
      exact Run.x 0
    · refine Run.q (e := vIv) (gv := vIv) (ok_spec_PiI) fun r3 _ => ?_
      refine Run.q (e := vIv) (gv := vIv) (ok_spec_l20Root _) fun r4 _ => ?_
      refine Run.q (e := vIv) (gv := vIv) (ok_spec_DivI _ _) fun r5 _ => ?_
      exact Run.x 0

theorem ok_spec_l20Back (a0 : I64) (a1 : Iv) : Fun Tryz.prog 119 [] #[vI a0, vIv a1] (vIv (F_spec_l20Back a0 a1)) [] := by
  refine Fun.ofH 400 E_ok mixed Tryz.func119 (by kernel_rfl) (by kernel_rfl) ?_
  unfold F_spec_l20Back
  refine Run.y (gv := vIv) (fun _ => ?_) (fun _ => ?_)
  · exact Run.x 0
  · refine Run.y (gv := vIv) (fun _ => ?_) (fun _ => ?_)
    · refine Run.q (e := vIv) (gv := vIv) (ok_spec_l20Root _) fun r1 _ => ?_
      refine Run.q (e := vIv) (gv := vIv) (ok_spec_DivI _ _) fun r2 _ => ?_
      refine Run.q (e := vIv) (gv := vIv) (ok_spec_AsinI _) fun r3 _ => ?_
      exact Run.x 0
    · refine Run.q (e := vIv) (gv := vIv) (ok_spec_l20Root _) fun r4 _ => ?_
      refine Run.q (e := vIv) (gv := vIv) (ok_spec_MulI _ _) fun r5 _ => ?_
      refine Run.q (e := vIv) (gv := vIv) (ok_spec_HalfI _) fun r6 _ => ?_
      exact Run.x 0

theorem ok_spec_l20Parallel (a0 : I64) (a1 : Iv) : Fun Tryz.prog 120 [] #[vI a0, vIv a1] (vT_Iv_Iv (F_spec_l20Parallel a0 a1)) [] := by
  refine Fun.ofH 400 E_ok mixed Tryz.func120 (by kernel_rfl) (by kernel_rfl) ?_
  unfold F_spec_l20Parallel
  refine Run.y (gv := vT_Iv_Iv) (fun _ => ?_) (fun _ => ?_)
  · refine Run.q (e := vIv) (gv := vT_Iv_Iv) (ok_spec_CosI _) fun r1 _ => ?_
    exact Run.x 0
  · refine Run.y (gv := vT_Iv_Iv) (fun _ => ?_) (fun _ => ?_)
    · refine Run.q (e := vIv) (gv := vT_Iv_Iv) (ok_spec_Integer _) fun r2 _ => ?_
      refine Run.q (e := vIv) (gv := vT_Iv_Iv) (ok_spec_l20Root _) fun r3 _ => ?_
      refine Run.q (e := vIv) (gv := vT_Iv_Iv) (ok_spec_MulI _ _) fun r4 _ => ?_
      refine Run.q (e := vIv) (gv := vT_Iv_Iv) (ok_spec_CosI _) fun r5 _ => ?_
      refine Run.q (e := vIv) (gv := vT_Iv_Iv) (ok_spec_MulI _ _) fun r6 _ => ?_
      refine Run.q (e := vIv) (gv := vT_Iv_Iv) (ok_spec_PiI) fun r7 _ => ?_
      refine Run.q (e := vIv) (gv := vT_Iv_Iv) (ok_spec_DivI _ _) fun r8 _ => ?_
      refine Run.q (e := vIv) (gv := vT_Iv_Iv) (ok_spec_l20Root _) fun r9 _ => ?_
      refine Run.q (e := vIv) (gv := vT_Iv_Iv) (ok_spec_SinI _) fun r10 _ => ?_
      refine Run.q (e := vIv) (gv := vT_Iv_Iv) (ok_spec_MulI _ _) fun r11 _ => ?_
      exact Run.x 0
    · refine Run.q (e := vIv) (gv := vT_Iv_Iv) (ok_spec_Integer _) fun r12 _ => ?_
      refine Run.q (e := vIv) (gv := vT_Iv_Iv) (ok_spec_CosI _) fun r13 _ => ?_
      refine Run.q (e := vIv) (gv := vT_Iv_Iv) (ok_spec_AddI _ _) fun r14 _ => ?_
      refine Run.q (e := vIv) (gv := vT_Iv_Iv) (ok_spec_l20Root _) fun r15 _ => ?_
      refine Run.q (e := vIv) (gv := vT_Iv_Iv) (ok_spec_DivI _ _) fun r16 _ => ?_
      refine Run.q (e := vIv) (gv := vT_Iv_Iv) (ok_spec_Integer _) fun r17 _ => ?_
      refine Run.q (e := vIv) (gv := vT_Iv_Iv) (ok_spec_MulI _ _) fun r18 _ => ?_
      refine Run.q (e := vIv) (gv := vT_Iv_Iv) (ok_spec_l20Root _) fun r19 _ => ?_
      refine Run.q (e := vIv) (gv := vT_Iv_Iv) (ok_spec_DivI _ _) fun r20 _ => ?_
      exact Run.x 0

theorem ok_spec_l20Right (a0 : I64) : Fun Tryz.prog 218 [] #[vI a0] (vIv (F_spec_l20Right a0)) [] := by
  refine Fun.ofH 400 E_ok mixed Tryz.func218 (by kernel_rfl) (by kernel_rfl) ?_
  unfold F_spec_l20Right
  refine Run.y (gv := vIv) (fun _ => ?_) (fun _ => ?_)
  · refine Run.q (e := vIv) (gv := vIv) (ok_spec_PiI) fun r1 _ => ?_
    exact Run.x 0
  · refine Run.q (e := vIv) (gv := vIv) (ok_spec_Integer _) fun r2 _ => ?_
    refine Run.q (e := vIv) (gv := vIv) (ok_spec_TurnI _) fun r3 _ => ?_
    refine Run.q (e := vIv) (gv := vIv) (ok_spec_AddI _ _) fun r4 _ => ?_
    exact Run.x 0

theorem ok_spec_l20Lat (a0 : I64) (a1 : Iv) : Fun Tryz.prog 121 [] #[vI a0, vIv a1] (vIv (F_spec_l20Lat a0 a1)) [] := by
  refine Fun.ofH 400 E_ok mixed Tryz.func121 (by kernel_rfl) (by kernel_rfl) ?_
  unfold F_spec_l20Lat
  refine Run.y (gv := vIv) (fun _ => ?_) (fun _ => ?_)
  · exact Run.x 0
  · refine Run.y (gv := vIv) (fun _ => ?_) (fun _ => ?_)
    · refine Run.q (e := vIv) (gv := vIv) (ok_spec_DoubleI _) fun r1 _ => ?_
      refine Run.q (e := vIv) (gv := vIv) (ok_spec_SinI _) fun r2 _ => ?_
      refine Run.q (e := vIv) (gv := vIv) (ok_spec_AddI _ _) fun r3 _ => ?_
      refine Run.q (e := vIv) (gv := vIv) (ok_spec_l20Right _) fun r4 _ => ?_
      refine Run.q (e := vIv) (gv := vIv) (ok_spec_DivI _ _) fun r5 _ => ?_
      refine Run.q (e := vIv) (gv := vIv) (ok_spec_AsinI _) fun r6 _ => ?_
      exact Run.x 0
    · refine Run.q (e := vIv) (gv := vIv) (ok_spec_SinI _) fun r7 _ => ?_
      refine Run.q (e := vIv) (gv := vIv) (ok_spec_AddI _ _) fun r8 _ => ?_
      refine Run.q (e := vIv) (gv := vIv) (ok_spec_l20Right _) fun r9 _ => ?_
      refine Run.q (e := vIv) (gv := vIv) (ok_spec_DivI _ _) fun r10 _ => ?_
      refine Run.q (e := vIv) (gv := vIv) (ok_spec_AsinI _) fun r11 _ => ?_
      exact Run.x 0

theorem ok_spec_PseudoInverse (a0 : Pj) (a1 : Pn) : Fun Tryz.prog 34 [] #[vPj a0, vPn a1] (vT_Iv_Iv_I (F_spec_PseudoInverse a0 a1)) [] := by
  refine Fun.ofH 400 E_ok mixed Tryz.func34 (by kernel_rfl) (by kernel_rfl) ?_
  unfold F_spec_PseudoInverse
  refine Run.w (e := vB) (gv := vT_Iv_Iv_I) [0] (ok_spec_l20Ok__pPj _) fun r1 _ => ?_
  refine Run.y (gv := vT_Iv_Iv_I) (fun _ => ?_) (fun _ => ?_)
  · exact Run.x 0
  · refine Run.q (e := vIv) (gv := vT_Iv_Iv_I) (ok_spec_l20High _) fun r2 _ => ?_
    refine Run.q (e := vIv) (gv := vT_Iv_Iv_I) (ok_spec_AbsI _) fun r3 _ => ?_
    refine Run.q (e := vI) (gv := vT_Iv_Iv_I) (ok_spec_LessI _ _) fun r4 _ => ?_
    refine Run.y (gv := vT_Iv_Iv_I) (fun _ => ?_) (fun _ => ?_)
    · exact Run.x 0
    · refine Run.q (e := vIv) (gv := vT_Iv_Iv_I) (ok_spec_l20Back _ _) fun r5 _ => ?_
      refine Run.q (e := vT_Iv_Iv) (gv := vT_Iv_Iv_I) (ok_spec_l20Parallel _ _) fun r6 _ => ?_
      refine Run.q (e := vIv) (gv := vT_Iv_Iv_I) (ok_spec_l20Lat _ _) fun r7 _ => ?_
      refine Run.q (e := vIv) (gv := vT_Iv_Iv_I) (ok_spec_DivI _ _) fun r8 _ => ?_
      refine Run.q (e := vIv) (gv := vT_Iv_Iv_I) (ok_spec_PiI) fun r9 _ => ?_
      refine Run.q (e := vIv) (gv := vT_Iv_Iv_I) (ok_spec_AbsI _) fun r10 _ => ?_
      refine Run.q (e := vI) (gv := vT_Iv_Iv_I) (ok_spec_LessI _ _) fun r11 _ => ?_
      refine Run.y (gv := vT_Iv_Iv_I) (fun _ => ?_) (fun _ => ?_)
      · exact Run.x 0
      · refine Run.q (e := vB) (gv := vT_Iv_Iv_I) (ok_spec_IsWhole _) fun r12 _ => ?_
        refine Run.y (gv := vT_Iv_Iv_I) (fun _ => ?_) (fun _ => ?_)
        · exact Run.x 0
        · refine Run.q (e := vIv) (gv := vT_Iv_Iv_I) (ok_spec_RadiansOf _) fun r13 _ => ?_
          refine Run.q (e := vIv) (gv := vT_Iv_Iv_I) (ok_spec_AddI _ _) fun r14 _ => ?_
          exact Run.x 0

theorem ok_spec_l21Ok__pPj (b0 : Pj) : Fun Tryz.prog 123 [(#[.int .i64 b0.kind.val, .int .i64 b0.lat0.val, .int .i64 b0.lon0.val, .int .i64 b0.lat1.val, .int .i64 b0.lat2.val], 32)] #[.pointer (some ⟨0, 0, none⟩)] (vB (F_spec_l21Ok__pPj b0)) [(#[.int .i64 b0.kind.val, .int .i64 b0.lat0.val, .int .i64 b0.lon0.val, .int .i64 b0.lat1.val, .int .i64 b0.lat2.val], 32)] := by
  refine Fun.ofH 400 E_ok mixed Tryz.func123 (by kernel_rfl) (by kernel_rfl) ?_
  unfold F_spec_l21Ok__pPj
  refine Run.y (gv := vB) (fun _ => ?_) (fun _ => ?_)
  · refine Run.z [true, true, true] ?_
    refine Run.q (e := vB) (gv := vB) (ok_spec_ValidProjection _) fun r1 _ => ?_
    refine Run.z [true] ?_
    exact Run.x 1
  · refine Run.z [false, false, false, false] ?_
    exact Run.x 1

theorem ok_spec_l08Cosh (a0 : I64) : Fun Tryz.prog 219 [] #[vI a0] (vIv (F_spec_l08Cosh a0)) [] := by
  refine Fun.ofH 400 E_ok mixed Tryz.func219 (by kernel_rfl) (by kernel_rfl) ?_
  unfold F_spec_l08Cosh
  refine Run.q (e := vIv) (gv := vIv) (ok_spec_ExpAt _) fun r1 _ => ?_
  refine Run.q (e := vIv) (gv := vIv) (ok_spec_ExpAt _) fun r2 _ => ?_
  refine Run.q (e := vIv) (gv := vIv) (ok_spec_AddI _ _) fun r3 _ => ?_
  refine Run.q (e := vIv) (gv := vIv) (ok_spec_HalfI _) fun r4 _ => ?_
  exact Run.x 0

theorem ok_spec_CoshI (a0 : Iv) : Fun Tryz.prog 125 [] #[vIv a0] (vIv (F_spec_CoshI a0)) [] := by
  refine Fun.ofH 400 E_ok mixed Tryz.func125 (by kernel_rfl) (by kernel_rfl) ?_
  unfold F_spec_CoshI
  refine Run.q (e := vB) (gv := vIv) (ok_spec_l04Ok _) fun r1 _ => ?_
  refine Run.y (gv := vIv) (fun _ => ?_) (fun _ => ?_)
  · refine Run.q (e := vIv) (gv := vIv) (ok_spec_l04Whole) fun r2 _ => ?_
    exact Run.x 0
  · refine Run.q (e := vIv) (gv := vIv) (ok_spec_AbsI _) fun r3 _ => ?_
    refine Run.q (e := vIv) (gv := vIv) (ok_spec_l08Cosh _) fun r4 _ => ?_
    refine Run.q (e := vIv) (gv := vIv) (ok_spec_l08Cosh _) fun r5 _ => ?_
    refine Run.q (e := vIv) (gv := vIv) (ok_spec_l08Ends _ _) fun r6 _ => ?_
    exact Run.x 0

theorem ok_spec_TransverseInverse (a0 : Pj) (a1 : Pn) : Fun Tryz.prog 35 [] #[vPj a0, vPn a1] (vT_Iv_Iv_I (F_spec_TransverseInverse a0 a1)) [] := by
  refine Fun.ofH 400 E_ok mixed Tryz.func35 (by kernel_rfl) (by kernel_rfl) ?_
  unfold F_spec_TransverseInverse
  refine Run.w (e := vB) (gv := vT_Iv_Iv_I) [0] (ok_spec_l21Ok__pPj _) fun r1 _ => ?_
  refine Run.y (gv := vT_Iv_Iv_I) (fun _ => ?_) (fun _ => ?_)
  · exact Run.x 0
  · refine Run.q (e := vIv) (gv := vT_Iv_Iv_I) (ok_spec_RadiansOf _) fun r2 _ => ?_
    refine Run.q (e := vIv) (gv := vT_Iv_Iv_I) (ok_spec_AddI _ _) fun r3 _ => ?_
    refine Run.q (e := vIv) (gv := vT_Iv_Iv_I) (ok_spec_SinI _) fun r4 _ => ?_
    refine Run.q (e := vIv) (gv := vT_Iv_Iv_I) (ok_spec_CoshI _) fun r5 _ => ?_
    refine Run.q (e := vIv) (gv := vT_Iv_Iv_I) (ok_spec_DivI _ _) fun r6 _ => ?_
    refine Run.q (e := vIv) (gv := vT_Iv_Iv_I) (ok_spec_AsinI _) fun r7 _ => ?_
    refine Run.q (e := vB) (gv := vT_Iv_Iv_I) (ok_spec_IsWhole _) fun r8 _ => ?_
    refine Run.y (gv := vT_Iv_Iv_I) (fun _ => ?_) (fun _ => ?_)
    · refine Run.z [true, true, true, true, true, true] ?_
      exact Run.x 0
    · refine Run.z [false] ?_
      refine Run.q (e := vB) (gv := vT_Iv_Iv_I) (ok_spec_IsWhole _) fun r9 _ => ?_
      refine Run.z [false] ?_
      refine Run.y (gv := vT_Iv_Iv_I) (fun _ => ?_) (fun _ => ?_)
      · refine Run.z [true, true, true] ?_
        exact Run.x 0
      · refine Run.z [false] ?_
        refine Run.q (e := vB) (gv := vT_Iv_Iv_I) (ok_spec_IsWhole _) fun r10 _ => ?_
        refine Run.z [false] ?_
        refine Run.y (gv := vT_Iv_Iv_I) (fun _ => ?_) (fun _ => ?_)
        · exact Run.x 0
        · refine Run.q (e := vIv) (gv := vT_Iv_Iv_I) (ok_spec_RadiansOf _) fun r11 _ => ?_
          refine Run.q (e := vIv) (gv := vT_Iv_Iv_I) (ok_spec_SinhI _) fun r12 _ => ?_
          refine Run.q (e := vIv) (gv := vT_Iv_Iv_I) (ok_spec_CosI _) fun r13 _ => ?_
          refine Run.q (e := vIv) (gv := vT_Iv_Iv_I) (ok_spec_DirectionI _ _) fun r14 _ => ?_
          refine Run.q (e := vIv) (gv := vT_Iv_Iv_I) (ok_spec_AddI _ _) fun r15 _ => ?_
          exact Run.x 0

theorem ok_spec_l22Inverse (a0 : Pj) (a1 : Pn) : Fun Tryz.prog 14 [] #[vPj a0, vPn a1] (vT_Iv_Iv_I (F_spec_l22Inverse a0 a1)) [] := by
  refine Fun.ofH 400 E_ok mixed Tryz.func14 (by kernel_rfl) (by kernel_rfl) ?_
  unfold F_spec_l22Inverse
  refine Run.q (e := vI) (gv := vT_Iv_Iv_I) (ok_spec_l22Family _) fun r1 _ => ?_
  refine Run.y (gv := vT_Iv_Iv_I) (fun _ => ?_) (fun _ => ?_)
  · refine Run.q (e := vT_Iv_Iv_I) (gv := vT_Iv_Iv_I) (ok_spec_CylinderInverse _ _) fun r2 _ => ?_
    exact Run.x 0
  · refine Run.y (gv := vT_Iv_Iv_I) (fun _ => ?_) (fun _ => ?_)
    · refine Run.q (e := vT_Iv_Iv_I) (gv := vT_Iv_Iv_I) (ok_spec_AzimuthalInverse _ _) fun r3 _ => ?_
      exact Run.x 0
    · refine Run.y (gv := vT_Iv_Iv_I) (fun _ => ?_) (fun _ => ?_)
      · refine Run.q (e := vT_Iv_Iv_I) (gv := vT_Iv_Iv_I) (ok_spec_ConicInverse _ _) fun r4 _ => ?_
        exact Run.x 0
      · refine Run.y (gv := vT_Iv_Iv_I) (fun _ => ?_) (fun _ => ?_)
        · refine Run.q (e := vT_Iv_Iv_I) (gv := vT_Iv_Iv_I) (ok_spec_PseudoInverse _ _) fun r5 _ => ?_
          exact Run.x 0
        · refine Run.y (gv := vT_Iv_Iv_I) (fun _ => ?_) (fun _ => ?_)
          · refine Run.q (e := vT_Iv_Iv_I) (gv := vT_Iv_Iv_I) (ok_spec_TransverseInverse _ _) fun r6 _ => ?_
            exact Run.x 0
          · exact Run.x 0

theorem ok_spec_l22Unproject (a0 : Pj) (a1 : Pn) : Fun Tryz.prog 9 [] #[vPj a0, vPn a1] (vT_Iv_Iv_I (F_spec_l22Unproject a0 a1)) [] := by
  refine Fun.ofH 400 E_ok mixed Tryz.func9 (by kernel_rfl) (by kernel_rfl) ?_
  unfold F_spec_l22Unproject
  refine Run.q (e := vT_Iv_Iv_I) (gv := vT_Iv_Iv_I) (ok_spec_l22Inverse _ _) fun r1 _ => ?_
  refine Run.y (gv := vT_Iv_Iv_I) (fun _ => ?_) (fun _ => ?_)
  · refine Run.z [true] ?_
    refine Run.q (e := vB) (gv := vT_Iv_Iv_I) (ok_spec_l04Ok _) fun r2 _ => ?_
    refine Run.z [true, true] ?_
    refine Run.y (gv := vT_Iv_Iv_I) (fun _ => ?_) (fun _ => ?_)
    · refine Run.z [true] ?_
      exact Run.x 0
    · refine Run.y (gv := vT_Iv_Iv_I) (fun _ => ?_) (fun _ => ?_)
      · exact Run.x 0
      · exact Run.x 0
  · refine Run.z [false, false, false, false] ?_
    refine Run.y (gv := vT_Iv_Iv_I) (fun _ => ?_) (fun _ => ?_)
    · exact Run.x 0
    · exact Run.x 0

theorem ok_spec_l05Units (a0 : I64) : Fun Tryz.prog 37 [] #[vI a0] (vI (F_spec_l05Units a0)) [] := by
  refine Fun.ofH 400 E_ok mixed Tryz.func37 (by kernel_rfl) (by kernel_rfl) ?_
  unfold F_spec_l05Units
  refine Run.y (gv := vI) (fun _ => ?_) (fun _ => ?_)
  · refine Run.q (e := vT_I_B) (gv := vI) (ok_spec_MulDivFloor _ _ _) fun r1 _ => ?_
    exact Run.x 0
  · refine Run.q (e := vT_I_B) (gv := vI) (ok_spec_MulDivFloor _ _ _) fun r2 _ => ?_
    exact Run.x 0

theorem ok_spec_UnitsOf (a0 : Iv) : Fun Tryz.prog 16 [] #[vIv a0] (vT_I_I_B (F_spec_UnitsOf a0)) [] := by
  refine Fun.ofH 400 E_ok mixed Tryz.func16 (by kernel_rfl) (by kernel_rfl) ?_
  unfold F_spec_UnitsOf
  refine Run.q (e := vB) (gv := vT_I_I_B) (ok_spec_IsWhole _) fun r1 _ => ?_
  refine Run.y (gv := vT_I_I_B) (fun _ => ?_) (fun _ => ?_)
  · exact Run.x 0
  · refine Run.q (e := vI) (gv := vT_I_I_B) (ok_spec_l05Units _) fun r2 _ => ?_
    refine Run.q (e := vI) (gv := vT_I_I_B) (ok_spec_l05Units _) fun r3 _ => ?_
    refine Run.y (gv := vT_I_I_B) (fun _ => ?_) (fun _ => ?_)
    · refine Run.z [true, true, true] ?_
      exact Run.x 0
    · refine Run.z [false, false] ?_
      refine Run.y (gv := vT_I_I_B) (fun _ => ?_) (fun _ => ?_)
      · exact Run.x 0
      · exact Run.x 0

theorem ok_spec_l11Wrap (a0 : I64) : Fun Tryz.prog 18 [] #[vI a0] (vI (F_spec_l11Wrap a0)) [] := by
  refine Fun.ofH 400 E_ok mixed Tryz.func18 (by kernel_rfl) (by kernel_rfl) ?_
  unfold F_spec_l11Wrap
  refine Run.z [true] ?_
  refine Run.y (gv := vI) (fun _ => ?_) (fun _ => ?_)
  · refine Run.y (gv := vI) (fun _ => ?_) (fun _ => ?_)
    · exact Run.x 0
    · exact Run.x 0
  · refine Run.y (gv := vI) (fun _ => ?_) (fun _ => ?_)
    · exact Run.x 0
    · exact Run.x 0

theorem ok_spec_MiddlePoint (a0 : Iv) (a1 : Iv) : Fun Tryz.prog 10 [] #[vIv a0, vIv a1] (vT_Pt_I_I (F_spec_MiddlePoint a0 a1)) [] := by
  refine Fun.ofH 400 E_ok mixed Tryz.func10 (by kernel_rfl) (by kernel_rfl) ?_
  unfold F_spec_MiddlePoint
  refine Run.q (e := vT_I_I_B) (gv := vT_Pt_I_I) (ok_spec_UnitsOf _) fun r1 hr1 => ?_
  refine Run.q (e := vT_I_I_B) (gv := vT_Pt_I_I) (ok_spec_UnitsOf _) fun r2 hr2 => ?_
  refine Run.y (gv := vT_Pt_I_I) (fun h3 => ?_) (fun h3 => ?_)
  · refine Run.z [true, true, true] ?_
    exact Run.x 0
  · refine Run.z [false, false] ?_
    refine Run.y (gv := vT_Pt_I_I) (fun h4 => ?_) (fun h4 => ?_)
    · exact Run.x 0
    · refine Run.q (e := vI) (gv := vT_Pt_I_I) (ok_spec_l06Floor _ _ (by simp only [w64_val, wu64_val, c64_val, cu64_val, decide_eq_true_eq, decide_eq_false_iff_not, cond_true, cond_false] at *; omega)) fun r5 hr5 => ?_
      refine Run.q (e := vI) (gv := vT_Pt_I_I) (ok_spec_l06Floor _ _ (by simp only [w64_val, wu64_val, c64_val, cu64_val, decide_eq_true_eq, decide_eq_false_iff_not, cond_true, cond_false] at *; omega)) fun r6 hr6 => ?_
      refine Run.q (e := vI) (gv := vT_Pt_I_I) (ok_spec_l11Wrap _) fun r7 hr7 => ?_
      refine Run.q (e := vB) (gv := vT_Pt_I_I) (ok_spec_l11Ok _) fun r8 hr8 => ?_
      refine Run.y (gv := vT_Pt_I_I) (fun h9 => ?_) (fun h9 => ?_)
      · exact Run.x 0
      · refine Run.q (e := vI) (gv := vT_Pt_I_I) (ok_spec_l00Max _ _) fun r10 hr10 => ?_
        exact Run.x 0

theorem ok_spec_PointAt (a0 : Pj) (a1 : Pn) : Fun Tryz.prog 4 [] #[vPj a0, vPn a1] (vT_Pt_I_I (F_spec_PointAt a0 a1)) [] := by
  refine Fun.ofH 400 E_ok mixed Tryz.func4 (by kernel_rfl) (by kernel_rfl) ?_
  unfold F_spec_PointAt
  refine Run.q (e := vT_Iv_Iv_I) (gv := vT_Pt_I_I) (ok_spec_l22Unproject _ _) fun r1 _ => ?_
  refine Run.y (gv := vT_Pt_I_I) (fun _ => ?_) (fun _ => ?_)
  · exact Run.x 0
  · refine Run.q (e := vT_Pt_I_I) (gv := vT_Pt_I_I) (ok_spec_MiddlePoint _ _) fun r2 _ => ?_
    exact Run.x 0

end Go.Proofs.YtjbdilphncpceaaGreat.Abs
