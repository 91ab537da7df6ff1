/- The program's functions are these; part 3 (written by w.py). -/
import Derived.Test.YtjckiicaegpghaaGreatE
import Derived.Test.YtjckiicaegpghaaGreatF6
import Derived.Test.YtjckiicaegpghaaGreatQpre
import Derived.Test.YtjckiicaegpghaaGreatK1
import Derived.Test.YtjckiicaegpghaaGreatK2
set_option linter.unusedVariables false
set_option linter.unusedSimpArgs false
namespace Go.Proofs.YtjckiicaegpghaaGreat.Abs
open Go Go.RowKit

theorem ok_spec_LogAt (a0 : I64) : Fun Tryz.prog 360 [] #[vI a0] (vIv (F_spec_LogAt a0)) [] := by
  refine Fun.ofH 400 E_ok mixed Tryz.func360 (by kernel_rfl) (by kernel_rfl) ?_
  unfold F_spec_LogAt
  refine Run.q (e := vB) (gv := vIv) (ok_spec_l00In _ _ _) fun r1 hr1 => ?_
  refine Run.y (gv := vIv) (fun h2 => ?_) (fun h2 => ?_)
  · refine Run.q (e := vIv) (gv := vIv) (ok_spec_l04Whole) fun r3 hr3 => ?_
    exact Run.x 0
  · exact Run.l (by kernel_rfl) (by kernel_rfl) (by kernel_rfl) (by kernel_rfl) (ok_spec_LogAt_L0 ((64 - (c64 0).val).toNat + 1) a0 (c64 0) (⟨a0, a0⟩ : Iv) (by first | exact (in1_p hr1 h2).1 | exact (in1_p hr1 h2).2 | exact ⟨by decide, by decide⟩ | exact (shr0' a0).symm | exact .inl rfl | exact Nat.lt_succ_self _) (by first | exact (in1_p hr1 h2).1 | exact (in1_p hr1 h2).2 | exact ⟨by decide, by decide⟩ | exact (shr0' a0).symm | exact .inl rfl | exact Nat.lt_succ_self _) (by first | exact (in1_p hr1 h2).1 | exact (in1_p hr1 h2).2 | exact ⟨by decide, by decide⟩ | exact (shr0' a0).symm | exact .inl rfl | exact Nat.lt_succ_self _) (by first | exact (in1_p hr1 h2).1 | exact (in1_p hr1 h2).2 | exact ⟨by decide, by decide⟩ | exact (shr0' a0).symm | exact .inl rfl | exact Nat.lt_succ_self _) (by first | exact (in1_p hr1 h2).1 | exact (in1_p hr1 h2).2 | exact ⟨by decide, by decide⟩ | exact (shr0' a0).symm | exact .inl rfl | exact Nat.lt_succ_self _) (by first | exact (in1_p hr1 h2).1 | exact (in1_p hr1 h2).2 | exact ⟨by decide, by decide⟩ | exact (shr0' a0).symm | exact .inl rfl | exact Nat.lt_succ_self _))

theorem ok_spec_l08Ends (a0 : Iv) (a1 : Iv) : Fun Tryz.prog 297 [] #[vIv a0, vIv a1] (vIv (F_spec_l08Ends a0 a1)) [] := by
  refine Fun.ofH 400 E_ok mixed Tryz.func297 (by kernel_rfl) (by kernel_rfl) ?_
  unfold F_spec_l08Ends
  refine Run.q (e := vB) (gv := vIv) (ok_spec_l04Ok _) fun r1 _ => ?_
  refine Run.y (gv := vIv) (fun _ => ?_) (fun _ => ?_)
  · refine Run.z [true, true, true, true] ?_
    refine Run.q (e := vIv) (gv := vIv) (ok_spec_l04Whole) fun r2 _ => ?_
    exact Run.x 0
  · refine Run.z [false] ?_
    refine Run.q (e := vB) (gv := vIv) (ok_spec_l04Ok _) fun r3 _ => ?_
    refine Run.z [false, false] ?_
    refine Run.y (gv := vIv) (fun _ => ?_) (fun _ => ?_)
    · refine Run.q (e := vIv) (gv := vIv) (ok_spec_l04Whole) fun r4 _ => ?_
      exact Run.x 0
    · refine Run.q (e := vIv) (gv := vIv) (ok_spec_l04Make _ _) fun r5 _ => ?_
      exact Run.x 0

theorem ok_spec_LogI (a0 : Iv) : Fun Tryz.prog 308 [] #[vIv a0] (vIv (F_spec_LogI a0)) [] := by
  refine Fun.ofH 400 E_ok mixed Tryz.func308 (by kernel_rfl) (by kernel_rfl) ?_
  unfold F_spec_LogI
  refine Run.q (e := vB) (gv := vIv) (ok_spec_l04Ok _) fun r1 _ => ?_
  refine Run.y (gv := vIv) (fun _ => ?_) (fun _ => ?_)
  · refine Run.q (e := vIv) (gv := vIv) (ok_spec_l04Whole) fun r2 _ => ?_
    exact Run.x 0
  · refine Run.q (e := vIv) (gv := vIv) (ok_spec_LogAt _) fun r3 _ => ?_
    refine Run.q (e := vIv) (gv := vIv) (ok_spec_LogAt _) fun r4 _ => ?_
    refine Run.q (e := vIv) (gv := vIv) (ok_spec_l08Ends _ _) fun r5 _ => ?_
    exact Run.x 0

theorem ok_spec_SinAt (a0 : I64) : Fun Tryz.prog 303 [] #[vI a0] (vIv (F_spec_SinAt a0)) [] := by
  refine Fun.ofH 400 E_ok mixed Tryz.func303 (by kernel_rfl) (by kernel_rfl) ?_
  unfold F_spec_SinAt
  refine Run.q (e := vIv) (gv := vIv) (ok_spec_l06At _ _) fun r1 _ => ?_
  exact Run.x 0

theorem ok_spec_CosAt (a0 : I64) : Fun Tryz.prog 304 [] #[vI a0] (vIv (F_spec_CosAt a0)) [] := by
  refine Fun.ofH 400 E_ok mixed Tryz.func304 (by kernel_rfl) (by kernel_rfl) ?_
  unfold F_spec_CosAt
  refine Run.q (e := vIv) (gv := vIv) (ok_spec_l06At _ _) fun r1 _ => ?_
  exact Run.x 0

theorem ok_spec_TanI_L0 : ∀ (fu : Nat) (a0 : Iv) (x_k : I64) (y_1 : Iv) (hm : (2000 - x_k.val).toNat < fu) (t : Array Value) (ht : maskA t [0, 4, 5, 6, 7, 8, 9, 10, 11, 12, 13, 14, 15, 16, 17, 18, 19, 20, 21, 22, 23, 24, 25, 26, 27, 28, 29, 30, 31, 32, 33, 34, 35, 36, 37, 38, 39, 40, 41, 42, 43, 44] = #[undef, .pointer (some ⟨0, 0, none⟩), .pointer (some ⟨1, 0, none⟩), .int .i64 x_k.val, undef, undef, undef, undef, undef, undef, undef, undef, undef, undef, undef, undef, undef, undef, undef, undef, undef, undef, undef, undef, undef, undef, undef, undef, undef, undef, undef, undef, undef, undef, undef, undef, undef, undef, undef, undef, undef, undef, undef, undef, undef]), Cfg Tryz.prog 214 (loopAt Tryz.f214 0) t [(#[.int .i64 a0.lo.val, .int .i64 a0.hi.val], 27), (#[.int .i64 y_1.lo.val, .int .i64 y_1.hi.val], 27)] (RvH [] (vIv (F_spec_TanI_L0 fu a0 x_k y_1))) := by
  intro fu
  induction fu with
  | zero => intro a0 x_k y_1 hm; exact absurd hm (Nat.not_lt_zero _)
  | succ fu ih =>
    intro a0 x_k y_1 hm t ht
    refine Cfg.round E_ok mixed Tryz.func214 ht fun g => ?_
    unfold F_spec_TanI_L0
    refine Run.q (e := vI) (gv := vIv) (ok_spec_QuarterOf _) fun r5 hr5 => ?_
    refine Run.y (gv := vIv) (fun h6 => ?_) (fun h6 => ?_)
    · refine Run.y (gv := vIv) (fun h7 => ?_) (fun h7 => ?_)
      · refine Run.z [true] ?_
        refine Run.q (e := vIv) (gv := vIv) (ok_spec_TurnI _) fun r8 hr8 => ?_
        refine Run.z [true, true] ?_
        refine Run.q (e := vB) (gv := vIv) (ok_spec_OverlapI _ _) fun r9 hr9 => ?_
        refine Run.z [true] ?_
        refine Run.y (gv := vIv) (fun h10 => ?_) (fun h10 => ?_)
        · refine Run.q (e := vIv) (gv := vIv) (ok_spec_Whole) fun r11 hr11 => ?_
          exact Run.x 0
        · exact Run.l (by kernel_rfl) (by kernel_rfl) (by kernel_rfl) (by kernel_rfl) (ih a0 (w64 (x_k.val + 1)) y_1 (by have q1 := x_k.lo; first | exact Nat.lt_succ_self _ | (have q2 := spec_quarter_le a0.hi; have q3 := spec_quarter_ge a0.hi; simp only [w64_val, decide_eq_true_eq, decide_eq_false_iff_not, *] at *; omega)))
      · refine Run.z [false, false, false, false, false] ?_
        exact Run.l (by kernel_rfl) (by kernel_rfl) (by kernel_rfl) (by kernel_rfl) (ih a0 (w64 (x_k.val + 1)) y_1 (by have q1 := x_k.lo; first | exact Nat.lt_succ_self _ | (have q2 := spec_quarter_le a0.hi; have q3 := spec_quarter_ge a0.hi; simp only [w64_val, decide_eq_true_eq, decide_eq_false_iff_not, *] at *; omega)))
    · refine Run.q (e := vIv) (gv := vIv) (ok_spec_SinAt _) fun r12 hr12 => ?_
      refine Run.q (e := vIv) (gv := vIv) (ok_spec_CosAt _) fun r13 hr13 => ?_
      refine Run.q (e := vIv) (gv := vIv) (ok_spec_DivI _ _) fun r14 hr14 => ?_
      refine Run.q (e := vIv) (gv := vIv) (ok_spec_SinAt _) fun r15 hr15 => ?_
      refine Run.q (e := vIv) (gv := vIv) (ok_spec_CosAt _) fun r16 hr16 => ?_
      refine Run.q (e := vIv) (gv := vIv) (ok_spec_DivI _ _) fun r17 hr17 => ?_
      refine Run.q (e := vIv) (gv := vIv) (ok_spec_HullI _ _) fun r18 hr18 => ?_
      exact Run.x 0

theorem ok_spec_TanI (a0 : Iv) : Fun Tryz.prog 214 [] #[vIv a0] (vIv (F_spec_TanI a0)) [] := by
  refine Fun.ofH 400 E_ok mixed Tryz.func214 (by kernel_rfl) (by kernel_rfl) ?_
  unfold F_spec_TanI
  refine Run.q (e := vB) (gv := vIv) (ok_spec_l06Fits _) fun r1 hr1 => ?_
  refine Run.y (gv := vIv) (fun h2 => ?_) (fun h2 => ?_)
  · refine Run.q (e := vIv) (gv := vIv) (ok_spec_Whole) fun r3 hr3 => ?_
    exact Run.x 0
  · refine Run.q (e := vI) (gv := vIv) (ok_spec_QuarterOf _) fun r4 hr4 => ?_
    exact Run.l (by kernel_rfl) (by kernel_rfl) (by kernel_rfl) (by kernel_rfl) (ok_spec_TanI_L0 ((2000 - (w64 (r4.val - 1)).val).toNat + 1) a0 (w64 (r4.val - 1)) (⟨(c64 0), (c64 0)⟩ : Iv) (by exact Nat.lt_succ_self _))

theorem ok_spec_l08Asinh_r : ∀ (fu : Nat) (a0 : I64) (p0 : -9223372036854775808 < a0.val) (hm : min (0 - a0.val).toNat 1 < fu), Fun Tryz.prog 298 [] #[vI a0] (vIv (F_spec_l08Asinh_r fu a0)) [] := by
  intro fu
  induction fu with
  | zero => intro a0 p0 hm; exact absurd hm (Nat.not_lt_zero _)
  | succ fu ih =>
    intro a0 p0 hm
    refine Fun.ofH 400 E_ok mixed Tryz.func298 (by kernel_rfl) (by kernel_rfl) ?_
    unfold F_spec_l08Asinh_r
    unfold F_spec_l08Asinh_b
    refine Run.y (gv := vIv) (fun h1 => ?_) (fun h1 => ?_)
    · refine Run.q (e := vIv) (gv := vIv) (ih (w64 (0 - a0.val)) (by simp only [w64_val, decide_eq_true_eq, decide_eq_false_iff_not] at *; omega) (by simp only [w64_val, decide_eq_true_eq, decide_eq_false_iff_not] at *; omega)) fun r2 hr2 => ?_
      refine Run.q (e := vIv) (gv := vIv) (ok_spec_NegI _) fun r3 hr3 => ?_
      exact Run.x 0
    · refine Run.y (gv := vIv) (fun h4 => ?_) (fun h4 => ?_)
      · refine Run.q (e := vIv) (gv := vIv) (ok_spec_l08At _) fun r5 hr5 => ?_
        refine Run.q (e := vIv) (gv := vIv) (ok_spec_l08At _) fun r6 hr6 => ?_
        refine Run.q (e := vIv) (gv := vIv) (ok_spec_SqrI _) fun r7 hr7 => ?_
        refine Run.q (e := vIv) (gv := vIv) (ok_spec_l08One) fun r8 hr8 => ?_
        refine Run.q (e := vIv) (gv := vIv) (ok_spec_AddI _ _) fun r9 hr9 => ?_
        refine Run.q (e := vIv) (gv := vIv) (ok_spec_SqrtI _) fun r10 hr10 => ?_
        refine Run.q (e := vIv) (gv := vIv) (ok_spec_AddI _ _) fun r11 hr11 => ?_
        refine Run.q (e := vIv) (gv := vIv) (ok_spec_LogI _) fun r12 hr12 => ?_
        exact Run.x 0
      · refine Run.q (e := vIv) (gv := vIv) (ok_spec_LogTwoI _) fun r13 hr13 => ?_
        refine Run.q (e := vIv) (gv := vIv) (ok_spec_LogAt _) fun r14 hr14 => ?_
        refine Run.q (e := vIv) (gv := vIv) (ok_spec_AddI _ _) fun r15 hr15 => ?_
        refine Run.q (e := vIv) (gv := vIv) (ok_spec_AddI _ _) fun r16 hr16 => ?_
        exact Run.x 0
theorem ok_spec_l08Asinh (a0 : I64) (p0 : -9223372036854775808 < a0.val) : Fun Tryz.prog 298 [] #[vI a0] (vIv (F_spec_l08Asinh a0)) [] := ok_spec_l08Asinh_r 2 a0 p0 (by omega)

theorem ok_spec_AsinhI (a0 : Iv) : Fun Tryz.prog 213 [] #[vIv a0] (vIv (F_spec_AsinhI a0)) [] := by
  refine Fun.ofH 400 E_ok mixed Tryz.func213 (by kernel_rfl) (by kernel_rfl) ?_
  unfold F_spec_AsinhI
  refine Run.q (e := vB) (gv := vIv) (ok_spec_l04Ok _) fun r1 hr1 => ?_
  refine Run.y (gv := vIv) (fun h2 => ?_) (fun h2 => ?_)
  · refine Run.q (e := vIv) (gv := vIv) (ok_spec_l04Whole) fun r3 hr3 => ?_
    exact Run.x 0
  · refine Run.q (e := vIv) (gv := vIv) (ok_spec_l08Asinh _ (by rw [hr1] at h2; have z := Ok4p (by simpa using h2); omega)) fun r4 hr4 => ?_
    refine Run.q (e := vIv) (gv := vIv) (ok_spec_l08Asinh _ (by rw [hr1] at h2; have z := Ok4p (by simpa using h2); omega)) fun r5 hr5 => ?_
    refine Run.q (e := vIv) (gv := vIv) (ok_spec_l08Ends _ _) fun r6 hr6 => ?_
    exact Run.x 0

theorem ok_spec_l19Iso (a0 : Iv) : Fun Tryz.prog 309 [] #[vIv a0] (vIv (F_spec_l19Iso a0)) [] := by
  refine Fun.ofH 400 E_ok mixed Tryz.func309 (by kernel_rfl) (by kernel_rfl) ?_
  unfold F_spec_l19Iso
  refine Run.q (e := vIv) (gv := vIv) (ok_spec_TanI _) fun r1 _ => ?_
  refine Run.q (e := vIv) (gv := vIv) (ok_spec_AsinhI _) fun r2 _ => ?_
  exact Run.x 0

theorem ok_spec_l19Cone (a0 : Pj) : Fun Tryz.prog 221 [] #[vPj a0] (vIv (F_spec_l19Cone a0)) [] := by
  refine Fun.ofH 400 E_ok mixed Tryz.func221 (by kernel_rfl) (by kernel_rfl) ?_
  unfold F_spec_l19Cone
  refine Run.q (e := vIv) (gv := vIv) (ok_spec_RadiansOf _) fun r1 _ => ?_
  refine Run.q (e := vIv) (gv := vIv) (ok_spec_RadiansOf _) fun r2 _ => ?_
  refine Run.y (gv := vIv) (fun _ => ?_) (fun _ => ?_)
  · refine Run.q (e := vIv) (gv := vIv) (ok_spec_SinI _) fun r3 _ => ?_
    refine Run.q (e := vIv) (gv := vIv) (ok_spec_SinI _) fun r4 _ => ?_
    refine Run.q (e := vIv) (gv := vIv) (ok_spec_AddI _ _) fun r5 _ => ?_
    refine Run.q (e := vIv) (gv := vIv) (ok_spec_HalfI _) fun r6 _ => ?_
    exact Run.x 0
  · refine Run.y (gv := vIv) (fun _ => ?_) (fun _ => ?_)
    · refine Run.q (e := vIv) (gv := vIv) (ok_spec_SinI _) fun r7 _ => ?_
      exact Run.x 0
    · refine Run.y (gv := vIv) (fun _ => ?_) (fun _ => ?_)
      · refine Run.q (e := vIv) (gv := vIv) (ok_spec_CosI _) fun r8 _ => ?_
        refine Run.q (e := vIv) (gv := vIv) (ok_spec_LogI _) fun r9 _ => ?_
        refine Run.q (e := vIv) (gv := vIv) (ok_spec_CosI _) fun r10 _ => ?_
        refine Run.q (e := vIv) (gv := vIv) (ok_spec_LogI _) fun r11 _ => ?_
        refine Run.q (e := vIv) (gv := vIv) (ok_spec_SubI _ _) fun r12 _ => ?_
        refine Run.q (e := vIv) (gv := vIv) (ok_spec_l19Iso _) fun r13 _ => ?_
        refine Run.q (e := vIv) (gv := vIv) (ok_spec_l19Iso _) fun r14 _ => ?_
        refine Run.q (e := vIv) (gv := vIv) (ok_spec_SubI _ _) fun r15 _ => ?_
        refine Run.q (e := vIv) (gv := vIv) (ok_spec_DivI _ _) fun r16 _ => ?_
        exact Run.x 0
      · refine Run.q (e := vIv) (gv := vIv) (ok_spec_CosI _) fun r17 _ => ?_
        refine Run.q (e := vIv) (gv := vIv) (ok_spec_CosI _) fun r18 _ => ?_
        refine Run.q (e := vIv) (gv := vIv) (ok_spec_SubI _ _) fun r19 _ => ?_
        refine Run.q (e := vIv) (gv := vIv) (ok_spec_SubI _ _) fun r20 _ => ?_
        refine Run.q (e := vIv) (gv := vIv) (ok_spec_DivI _ _) fun r21 _ => ?_
        exact Run.x 0

theorem ok_spec_l08Scale (a0 : Iv) (a1 : I64) : Fun Tryz.prog 387 [] #[vIv a0, vI a1] (vIv (F_spec_l08Scale a0 a1)) [] := by
  refine Fun.ofH 400 E_ok mixed Tryz.func387 (by kernel_rfl) (by kernel_rfl) ?_
  unfold F_spec_l08Scale
  refine Run.y (gv := vIv) (fun h1 => ?_) (fun h1 => ?_)
  · refine Run.k (c := (decide (0 ≤ (wu64 a1.val).val))) (by kernel_rfl) (by exact decide_eq_true (U64.lo _)) ?_
    refine Run.k (c := (decide (0 ≤ (wu64 a1.val).val))) (by kernel_rfl) (by exact decide_eq_true (U64.lo _)) ?_
    refine Run.q (e := vIv) (gv := vIv) (ok_spec_l04Make _ _) fun r2 hr2 => ?_
    exact Run.x 0
  · refine Run.k (c := (decide (0 ≤ (wu64 (w64 (0 - a1.val)).val).val))) (by kernel_rfl) (by exact decide_eq_true (U64.lo _)) ?_
    refine Run.k (c := (decide (0 ≤ (wu64 (w64 (0 - a1.val)).val).val))) (by kernel_rfl) (by exact decide_eq_true (U64.lo _)) ?_
    refine Run.q (e := vIv) (gv := vIv) (ok_spec_l04Make _ _) fun r3 hr3 => ?_
    exact Run.x 0

theorem ok_spec_ExpAt (a0 : I64) : Fun Tryz.prog 364 [] #[vI a0] (vIv (F_spec_ExpAt a0)) [] := by
  refine Fun.ofH 400 E_ok mixed Tryz.func364 (by kernel_rfl) (by kernel_rfl) ?_
  unfold F_spec_ExpAt
  refine Run.q (e := vB) (gv := vIv) (ok_spec_l03Ok _) fun r1 hr1 => ?_
  refine Run.y (gv := vIv) (fun h2 => ?_) (fun h2 => ?_)
  · refine Run.z [true, true, true] ?_
    refine Run.q (e := vIv) (gv := vIv) (ok_spec_l04Whole) fun r3 hr3 => ?_
    exact Run.x 0
  · refine Run.z [false, false] ?_
    refine Run.y (gv := vIv) (fun h4 => ?_) (fun h4 => ?_)
    · refine Run.q (e := vIv) (gv := vIv) (ok_spec_l04Whole) fun r5 hr5 => ?_
      exact Run.x 0
    · refine Run.y (gv := vIv) (fun h6 => ?_) (fun h6 => ?_)
      · exact Run.x 0
      · refine Run.z [true, true] ?_
        refine Run.y (gv := vIv) (fun h7 => ?_) (fun h7 => ?_)
        · refine Run.q (e := vIv) (gv := vIv) (ok_spec_l08At _) fun r8 hr8 => ?_
          refine Run.q (e := vIv) (gv := vIv) (ok_spec_LogTwoI _) fun r9 hr9 => ?_
          refine Run.q (e := vIv) (gv := vIv) (ok_spec_SubI _ _) fun r10 hr10 => ?_
          refine Run.q (e := vIv) (gv := vIv) (ok_spec_l08One) fun r11 hr11 => ?_
          refine Run.u 400 E_ok mixed Tryz.func364 ?_
          refine Run.z [true] ?_
          refine Run.q (e := vIv) (gv := vIv) (ok_spec_l08One) fun r12 hr12 => ?_
          refine Run.q (e := vIv) (gv := vIv) (ok_spec_MulI _ _) fun r13 hr13 => ?_
          refine Run.q (e := vIv) (gv := vIv) (ok_spec_Integer _) fun r14 hr14 => ?_
          refine Run.q (e := vIv) (gv := vIv) (ok_spec_DivI _ _) fun r15 hr15 => ?_
          refine Run.q (e := vIv) (gv := vIv) (ok_spec_AddI _ _) fun r16 hr16 => ?_
          refine Run.u 400 E_ok mixed Tryz.func364 ?_
          refine Run.z [true] ?_
          refine Run.q (e := vIv) (gv := vIv) (ok_spec_l08One) fun r17 hr17 => ?_
          refine Run.q (e := vIv) (gv := vIv) (ok_spec_MulI _ _) fun r18 hr18 => ?_
          refine Run.q (e := vIv) (gv := vIv) (ok_spec_Integer _) fun r19 hr19 => ?_
          refine Run.q (e := vIv) (gv := vIv) (ok_spec_DivI _ _) fun r20 hr20 => ?_
          refine Run.q (e := vIv) (gv := vIv) (ok_spec_AddI _ _) fun r21 hr21 => ?_
          refine Run.u 400 E_ok mixed Tryz.func364 ?_
          refine Run.z [true] ?_
          refine Run.q (e := vIv) (gv := vIv) (ok_spec_l08One) fun r22 hr22 => ?_
          refine Run.q (e := vIv) (gv := vIv) (ok_spec_MulI _ _) fun r23 hr23 => ?_
          refine Run.q (e := vIv) (gv := vIv) (ok_spec_Integer _) fun r24 hr24 => ?_
          refine Run.q (e := vIv) (gv := vIv) (ok_spec_DivI _ _) fun r25 hr25 => ?_
          refine Run.q (e := vIv) (gv := vIv) (ok_spec_AddI _ _) fun r26 hr26 => ?_
          refine Run.u 400 E_ok mixed Tryz.func364 ?_
          refine Run.z [true] ?_
          refine Run.q (e := vIv) (gv := vIv) (ok_spec_l08One) fun r27 hr27 => ?_
          refine Run.q (e := vIv) (gv := vIv) (ok_spec_MulI _ _) fun r28 hr28 => ?_
          refine Run.q (e := vIv) (gv := vIv) (ok_spec_Integer _) fun r29 hr29 => ?_
          refine Run.q (e := vIv) (gv := vIv) (ok_spec_DivI _ _) fun r30 hr30 => ?_
          refine Run.q (e := vIv) (gv := vIv) (ok_spec_AddI _ _) fun r31 hr31 => ?_
          refine Run.u 400 E_ok mixed Tryz.func364 ?_
          refine Run.z [true] ?_
          refine Run.q (e := vIv) (gv := vIv) (ok_spec_l08One) fun r32 hr32 => ?_
          refine Run.q (e := vIv) (gv := vIv) (ok_spec_MulI _ _) fun r33 hr33 => ?_
          refine Run.q (e := vIv) (gv := vIv) (ok_spec_Integer _) fun r34 hr34 => ?_
          refine Run.q (e := vIv) (gv := vIv) (ok_spec_DivI _ _) fun r35 hr35 => ?_
          refine Run.q (e := vIv) (gv := vIv) (ok_spec_AddI _ _) fun r36 hr36 => ?_
          refine Run.u 400 E_ok mixed Tryz.func364 ?_
          refine Run.z [true] ?_
          refine Run.q (e := vIv) (gv := vIv) (ok_spec_l08One) fun r37 hr37 => ?_
          refine Run.q (e := vIv) (gv := vIv) (ok_spec_MulI _ _) fun r38 hr38 => ?_
          refine Run.q (e := vIv) (gv := vIv) (ok_spec_Integer _) fun r39 hr39 => ?_
          refine Run.q (e := vIv) (gv := vIv) (ok_spec_DivI _ _) fun r40 hr40 => ?_
          refine Run.q (e := vIv) (gv := vIv) (ok_spec_AddI _ _) fun r41 hr41 => ?_
          refine Run.u 400 E_ok mixed Tryz.func364 ?_
          refine Run.z [true] ?_
          refine Run.q (e := vIv) (gv := vIv) (ok_spec_l08One) fun r42 hr42 => ?_
          refine Run.q (e := vIv) (gv := vIv) (ok_spec_MulI _ _) fun r43 hr43 => ?_
          refine Run.q (e := vIv) (gv := vIv) (ok_spec_Integer _) fun r44 hr44 => ?_
          refine Run.q (e := vIv) (gv := vIv) (ok_spec_DivI _ _) fun r45 hr45 => ?_
          refine Run.q (e := vIv) (gv := vIv) (ok_spec_AddI _ _) fun r46 hr46 => ?_
          refine Run.u 400 E_ok mixed Tryz.func364 ?_
          refine Run.z [true] ?_
          refine Run.q (e := vIv) (gv := vIv) (ok_spec_l08One) fun r47 hr47 => ?_
          refine Run.q (e := vIv) (gv := vIv) (ok_spec_MulI _ _) fun r48 hr48 => ?_
          refine Run.q (e := vIv) (gv := vIv) (ok_spec_Integer _) fun r49 hr49 => ?_
          refine Run.q (e := vIv) (gv := vIv) (ok_spec_DivI _ _) fun r50 hr50 => ?_
          refine Run.q (e := vIv) (gv := vIv) (ok_spec_AddI _ _) fun r51 hr51 => ?_
          refine Run.u 400 E_ok mixed Tryz.func364 ?_
          refine Run.z [true] ?_
          refine Run.q (e := vIv) (gv := vIv) (ok_spec_l08One) fun r52 hr52 => ?_
          refine Run.q (e := vIv) (gv := vIv) (ok_spec_MulI _ _) fun r53 hr53 => ?_
          refine Run.q (e := vIv) (gv := vIv) (ok_spec_Integer _) fun r54 hr54 => ?_
          refine Run.q (e := vIv) (gv := vIv) (ok_spec_DivI _ _) fun r55 hr55 => ?_
          refine Run.q (e := vIv) (gv := vIv) (ok_spec_AddI _ _) fun r56 hr56 => ?_
          refine Run.u 400 E_ok mixed Tryz.func364 ?_
          refine Run.z [false] ?_
          refine Run.q (e := vIv) (gv := vIv) (ok_spec_l08Widen _ _) fun r57 hr57 => ?_
          refine Run.q (e := vIv) (gv := vIv) (ok_spec_l08Scale _ _) fun r58 hr58 => ?_
          exact Run.x 0
        · refine Run.q (e := vIv) (gv := vIv) (ok_spec_l08At _) fun r59 hr59 => ?_
          refine Run.q (e := vIv) (gv := vIv) (ok_spec_LogTwoI _) fun r60 hr60 => ?_
          refine Run.q (e := vIv) (gv := vIv) (ok_spec_SubI _ _) fun r61 hr61 => ?_
          refine Run.q (e := vIv) (gv := vIv) (ok_spec_l08One) fun r62 hr62 => ?_
          refine Run.u 400 E_ok mixed Tryz.func364 ?_
          refine Run.z [true] ?_
          refine Run.q (e := vIv) (gv := vIv) (ok_spec_l08One) fun r63 hr63 => ?_
          refine Run.q (e := vIv) (gv := vIv) (ok_spec_MulI _ _) fun r64 hr64 => ?_
          refine Run.q (e := vIv) (gv := vIv) (ok_spec_Integer _) fun r65 hr65 => ?_
          refine Run.q (e := vIv) (gv := vIv) (ok_spec_DivI _ _) fun r66 hr66 => ?_
          refine Run.q (e := vIv) (gv := vIv) (ok_spec_AddI _ _) fun r67 hr67 => ?_
          refine Run.u 400 E_ok mixed Tryz.func364 ?_
          refine Run.z [true] ?_
          refine Run.q (e := vIv) (gv := vIv) (ok_spec_l08One) fun r68 hr68 => ?_
          refine Run.q (e := vIv) (gv := vIv) (ok_spec_MulI _ _) fun r69 hr69 => ?_
          refine Run.q (e := vIv) (gv := vIv) (ok_spec_Integer _) fun r70 hr70 => ?_
          refine Run.q (e := vIv) (gv := vIv) (ok_spec_DivI _ _) fun r71 hr71 => ?_
          refine Run.q (e := vIv) (gv := vIv) (ok_spec_AddI _ _) fun r72 hr72 => ?_
          refine Run.u 400 E_ok mixed Tryz.func364 ?_
          refine Run.z [true] ?_
          refine Run.q (e := vIv) (gv := vIv) (ok_spec_l08One) fun r73 hr73 => ?_
          refine Run.q (e := vIv) (gv := vIv) (ok_spec_MulI _ _) fun r74 hr74 => ?_
          refine Run.q (e := vIv) (gv := vIv) (ok_spec_Integer _) fun r75 hr75 => ?_
          refine Run.q (e := vIv) (gv := vIv) (ok_spec_DivI _ _) fun r76 hr76 => ?_
          refine Run.q (e := vIv) (gv := vIv) (ok_spec_AddI _ _) fun r77 hr77 => ?_
          refine Run.u 400 E_ok mixed Tryz.func364 ?_
          refine Run.z [true] ?_
          refine Run.q (e := vIv) (gv := vIv) (ok_spec_l08One) fun r78 hr78 => ?_
          refine Run.q (e := vIv) (gv := vIv) (ok_spec_MulI _ _) fun r79 hr79 => ?_
          refine Run.q (e := vIv) (gv := vIv) (ok_spec_Integer _) fun r80 hr80 => ?_
          refine Run.q (e := vIv) (gv := vIv) (ok_spec_DivI _ _) fun r81 hr81 => ?_
          refine Run.q (e := vIv) (gv := vIv) (ok_spec_AddI _ _) fun r82 hr82 => ?_
          refine Run.u 400 E_ok mixed Tryz.func364 ?_
          refine Run.z [true] ?_
          refine Run.q (e := vIv) (gv := vIv) (ok_spec_l08One) fun r83 hr83 => ?_
          refine Run.q (e := vIv) (gv := vIv) (ok_spec_MulI _ _) fun r84 hr84 => ?_
          refine Run.q (e := vIv) (gv := vIv) (ok_spec_Integer _) fun r85 hr85 => ?_
          refine Run.q (e := vIv) (gv := vIv) (ok_spec_DivI _ _) fun r86 hr86 => ?_
          refine Run.q (e := vIv) (gv := vIv) (ok_spec_AddI _ _) fun r87 hr87 => ?_
          refine Run.u 400 E_ok mixed Tryz.func364 ?_
          refine Run.z [true] ?_
          refine Run.q (e := vIv) (gv := vIv) (ok_spec_l08One) fun r88 hr88 => ?_
          refine Run.q (e := vIv) (gv := vIv) (ok_spec_MulI _ _) fun r89 hr89 => ?_
          refine Run.q (e := vIv) (gv := vIv) (ok_spec_Integer _) fun r90 hr90 => ?_
          refine Run.q (e := vIv) (gv := vIv) (ok_spec_DivI _ _) fun r91 hr91 => ?_
          refine Run.q (e := vIv) (gv := vIv) (ok_spec_AddI _ _) fun r92 hr92 => ?_
          refine Run.u 400 E_ok mixed Tryz.func364 ?_
          refine Run.z [true] ?_
          refine Run.q (e := vIv) (gv := vIv) (ok_spec_l08One) fun r93 hr93 => ?_
          refine Run.q (e := vIv) (gv := vIv) (ok_spec_MulI _ _) fun r94 hr94 => ?_
          refine Run.q (e := vIv) (gv := vIv) (ok_spec_Integer _) fun r95 hr95 => ?_
          refine Run.q (e := vIv) (gv := vIv) (ok_spec_DivI _ _) fun r96 hr96 => ?_
          refine Run.q (e := vIv) (gv := vIv) (ok_spec_AddI _ _) fun r97 hr97 => ?_
          refine Run.u 400 E_ok mixed Tryz.func364 ?_
          refine Run.z [true] ?_
          refine Run.q (e := vIv) (gv := vIv) (ok_spec_l08One) fun r98 hr98 => ?_
          refine Run.q (e := vIv) (gv := vIv) (ok_spec_MulI _ _) fun r99 hr99 => ?_
          refine Run.q (e := vIv) (gv := vIv) (ok_spec_Integer _) fun r100 hr100 => ?_
          refine Run.q (e := vIv) (gv := vIv) (ok_spec_DivI _ _) fun r101 hr101 => ?_
          refine Run.q (e := vIv) (gv := vIv) (ok_spec_AddI _ _) fun r102 hr102 => ?_
          refine Run.u 400 E_ok mixed Tryz.func364 ?_
          refine Run.z [true] ?_
          refine Run.q (e := vIv) (gv := vIv) (ok_spec_l08One) fun r103 hr103 => ?_
          refine Run.q (e := vIv) (gv := vIv) (ok_spec_MulI _ _) fun r104 hr104 => ?_
          refine Run.q (e := vIv) (gv := vIv) (ok_spec_Integer _) fun r105 hr105 => ?_
          refine Run.q (e := vIv) (gv := vIv) (ok_spec_DivI _ _) fun r106 hr106 => ?_
          refine Run.q (e := vIv) (gv := vIv) (ok_spec_AddI _ _) fun r107 hr107 => ?_
          refine Run.u 400 E_ok mixed Tryz.func364 ?_
          refine Run.z [false] ?_
          refine Run.q (e := vIv) (gv := vIv) (ok_spec_l08Widen _ _) fun r108 hr108 => ?_
          refine Run.q (e := vIv) (gv := vIv) (ok_spec_l08Scale _ _) fun r109 hr109 => ?_
          exact Run.x 0

theorem ok_spec_ExpI (a0 : Iv) : Fun Tryz.prog 310 [] #[vIv a0] (vIv (F_spec_ExpI a0)) [] := by
  refine Fun.ofH 400 E_ok mixed Tryz.func310 (by kernel_rfl) (by kernel_rfl) ?_
  unfold F_spec_ExpI
  refine Run.q (e := vB) (gv := vIv) (ok_spec_l04Ok _) fun r1 _ => ?_
  refine Run.y (gv := vIv) (fun _ => ?_) (fun _ => ?_)
  · refine Run.q (e := vIv) (gv := vIv) (ok_spec_l04Whole) fun r2 _ => ?_
    exact Run.x 0
  · refine Run.q (e := vIv) (gv := vIv) (ok_spec_ExpAt _) fun r3 _ => ?_
    refine Run.q (e := vIv) (gv := vIv) (ok_spec_ExpAt _) fun r4 _ => ?_
    refine Run.q (e := vIv) (gv := vIv) (ok_spec_l08Ends _ _) fun r5 _ => ?_
    exact Run.x 0

theorem ok_spec_l19Constant (a0 : Pj) (a1 : Iv) : Fun Tryz.prog 222 [] #[vPj a0, vIv a1] (vIv (F_spec_l19Constant a0 a1)) [] := by
  refine Fun.ofH 400 E_ok mixed Tryz.func222 (by kernel_rfl) (by kernel_rfl) ?_
  unfold F_spec_l19Constant
  refine Run.q (e := vIv) (gv := vIv) (ok_spec_RadiansOf _) fun r1 _ => ?_
  refine Run.y (gv := vIv) (fun _ => ?_) (fun _ => ?_)
  · refine Run.q (e := vIv) (gv := vIv) (ok_spec_CosI _) fun r2 _ => ?_
    refine Run.q (e := vIv) (gv := vIv) (ok_spec_SqrI _) fun r3 _ => ?_
    refine Run.q (e := vIv) (gv := vIv) (ok_spec_Integer _) fun r4 _ => ?_
    refine Run.q (e := vIv) (gv := vIv) (ok_spec_MulI _ _) fun r5 _ => ?_
    refine Run.q (e := vIv) (gv := vIv) (ok_spec_SinI _) fun r6 _ => ?_
    refine Run.q (e := vIv) (gv := vIv) (ok_spec_MulI _ _) fun r7 _ => ?_
    refine Run.q (e := vIv) (gv := vIv) (ok_spec_AddI _ _) fun r8 _ => ?_
    exact Run.x 0
  · refine Run.y (gv := vIv) (fun _ => ?_) (fun _ => ?_)
    · refine Run.q (e := vIv) (gv := vIv) (ok_spec_CosI _) fun r9 _ => ?_
      refine Run.q (e := vIv) (gv := vIv) (ok_spec_l19Iso _) fun r10 _ => ?_
      refine Run.q (e := vIv) (gv := vIv) (ok_spec_MulI _ _) fun r11 _ => ?_
      refine Run.q (e := vIv) (gv := vIv) (ok_spec_ExpI _) fun r12 _ => ?_
      refine Run.q (e := vIv) (gv := vIv) (ok_spec_MulI _ _) fun r13 _ => ?_
      refine Run.q (e := vIv) (gv := vIv) (ok_spec_DivI _ _) fun r14 _ => ?_
      exact Run.x 0
    · refine Run.q (e := vIv) (gv := vIv) (ok_spec_CosI _) fun r15 _ => ?_
      refine Run.q (e := vIv) (gv := vIv) (ok_spec_DivI _ _) fun r16 _ => ?_
      refine Run.q (e := vIv) (gv := vIv) (ok_spec_AddI _ _) fun r17 _ => ?_
      exact Run.x 0

theorem ok_spec_l19Radius (a0 : I64) (a1 : Iv) (a2 : Iv) (a3 : Iv) : Fun Tryz.prog 223 [] #[vI a0, vIv a1, vIv a2, vIv a3] (vIv (F_spec_l19Radius a0 a1 a2 a3)) [] := by
  refine Fun.ofH 400 E_ok mixed Tryz.func223 (by kernel_rfl) (by kernel_rfl) ?_
  unfold F_spec_l19Radius
  refine Run.y (gv := vIv) (fun _ => ?_) (fun _ => ?_)
  · refine Run.q (e := vIv) (gv := vIv) (ok_spec_Integer _) fun r1 _ => ?_
    refine Run.q (e := vIv) (gv := vIv) (ok_spec_MulI _ _) fun r2 _ => ?_
    refine Run.q (e := vIv) (gv := vIv) (ok_spec_SinI _) fun r3 _ => ?_
    refine Run.q (e := vIv) (gv := vIv) (ok_spec_MulI _ _) fun r4 _ => ?_
    refine Run.q (e := vIv) (gv := vIv) (ok_spec_SubI _ _) fun r5 _ => ?_
    refine Run.q (e := vIv) (gv := vIv) (ok_spec_SqrtI _) fun r6 _ => ?_
    refine Run.q (e := vIv) (gv := vIv) (ok_spec_DivI _ _) fun r7 _ => ?_
    exact Run.x 0
  · refine Run.y (gv := vIv) (fun _ => ?_) (fun _ => ?_)
    · refine Run.q (e := vIv) (gv := vIv) (ok_spec_l19Iso _) fun r8 _ => ?_
      refine Run.q (e := vIv) (gv := vIv) (ok_spec_MulI _ _) fun r9 _ => ?_
      refine Run.q (e := vIv) (gv := vIv) (ok_spec_NegI _) fun r10 _ => ?_
      refine Run.q (e := vIv) (gv := vIv) (ok_spec_ExpI _) fun r11 _ => ?_
      refine Run.q (e := vIv) (gv := vIv) (ok_spec_MulI _ _) fun r12 _ => ?_
      exact Run.x 0
    · refine Run.q (e := vIv) (gv := vIv) (ok_spec_SubI _ _) fun r13 _ => ?_
      exact Run.x 0

theorem ok_spec_l19Scale (a0 : Pj) (a1 : Iv) : Fun Tryz.prog 184 [] #[vPj a0, vIv a1] (vIv (F_spec_l19Scale a0 a1)) [] := by
  refine Fun.ofH 400 E_ok mixed Tryz.func184 (by kernel_rfl) (by kernel_rfl) ?_
  unfold F_spec_l19Scale
  refine Run.q (e := vIv) (gv := vIv) (ok_spec_l19Cone _) fun r1 _ => ?_
  refine Run.q (e := vIv) (gv := vIv) (ok_spec_l19Constant _ _) fun r2 _ => ?_
  refine Run.q (e := vIv) (gv := vIv) (ok_spec_l19Radius _ _ _ _) fun r3 _ => ?_
  refine Run.q (e := vIv) (gv := vIv) (ok_spec_MulI _ _) fun r4 _ => ?_
  refine Run.q (e := vIv) (gv := vIv) (ok_spec_CosI _) fun r5 _ => ?_
  refine Run.q (e := vIv) (gv := vIv) (ok_spec_DivI _ _) fun r6 _ => ?_
  exact Run.x 0

theorem ok_spec_ConicScales (a0 : Pj) (a1 : Pt) : Fun Tryz.prog 73 [] #[vPj a0, vPt a1] (vT_Iv_Iv_I (F_spec_ConicScales a0 a1)) [] := by
  refine Fun.ofH 400 E_ok mixed Tryz.func73 (by kernel_rfl) (by kernel_rfl) ?_
  unfold F_spec_ConicScales
  refine Run.q (e := vB) (gv := vT_Iv_Iv_I) (ok_spec_l19Ok _) fun r1 _ => ?_
  refine Run.y (gv := vT_Iv_Iv_I) (fun _ => ?_) (fun _ => ?_)
  · refine Run.z [true, true, true, true] ?_
    exact Run.x 0
  · refine Run.z [false] ?_
    refine Run.q (e := vB) (gv := vT_Iv_Iv_I) (ok_spec_l11Ok _) fun r2 _ => ?_
    refine Run.z [false, false] ?_
    refine Run.y (gv := vT_Iv_Iv_I) (fun _ => ?_) (fun _ => ?_)
    · exact Run.x 0
    · refine Run.q (e := vB) (gv := vT_Iv_Iv_I) (ok_spec_l11Pole _) fun r3 _ => ?_
      refine Run.y (gv := vT_Iv_Iv_I) (fun _ => ?_) (fun _ => ?_)
      · exact Run.x 0
      · refine Run.q (e := vIv) (gv := vT_Iv_Iv_I) (ok_spec_LatOf _) fun r4 _ => ?_
        refine Run.q (e := vIv) (gv := vT_Iv_Iv_I) (ok_spec_l19Scale _ _) fun r5 _ => ?_
        refine Run.y (gv := vT_Iv_Iv_I) (fun _ => ?_) (fun _ => ?_)
        · refine Run.q (e := vIv) (gv := vT_Iv_Iv_I) (ok_spec_Integer _) fun r6 _ => ?_
          refine Run.q (e := vIv) (gv := vT_Iv_Iv_I) (ok_spec_DivI _ _) fun r7 _ => ?_
          refine Run.q (e := vT_Iv_Iv_I) (gv := vT_Iv_Iv_I) (ok_spec_l17Scales _ _) fun r8 _ => ?_
          exact Run.x 0
        · refine Run.y (gv := vT_Iv_Iv_I) (fun _ => ?_) (fun _ => ?_)
          · refine Run.q (e := vT_Iv_Iv_I) (gv := vT_Iv_Iv_I) (ok_spec_l17Scales _ _) fun r9 _ => ?_
            exact Run.x 0
          · refine Run.q (e := vIv) (gv := vT_Iv_Iv_I) (ok_spec_Integer _) fun r10 _ => ?_
            refine Run.q (e := vT_Iv_Iv_I) (gv := vT_Iv_Iv_I) (ok_spec_l17Scales _ _) fun r11 _ => ?_
            exact Run.x 0

theorem ok_spec_l21Ok__pPj (b0 : Pj) : Fun Tryz.prog 185 [(#[.int .i64 b0.kind.val, .int .i64 b0.lat0.val, .int .i64 b0.lon0.val, .int .i64 b0.lat1.val, .int .i64 b0.lat2.val], 30)] #[.pointer (some ⟨0, 0, none⟩)] (vB (F_spec_l21Ok__pPj b0)) [(#[.int .i64 b0.kind.val, .int .i64 b0.lat0.val, .int .i64 b0.lon0.val, .int .i64 b0.lat1.val, .int .i64 b0.lat2.val], 30)] := by
  refine Fun.ofH 400 E_ok mixed Tryz.func185 (by kernel_rfl) (by kernel_rfl) ?_
  unfold F_spec_l21Ok__pPj
  refine Run.y (gv := vB) (fun _ => ?_) (fun _ => ?_)
  · refine Run.z [true, true, true] ?_
    refine Run.q (e := vB) (gv := vB) (ok_spec_ValidProjection _) fun r1 _ => ?_
    refine Run.z [true] ?_
    exact Run.x 1
  · refine Run.z [false, false, false, false] ?_
    exact Run.x 1

theorem ok_spec_l21Edge__pPj (b0 : Pj) (a0 : Pt) : Fun Tryz.prog 186 [(#[.int .i64 b0.kind.val, .int .i64 b0.lat0.val, .int .i64 b0.lon0.val, .int .i64 b0.lat1.val, .int .i64 b0.lat2.val], 30)] #[.pointer (some ⟨0, 0, none⟩), vPt a0] (vB (F_spec_l21Edge__pPj b0 a0)) [(#[.int .i64 b0.kind.val, .int .i64 b0.lat0.val, .int .i64 b0.lon0.val, .int .i64 b0.lat1.val, .int .i64 b0.lat2.val], 30)] := by
  refine Fun.ofH 400 E_ok mixed Tryz.func186 (by kernel_rfl) (by kernel_rfl) ?_
  unfold F_spec_l21Edge__pPj
  refine Run.q (e := vI) (gv := vB) (ok_spec_l11Wrap _) fun r1 _ => ?_
  refine Run.y (gv := vB) (fun _ => ?_) (fun _ => ?_)
  · refine Run.z [true, true] ?_
    refine Run.y (gv := vB) (fun _ => ?_) (fun _ => ?_)
    · refine Run.z [true, true, true, true] ?_
      exact Run.x 1
    · refine Run.z [false, true, false, true] ?_
      exact Run.x 1
  · refine Run.z [false, false, false, false] ?_
    exact Run.x 1

theorem ok_spec_l21Turn__pPj (b0 : Pj) (a0 : Pt) : Fun Tryz.prog 285 [(#[.int .i64 b0.kind.val, .int .i64 b0.lat0.val, .int .i64 b0.lon0.val, .int .i64 b0.lat1.val, .int .i64 b0.lat2.val], 30)] #[.pointer (some ⟨0, 0, none⟩), vPt a0] (vIv (F_spec_l21Turn__pPj b0 a0)) [(#[.int .i64 b0.kind.val, .int .i64 b0.lat0.val, .int .i64 b0.lon0.val, .int .i64 b0.lat1.val, .int .i64 b0.lat2.val], 30)] := by
  refine Fun.ofH 400 E_ok mixed Tryz.func285 (by kernel_rfl) (by kernel_rfl) ?_
  unfold F_spec_l21Turn__pPj
  refine Run.q (e := vI) (gv := vIv) (ok_spec_l11Wrap _) fun r1 _ => ?_
  refine Run.q (e := vIv) (gv := vIv) (ok_spec_RadiansOf _) fun r2 _ => ?_
  exact Run.x 1

theorem ok_spec_l21Side__pPj (b0 : Pj) (a0 : Pt) : Fun Tryz.prog 187 [(#[.int .i64 b0.kind.val, .int .i64 b0.lat0.val, .int .i64 b0.lon0.val, .int .i64 b0.lat1.val, .int .i64 b0.lat2.val], 30)] #[.pointer (some ⟨0, 0, none⟩), vPt a0] (vIv (F_spec_l21Side__pPj b0 a0)) [(#[.int .i64 b0.kind.val, .int .i64 b0.lat0.val, .int .i64 b0.lon0.val, .int .i64 b0.lat1.val, .int .i64 b0.lat2.val], 30)] := by
  refine Fun.ofH 400 E_ok mixed Tryz.func187 (by kernel_rfl) (by kernel_rfl) ?_
  unfold F_spec_l21Side__pPj
  refine Run.q (e := vIv) (gv := vIv) (ok_spec_RadiansOf _) fun r1 _ => ?_
  refine Run.q (e := vIv) (gv := vIv) (ok_spec_CosI _) fun r2 _ => ?_
  refine Run.w (e := vIv) (gv := vIv) [0] (ok_spec_l21Turn__pPj _ _) fun r3 _ => ?_
  refine Run.q (e := vIv) (gv := vIv) (ok_spec_SinI _) fun r4 _ => ?_
  refine Run.q (e := vIv) (gv := vIv) (ok_spec_MulI _ _) fun r5 _ => ?_
  exact Run.x 1

theorem ok_spec_TransverseScale (a0 : Pj) (a1 : Pt) : Fun Tryz.prog 74 [] #[vPj a0, vPt a1] (vT_Iv_I (F_spec_TransverseScale a0 a1)) [] := by
  refine Fun.ofH 400 E_ok mixed Tryz.func74 (by kernel_rfl) (by kernel_rfl) ?_
  unfold F_spec_TransverseScale
  refine Run.w (e := vB) (gv := vT_Iv_I) [0] (ok_spec_l21Ok__pPj _) fun r1 _ => ?_
  refine Run.y (gv := vT_Iv_I) (fun _ => ?_) (fun _ => ?_)
  · refine Run.z [true, true, true, true] ?_
    exact Run.x 0
  · refine Run.z [false] ?_
    refine Run.q (e := vB) (gv := vT_Iv_I) (ok_spec_l11Ok _) fun r2 _ => ?_
    refine Run.z [false, false] ?_
    refine Run.y (gv := vT_Iv_I) (fun _ => ?_) (fun _ => ?_)
    · exact Run.x 0
    · refine Run.w (e := vB) (gv := vT_Iv_I) [0] (ok_spec_l21Edge__pPj _ _) fun r3 _ => ?_
      refine Run.y (gv := vT_Iv_I) (fun _ => ?_) (fun _ => ?_)
      · exact Run.x 0
      · refine Run.q (e := vIv) (gv := vT_Iv_I) (ok_spec_Integer _) fun r4 _ => ?_
        refine Run.q (e := vIv) (gv := vT_Iv_I) (ok_spec_Integer _) fun r5 _ => ?_
        refine Run.w (e := vIv) (gv := vT_Iv_I) [0] (ok_spec_l21Side__pPj _ _) fun r6 _ => ?_
        refine Run.q (e := vIv) (gv := vT_Iv_I) (ok_spec_SqrI _) fun r7 _ => ?_
        refine Run.q (e := vIv) (gv := vT_Iv_I) (ok_spec_SubI _ _) fun r8 _ => ?_
        refine Run.q (e := vIv) (gv := vT_Iv_I) (ok_spec_SqrtI _) fun r9 _ => ?_
        refine Run.q (e := vIv) (gv := vT_Iv_I) (ok_spec_DivI _ _) fun r10 _ => ?_
        refine Run.q (e := vT_Iv_I) (gv := vT_Iv_I) (ok_spec_l15Known _) fun r11 _ => ?_
        exact Run.x 0

theorem ok_spec_l22Scales (a0 : Pj) (a1 : Pt) : Fun Tryz.prog 30 [] #[vPj a0, vPt a1] (vT_Iv_Iv_I (F_spec_l22Scales a0 a1)) [] := by
  refine Fun.ofH 400 E_ok mixed Tryz.func30 (by kernel_rfl) (by kernel_rfl) ?_
  unfold F_spec_l22Scales
  refine Run.q (e := vB) (gv := vT_Iv_Iv_I) (ok_spec_l17Ok _) fun r1 _ => ?_
  refine Run.y (gv := vT_Iv_Iv_I) (fun _ => ?_) (fun _ => ?_)
  · refine Run.z [true, true, true, true] ?_
    exact Run.x 0
  · refine Run.z [false] ?_
    refine Run.q (e := vB) (gv := vT_Iv_Iv_I) (ok_spec_l11Ok _) fun r2 _ => ?_
    refine Run.z [false, false] ?_
    refine Run.y (gv := vT_Iv_Iv_I) (fun _ => ?_) (fun _ => ?_)
    · exact Run.x 0
    · refine Run.q (e := vI) (gv := vT_Iv_Iv_I) (ok_spec_l22Family _) fun r3 _ => ?_
      refine Run.y (gv := vT_Iv_Iv_I) (fun _ => ?_) (fun _ => ?_)
      · refine Run.q (e := vT_Iv_Iv_I) (gv := vT_Iv_Iv_I) (ok_spec_CylinderScales _ _) fun r4 _ => ?_
        exact Run.x 0
      · refine Run.y (gv := vT_Iv_Iv_I) (fun _ => ?_) (fun _ => ?_)
        · refine Run.q (e := vT_Iv_Iv_I) (gv := vT_Iv_Iv_I) (ok_spec_l22Azimuthal _ _) fun r5 _ => ?_
          exact Run.x 0
        · refine Run.y (gv := vT_Iv_Iv_I) (fun _ => ?_) (fun _ => ?_)
          · refine Run.q (e := vT_Iv_Iv_I) (gv := vT_Iv_Iv_I) (ok_spec_ConicScales _ _) fun r6 _ => ?_
            exact Run.x 0
          · refine Run.y (gv := vT_Iv_Iv_I) (fun _ => ?_) (fun _ => ?_)
            · refine Run.q (e := vT_Iv_I) (gv := vT_Iv_Iv_I) (ok_spec_TransverseScale _ _) fun r7 _ => ?_
              refine Run.y (gv := vT_Iv_Iv_I) (fun _ => ?_) (fun _ => ?_)
              · exact Run.x 0
              · refine Run.q (e := vT_Iv_Iv_I) (gv := vT_Iv_Iv_I) (ok_spec_l17Scales _ _) fun r8 _ => ?_
                exact Run.x 0
            · exact Run.x 0

theorem ok_spec_l19Known (a0 : Iv) : Fun Tryz.prog 31 [] #[vIv a0] (vT_Iv_I (F_spec_l19Known a0)) [] := by
  refine Fun.ofH 400 E_ok mixed Tryz.func31 (by kernel_rfl) (by kernel_rfl) ?_
  unfold F_spec_l19Known
  refine Run.q (e := vB) (gv := vT_Iv_I) (ok_spec_l04Ok _) fun r1 _ => ?_
  refine Run.y (gv := vT_Iv_I) (fun _ => ?_) (fun _ => ?_)
  · exact Run.x 0
  · exact Run.x 0

theorem ok_spec_AreaScale (a0 : Pj) (a1 : Pt) : Fun Tryz.prog 9 [] #[vPj a0, vPt a1] (vT_Iv_I (F_spec_AreaScale a0 a1)) [] := by
  refine Fun.ofH 400 E_ok mixed Tryz.func9 (by kernel_rfl) (by kernel_rfl) ?_
  unfold F_spec_AreaScale
  refine Run.q (e := vB) (gv := vT_Iv_I) (ok_spec_l17Ok _) fun r1 _ => ?_
  refine Run.y (gv := vT_Iv_I) (fun _ => ?_) (fun _ => ?_)
  · refine Run.z [true] ?_
    refine Run.q (e := vB) (gv := vT_Iv_I) (ok_spec_l11Ok _) fun r2 _ => ?_
    refine Run.z [true] ?_
    refine Run.y (gv := vT_Iv_I) (fun _ => ?_) (fun _ => ?_)
    · refine Run.z [true, true] ?_
      refine Run.q (e := vI) (gv := vT_Iv_I) (ok_spec_l22Family _) fun r3 _ => ?_
      refine Run.z [true, true] ?_
      refine Run.y (gv := vT_Iv_I) (fun _ => ?_) (fun _ => ?_)
      · refine Run.q (e := vIv) (gv := vT_Iv_I) (ok_spec_Integer _) fun r4 _ => ?_
        exact Run.x 0
      · refine Run.q (e := vT_Iv_Iv_I) (gv := vT_Iv_I) (ok_spec_l22Scales _ _) fun r5 _ => ?_
        refine Run.y (gv := vT_Iv_I) (fun _ => ?_) (fun _ => ?_)
        · exact Run.x 0
        · refine Run.q (e := vIv) (gv := vT_Iv_I) (ok_spec_MulI _ _) fun r6 _ => ?_
          refine Run.q (e := vT_Iv_I) (gv := vT_Iv_I) (ok_spec_l19Known _) fun r7 _ => ?_
          exact Run.x 0
    · refine Run.z [false, false, false, false, false] ?_
      refine Run.q (e := vT_Iv_Iv_I) (gv := vT_Iv_I) (ok_spec_l22Scales _ _) fun r8 _ => ?_
      refine Run.y (gv := vT_Iv_I) (fun _ => ?_) (fun _ => ?_)
      · exact Run.x 0
      · refine Run.q (e := vIv) (gv := vT_Iv_I) (ok_spec_MulI _ _) fun r9 _ => ?_
        refine Run.q (e := vT_Iv_I) (gv := vT_Iv_I) (ok_spec_l19Known _) fun r10 _ => ?_
        exact Run.x 0
  · refine Run.z [false, false, false, false, false, false, false, false] ?_
    refine Run.q (e := vT_Iv_Iv_I) (gv := vT_Iv_I) (ok_spec_l22Scales _ _) fun r11 _ => ?_
    refine Run.y (gv := vT_Iv_I) (fun _ => ?_) (fun _ => ?_)
    · exact Run.x 0
    · refine Run.q (e := vIv) (gv := vT_Iv_I) (ok_spec_MulI _ _) fun r12 _ => ?_
      refine Run.q (e := vT_Iv_I) (gv := vT_Iv_I) (ok_spec_l19Known _) fun r13 _ => ?_
      exact Run.x 0

theorem ok_spec_WideMul (a0 : I64) (a1 : I64) : Fun Tryz.prog 293 [] #[vI a0, vI a1] (vWd (F_spec_WideMul a0 a1)) [] := by
  refine Fun.ofH 400 E_ok mixed Tryz.func293 (by kernel_rfl) (by kernel_rfl) ?_
  unfold F_spec_WideMul
  refine Run.q (e := vWd) (gv := vWd) (ok_spec_l02Mul _ _) fun r1 _ => ?_
  exact Run.x 0

theorem ok_spec_CircleAt (a0 : I64) : Fun Tryz.prog 203 [] #[vI a0] (vIv (F_spec_CircleAt a0)) [] := by
  refine Fun.ofH 400 E_ok mixed Tryz.func203 (by kernel_rfl) (by kernel_rfl) ?_
  unfold F_spec_CircleAt
  refine Run.q (e := vB) (gv := vIv) (ok_spec_l00In _ _ _) fun r1 _ => ?_
  refine Run.y (gv := vIv) (fun _ => ?_) (fun _ => ?_)
  · refine Run.q (e := vIv) (gv := vIv) (ok_spec_Whole) fun r2 _ => ?_
    exact Run.x 0
  · refine Run.q (e := vT_I_B) (gv := vIv) (ok_spec_SqrtFloor _ _) fun r3 _ => ?_
    refine Run.q (e := vWd) (gv := vIv) (ok_spec_WideMul _ _) fun r4 _ => ?_
    refine Run.q (e := vWd) (gv := vIv) (ok_spec_WideMul _ _) fun r5 _ => ?_
    refine Run.y (gv := vIv) (fun _ => ?_) (fun _ => ?_)
    · exact Run.x 0
    · exact Run.x 0

theorem ok_spec_AsinAt (a0 : I64) : Fun Tryz.prog 99 [] #[vI a0] (vIv (F_spec_AsinAt a0)) [] := by
  refine Fun.ofH 400 E_ok mixed Tryz.func99 (by kernel_rfl) (by kernel_rfl) ?_
  unfold F_spec_AsinAt
  refine Run.q (e := vB) (gv := vIv) (ok_spec_l00In _ _ _) fun r1 _ => ?_
  refine Run.y (gv := vIv) (fun _ => ?_) (fun _ => ?_)
  · refine Run.q (e := vIv) (gv := vIv) (ok_spec_Whole) fun r2 _ => ?_
    exact Run.x 0
  · refine Run.q (e := vIv) (gv := vIv) (ok_spec_l05At _) fun r3 _ => ?_
    refine Run.q (e := vIv) (gv := vIv) (ok_spec_Integer _) fun r4 _ => ?_
    refine Run.q (e := vIv) (gv := vIv) (ok_spec_CircleAt _) fun r5 _ => ?_
    refine Run.q (e := vIv) (gv := vIv) (ok_spec_AddI _ _) fun r6 _ => ?_
    refine Run.q (e := vIv) (gv := vIv) (ok_spec_DivI _ _) fun r7 _ => ?_
    refine Run.q (e := vIv) (gv := vIv) (ok_spec_AtanI _) fun r8 _ => ?_
    refine Run.q (e := vIv) (gv := vIv) (ok_spec_DoubleI _) fun r9 _ => ?_
    refine Run.q (e := vIv) (gv := vIv) (ok_spec_l07Quarter) fun r10 _ => ?_
    refine Run.q (e := vT_Iv_B) (gv := vIv) (ok_spec_MeetI _ _) fun r11 _ => ?_
    exact Run.x 0

theorem ok_spec_AsinI (a0 : Iv) : Fun Tryz.prog 37 [] #[vIv a0] (vIv (F_spec_AsinI a0)) [] := by
  refine Fun.ofH 400 E_ok mixed Tryz.func37 (by kernel_rfl) (by kernel_rfl) ?_
  unfold F_spec_AsinI
  refine Run.q (e := vIv) (gv := vIv) (ok_spec_l06Ring) fun r1 _ => ?_
  refine Run.q (e := vT_Iv_B) (gv := vIv) (ok_spec_MeetI _ _) fun r2 _ => ?_
  refine Run.y (gv := vIv) (fun _ => ?_) (fun _ => ?_)
  · refine Run.q (e := vIv) (gv := vIv) (ok_spec_Whole) fun r3 _ => ?_
    exact Run.x 0
  · refine Run.q (e := vIv) (gv := vIv) (ok_spec_AsinAt _) fun r4 _ => ?_
    refine Run.q (e := vIv) (gv := vIv) (ok_spec_AsinAt _) fun r5 _ => ?_
    refine Run.q (e := vIv) (gv := vIv) (ok_spec_HullI _ _) fun r6 _ => ?_
    exact Run.x 0

theorem ok_spec_AngleDistortion (a0 : Pj) (a1 : Pt) : Fun Tryz.prog 14 [] #[vPj a0, vPt a1] (vT_Iv_I (F_spec_AngleDistortion a0 a1)) [] := by
  refine Fun.ofH 400 E_ok mixed Tryz.func14 (by kernel_rfl) (by kernel_rfl) ?_
  unfold F_spec_AngleDistortion
  refine Run.q (e := vT_Iv_Iv_I) (gv := vT_Iv_I) (ok_spec_l22Scales _ _) fun r1 _ => ?_
  refine Run.y (gv := vT_Iv_I) (fun _ => ?_) (fun _ => ?_)
  · exact Run.x 0
  · refine Run.q (e := vIv) (gv := vT_Iv_I) (ok_spec_Integer _) fun r2 _ => ?_
    refine Run.q (e := vIv) (gv := vT_Iv_I) (ok_spec_SubI _ _) fun r3 _ => ?_
    refine Run.q (e := vIv) (gv := vT_Iv_I) (ok_spec_AbsI _) fun r4 _ => ?_
    refine Run.q (e := vIv) (gv := vT_Iv_I) (ok_spec_AddI _ _) fun r5 _ => ?_
    refine Run.q (e := vIv) (gv := vT_Iv_I) (ok_spec_DivI _ _) fun r6 _ => ?_
    refine Run.q (e := vIv) (gv := vT_Iv_I) (ok_spec_AsinI _) fun r7 _ => ?_
    refine Run.q (e := vIv) (gv := vT_Iv_I) (ok_spec_MulI _ _) fun r8 _ => ?_
    refine Run.q (e := vT_Iv_I) (gv := vT_Iv_I) (ok_spec_l19Known _) fun r9 _ => ?_
    exact Run.x 0

theorem ok_spec_l17Lon (a0 : Pj) (a1 : Pt) : Fun Tryz.prog 211 [] #[vPj a0, vPt a1] (vIv (F_spec_l17Lon a0 a1)) [] := by
  refine Fun.ofH 400 E_ok mixed Tryz.func211 (by kernel_rfl) (by kernel_rfl) ?_
  unfold F_spec_l17Lon
  refine Run.q (e := vI) (gv := vIv) (ok_spec_l11Wrap _) fun r1 _ => ?_
  refine Run.q (e := vIv) (gv := vIv) (ok_spec_RadiansOf _) fun r2 _ => ?_
  exact Run.x 0

theorem ok_spec_l17End (a0 : Iv) (a1 : Iv) : Fun Tryz.prog 212 [] #[vIv a0, vIv a1] (vT_Pn_I (F_spec_l17End a0 a1)) [] := by
  refine Fun.ofH 400 E_ok mixed Tryz.func212 (by kernel_rfl) (by kernel_rfl) ?_
  unfold F_spec_l17End
  refine Run.q (e := vB) (gv := vT_Pn_I) (ok_spec_l04Ok _) fun r1 _ => ?_
  refine Run.y (gv := vT_Pn_I) (fun _ => ?_) (fun _ => ?_)
  · refine Run.z [true, true, true, true] ?_
    exact Run.x 0
  · refine Run.z [false] ?_
    refine Run.q (e := vB) (gv := vT_Pn_I) (ok_spec_l04Ok _) fun r2 _ => ?_
    refine Run.z [false, false] ?_
    refine Run.y (gv := vT_Pn_I) (fun _ => ?_) (fun _ => ?_)
    · exact Run.x 0
    · exact Run.x 0

theorem ok_spec_CylinderForward (a0 : Pj) (a1 : Pt) : Fun Tryz.prog 113 [] #[vPj a0, vPt a1] (vT_Pn_I (F_spec_CylinderForward a0 a1)) [] := by
  refine Fun.ofH 400 E_ok mixed Tryz.func113 (by kernel_rfl) (by kernel_rfl) ?_
  unfold F_spec_CylinderForward
  refine Run.q (e := vB) (gv := vT_Pn_I) (ok_spec_l17Cylinder _) fun r1 _ => ?_
  refine Run.y (gv := vT_Pn_I) (fun _ => ?_) (fun _ => ?_)
  · refine Run.z [true, true, true, true] ?_
    exact Run.x 0
  · refine Run.z [false] ?_
    refine Run.q (e := vB) (gv := vT_Pn_I) (ok_spec_l11Ok _) fun r2 _ => ?_
    refine Run.z [false, false] ?_
    refine Run.y (gv := vT_Pn_I) (fun _ => ?_) (fun _ => ?_)
    · exact Run.x 0
    · refine Run.y (gv := vT_Pn_I) (fun _ => ?_) (fun _ => ?_)
      · refine Run.z [true] ?_
        refine Run.q (e := vB) (gv := vT_Pn_I) (ok_spec_l11Pole _) fun r3 _ => ?_
        refine Run.z [true] ?_
        refine Run.y (gv := vT_Pn_I) (fun _ => ?_) (fun _ => ?_)
        · exact Run.x 0
        · refine Run.q (e := vIv) (gv := vT_Pn_I) (ok_spec_LatOf _) fun r4 _ => ?_
          refine Run.q (e := vIv) (gv := vT_Pn_I) (ok_spec_l17Lon _ _) fun r5 _ => ?_
          refine Run.q (e := vIv) (gv := vT_Pn_I) (ok_spec_RadiansOf _) fun r6 _ => ?_
          refine Run.q (e := vIv) (gv := vT_Pn_I) (ok_spec_CosI _) fun r7 _ => ?_
          refine Run.y (gv := vT_Pn_I) (fun _ => ?_) (fun _ => ?_)
          · refine Run.q (e := vIv) (gv := vT_Pn_I) (ok_spec_MulI _ _) fun r8 _ => ?_
            refine Run.q (e := vT_Pn_I) (gv := vT_Pn_I) (ok_spec_l17End _ _) fun r9 _ => ?_
            exact Run.x 0
          · refine Run.y (gv := vT_Pn_I) (fun _ => ?_) (fun _ => ?_)
            · refine Run.q (e := vIv) (gv := vT_Pn_I) (ok_spec_TanI _) fun r10 _ => ?_
              refine Run.q (e := vIv) (gv := vT_Pn_I) (ok_spec_AsinhI _) fun r11 _ => ?_
              refine Run.q (e := vT_Pn_I) (gv := vT_Pn_I) (ok_spec_l17End _ _) fun r12 _ => ?_
              exact Run.x 0
            · refine Run.y (gv := vT_Pn_I) (fun _ => ?_) (fun _ => ?_)
              · refine Run.q (e := vIv) (gv := vT_Pn_I) (ok_spec_MulI _ _) fun r13 _ => ?_
                refine Run.q (e := vIv) (gv := vT_Pn_I) (ok_spec_SinI _) fun r14 _ => ?_
                refine Run.q (e := vIv) (gv := vT_Pn_I) (ok_spec_DivI _ _) fun r15 _ => ?_
                refine Run.q (e := vT_Pn_I) (gv := vT_Pn_I) (ok_spec_l17End _ _) fun r16 _ => ?_
                exact Run.x 0
              · refine Run.q (e := vIv) (gv := vT_Pn_I) (ok_spec_Quotient _ _) fun r17 _ => ?_
                refine Run.q (e := vIv) (gv := vT_Pn_I) (ok_spec_Quotient _ _) fun r18 _ => ?_
                refine Run.q (e := vIv) (gv := vT_Pn_I) (ok_spec_MulI _ _) fun r19 _ => ?_
                refine Run.q (e := vIv) (gv := vT_Pn_I) (ok_spec_TanI _) fun r20 _ => ?_
                refine Run.q (e := vIv) (gv := vT_Pn_I) (ok_spec_AsinhI _) fun r21 _ => ?_
                refine Run.q (e := vIv) (gv := vT_Pn_I) (ok_spec_MulI _ _) fun r22 _ => ?_
                refine Run.q (e := vT_Pn_I) (gv := vT_Pn_I) (ok_spec_l17End _ _) fun r23 _ => ?_
                exact Run.x 0
      · refine Run.z [false, false, false] ?_
        refine Run.q (e := vIv) (gv := vT_Pn_I) (ok_spec_LatOf _) fun r24 _ => ?_
        refine Run.q (e := vIv) (gv := vT_Pn_I) (ok_spec_l17Lon _ _) fun r25 _ => ?_
        refine Run.q (e := vIv) (gv := vT_Pn_I) (ok_spec_RadiansOf _) fun r26 _ => ?_
        refine Run.q (e := vIv) (gv := vT_Pn_I) (ok_spec_CosI _) fun r27 _ => ?_
        refine Run.y (gv := vT_Pn_I) (fun _ => ?_) (fun _ => ?_)
        · refine Run.q (e := vIv) (gv := vT_Pn_I) (ok_spec_MulI _ _) fun r28 _ => ?_
          refine Run.q (e := vT_Pn_I) (gv := vT_Pn_I) (ok_spec_l17End _ _) fun r29 _ => ?_
          exact Run.x 0
        · refine Run.y (gv := vT_Pn_I) (fun _ => ?_) (fun _ => ?_)
          · refine Run.q (e := vIv) (gv := vT_Pn_I) (ok_spec_TanI _) fun r30 _ => ?_
            refine Run.q (e := vIv) (gv := vT_Pn_I) (ok_spec_AsinhI _) fun r31 _ => ?_
            refine Run.q (e := vT_Pn_I) (gv := vT_Pn_I) (ok_spec_l17End _ _) fun r32 _ => ?_
            exact Run.x 0
          · refine Run.y (gv := vT_Pn_I) (fun _ => ?_) (fun _ => ?_)
            · refine Run.q (e := vIv) (gv := vT_Pn_I) (ok_spec_MulI _ _) fun r33 _ => ?_
              refine Run.q (e := vIv) (gv := vT_Pn_I) (ok_spec_SinI _) fun r34 _ => ?_
              refine Run.q (e := vIv) (gv := vT_Pn_I) (ok_spec_DivI _ _) fun r35 _ => ?_
              refine Run.q (e := vT_Pn_I) (gv := vT_Pn_I) (ok_spec_l17End _ _) fun r36 _ => ?_
              exact Run.x 0
            · refine Run.q (e := vIv) (gv := vT_Pn_I) (ok_spec_Quotient _ _) fun r37 _ => ?_
              refine Run.q (e := vIv) (gv := vT_Pn_I) (ok_spec_Quotient _ _) fun r38 _ => ?_
              refine Run.q (e := vIv) (gv := vT_Pn_I) (ok_spec_MulI _ _) fun r39 _ => ?_
              refine Run.q (e := vIv) (gv := vT_Pn_I) (ok_spec_TanI _) fun r40 _ => ?_
              refine Run.q (e := vIv) (gv := vT_Pn_I) (ok_spec_AsinhI _) fun r41 _ => ?_
              refine Run.q (e := vIv) (gv := vT_Pn_I) (ok_spec_MulI _ _) fun r42 _ => ?_
              refine Run.q (e := vT_Pn_I) (gv := vT_Pn_I) (ok_spec_l17End _ _) fun r43 _ => ?_
              exact Run.x 0

theorem ok_spec_ConicForward (a0 : Pj) (a1 : Pt) : Fun Tryz.prog 115 [] #[vPj a0, vPt a1] (vT_Pn_I (F_spec_ConicForward a0 a1)) [] := by
  refine Fun.ofH 400 E_ok mixed Tryz.func115 (by kernel_rfl) (by kernel_rfl) ?_
  unfold F_spec_ConicForward
  refine Run.q (e := vB) (gv := vT_Pn_I) (ok_spec_l19Ok _) fun r1 _ => ?_
  refine Run.y (gv := vT_Pn_I) (fun _ => ?_) (fun _ => ?_)
  · refine Run.z [true, true, true, true] ?_
    exact Run.x 0
  · refine Run.z [false] ?_
    refine Run.q (e := vB) (gv := vT_Pn_I) (ok_spec_l11Ok _) fun r2 _ => ?_
    refine Run.z [false, false] ?_
    refine Run.y (gv := vT_Pn_I) (fun _ => ?_) (fun _ => ?_)
    · exact Run.x 0
    · refine Run.y (gv := vT_Pn_I) (fun _ => ?_) (fun _ => ?_)
      · refine Run.z [true] ?_
        refine Run.q (e := vB) (gv := vT_Pn_I) (ok_spec_l11Pole _) fun r3 _ => ?_
        refine Run.z [true] ?_
        refine Run.y (gv := vT_Pn_I) (fun _ => ?_) (fun _ => ?_)
        · exact Run.x 0
        · refine Run.q (e := vIv) (gv := vT_Pn_I) (ok_spec_l19Cone _) fun r4 _ => ?_
          refine Run.q (e := vIv) (gv := vT_Pn_I) (ok_spec_l19Constant _ _) fun r5 _ => ?_
          refine Run.q (e := vIv) (gv := vT_Pn_I) (ok_spec_LatOf _) fun r6 _ => ?_
          refine Run.q (e := vIv) (gv := vT_Pn_I) (ok_spec_l19Radius _ _ _ _) fun r7 _ => ?_
          refine Run.q (e := vIv) (gv := vT_Pn_I) (ok_spec_RadiansOf _) fun r8 _ => ?_
          refine Run.q (e := vIv) (gv := vT_Pn_I) (ok_spec_l19Radius _ _ _ _) fun r9 _ => ?_
          refine Run.q (e := vIv) (gv := vT_Pn_I) (ok_spec_l17Lon _ _) fun r10 _ => ?_
          refine Run.q (e := vIv) (gv := vT_Pn_I) (ok_spec_MulI _ _) fun r11 _ => ?_
          refine Run.q (e := vIv) (gv := vT_Pn_I) (ok_spec_SinI _) fun r12 _ => ?_
          refine Run.q (e := vIv) (gv := vT_Pn_I) (ok_spec_MulI _ _) fun r13 _ => ?_
          refine Run.q (e := vIv) (gv := vT_Pn_I) (ok_spec_CosI _) fun r14 _ => ?_
          refine Run.q (e := vIv) (gv := vT_Pn_I) (ok_spec_MulI _ _) fun r15 _ => ?_
          refine Run.q (e := vIv) (gv := vT_Pn_I) (ok_spec_SubI _ _) fun r16 _ => ?_
          refine Run.q (e := vT_Pn_I) (gv := vT_Pn_I) (ok_spec_l17End _ _) fun r17 _ => ?_
          exact Run.x 0
      · refine Run.z [false, false, false] ?_
        refine Run.q (e := vIv) (gv := vT_Pn_I) (ok_spec_l19Cone _) fun r18 _ => ?_
        refine Run.q (e := vIv) (gv := vT_Pn_I) (ok_spec_l19Constant _ _) fun r19 _ => ?_
        refine Run.q (e := vIv) (gv := vT_Pn_I) (ok_spec_LatOf _) fun r20 _ => ?_
        refine Run.q (e := vIv) (gv := vT_Pn_I) (ok_spec_l19Radius _ _ _ _) fun r21 _ => ?_
        refine Run.q (e := vIv) (gv := vT_Pn_I) (ok_spec_RadiansOf _) fun r22 _ => ?_
        refine Run.q (e := vIv) (gv := vT_Pn_I) (ok_spec_l19Radius _ _ _ _) fun r23 _ => ?_
        refine Run.q (e := vIv) (gv := vT_Pn_I) (ok_spec_l17Lon _ _) fun r24 _ => ?_
        refine Run.q (e := vIv) (gv := vT_Pn_I) (ok_spec_MulI _ _) fun r25 _ => ?_
        refine Run.q (e := vIv) (gv := vT_Pn_I) (ok_spec_SinI _) fun r26 _ => ?_
        refine Run.q (e := vIv) (gv := vT_Pn_I) (ok_spec_MulI _ _) fun r27 _ => ?_
        refine Run.q (e := vIv) (gv := vT_Pn_I) (ok_spec_CosI _) fun r28 _ => ?_
        refine Run.q (e := vIv) (gv := vT_Pn_I) (ok_spec_MulI _ _) fun r29 _ => ?_
        refine Run.q (e := vIv) (gv := vT_Pn_I) (ok_spec_SubI _ _) fun r30 _ => ?_
        refine Run.q (e := vT_Pn_I) (gv := vT_Pn_I) (ok_spec_l17End _ _) fun r31 _ => ?_
        exact Run.x 0

theorem ok_spec_l20Kind (a0 : I64) : Fun Tryz.prog 311 [] #[vI a0] (vB (F_spec_l20Kind a0)) [] := by
  refine Fun.ofH 400 E_ok mixed Tryz.func311 (by kernel_rfl) (by kernel_rfl) ?_
  unfold F_spec_l20Kind
  refine Run.q (e := vB) (gv := vB) (ok_spec_l00In _ _ _) fun r1 _ => ?_
  exact Run.x 0

theorem ok_spec_l20Ok__pPj (b0 : Pj) : Fun Tryz.prog 224 [(#[.int .i64 b0.kind.val, .int .i64 b0.lat0.val, .int .i64 b0.lon0.val, .int .i64 b0.lat1.val, .int .i64 b0.lat2.val], 30)] #[.pointer (some ⟨0, 0, none⟩)] (vB (F_spec_l20Ok__pPj b0)) [(#[.int .i64 b0.kind.val, .int .i64 b0.lat0.val, .int .i64 b0.lon0.val, .int .i64 b0.lat1.val, .int .i64 b0.lat2.val], 30)] := by
  refine Fun.ofH 400 E_ok mixed Tryz.func224 (by kernel_rfl) (by kernel_rfl) ?_
  unfold F_spec_l20Ok__pPj
  refine Run.q (e := vB) (gv := vB) (ok_spec_l20Kind _) fun r1 _ => ?_
  refine Run.y (gv := vB) (fun _ => ?_) (fun _ => ?_)
  · refine Run.z [true, true, true] ?_
    refine Run.q (e := vB) (gv := vB) (ok_spec_ValidProjection _) fun r2 _ => ?_
    refine Run.z [true] ?_
    exact Run.x 1
  · refine Run.z [false, false, false, false] ?_
    exact Run.x 1

theorem ok_spec_PiI : Fun Tryz.prog 334 [] #[] (vIv (F_spec_PiI)) [] := by
  refine Fun.ofH 400 E_ok mixed Tryz.func334 (by kernel_rfl) (by kernel_rfl) ?_
  unfold F_spec_PiI
  refine Run.q (e := vIv) (gv := vIv) (ok_spec_l05Turn _ (by decide)) fun r1 hr1 => ?_
  exact Run.x 0

theorem ok_spec_l20Right (a0 : I64) : Fun Tryz.prog 366 [] #[vI a0] (vIv (F_spec_l20Right a0)) [] := by
  refine Fun.ofH 400 E_ok mixed Tryz.func366 (by kernel_rfl) (by kernel_rfl) ?_
  unfold F_spec_l20Right
  refine Run.y (gv := vIv) (fun _ => ?_) (fun _ => ?_)
  · refine Run.q (e := vIv) (gv := vIv) (ok_spec_PiI) fun r1 _ => ?_
    exact Run.x 0
  · refine Run.q (e := vIv) (gv := vIv) (ok_spec_Integer _) fun r2 _ => ?_
    refine Run.q (e := vIv) (gv := vIv) (ok_spec_TurnI _) fun r3 _ => ?_
    refine Run.q (e := vIv) (gv := vIv) (ok_spec_AddI _ _) fun r4 _ => ?_
    exact Run.x 0

theorem ok_spec_l20Left (a0 : I64) (a1 : I64) : Fun Tryz.prog 396 [] #[vI a0, vI a1] (vIv (F_spec_l20Left a0 a1)) [] := by
  refine Fun.ofH 400 E_ok mixed Tryz.func396 (by kernel_rfl) (by kernel_rfl) ?_
  unfold F_spec_l20Left
  refine Run.q (e := vIv) (gv := vIv) (ok_spec_l05At _) fun r1 _ => ?_
  refine Run.y (gv := vIv) (fun _ => ?_) (fun _ => ?_)
  · refine Run.q (e := vIv) (gv := vIv) (ok_spec_l05At _) fun r2 _ => ?_
    refine Run.q (e := vIv) (gv := vIv) (ok_spec_SinI _) fun r3 _ => ?_
    refine Run.q (e := vIv) (gv := vIv) (ok_spec_AddI _ _) fun r4 _ => ?_
    exact Run.x 0
  · refine Run.q (e := vIv) (gv := vIv) (ok_spec_SinI _) fun r5 _ => ?_
    refine Run.q (e := vIv) (gv := vIv) (ok_spec_AddI _ _) fun r6 _ => ?_
    exact Run.x 0

theorem ok_spec_l20Solve_L1 : ∀ (fu : Nat) (a0 : I64) (a1 : I64) (x_from : I64) (x_low : I64) (x_high : I64) (q0 : 0 ≤ x_low.val) (q1 : x_low.val ≤ x_high.val) (q2 : x_high.val ≤ 6746518853) (hm : (x_high.val - x_low.val).toNat < fu) (t : Array Value) (ht : maskA t [2, 3, 5, 8, 10, 11, 12, 13, 14, 15, 16, 17, 18, 19, 20, 21, 22, 23, 24, 25, 26, 27, 28, 29, 30, 31, 32, 33, 34, 35, 36, 37, 38, 39, 40, 41, 42, 43, 44, 45, 46, 47, 48, 49, 50] = #[.int .i64 a0.val, .int .i64 a1.val, undef, undef, .pointer (some ⟨0, 0, none⟩), undef, .int .i64 x_low.val, .int .i64 x_high.val, undef, .int .i64 x_from.val, undef, undef, undef, undef, undef, undef, undef, undef, undef, undef, undef, undef, undef, undef, undef, undef, undef, undef, undef, undef, undef, undef, undef, undef, undef, undef, undef, undef, undef, undef, undef, undef, undef, undef, undef, undef, undef, undef, undef, undef, undef]), Cfg Tryz.prog 388 (loopAt Tryz.f388 1) t [(#[.int .i64 0, .int .i64 0], 27)] (RvH [] (vIv (F_spec_l20Solve_L1 fu a0 a1 x_from x_low x_high))) := by
  intro fu
  induction fu with
  | zero => intro a0 a1 x_from x_low x_high q0 q1 q2 hm; exact absurd hm (Nat.not_lt_zero _)
  | succ fu ih =>
    intro a0 a1 x_from x_low x_high q0 q1 q2 hm t ht
    refine Cfg.round E_ok mixed Tryz.func388 ht fun g => ?_
    unfold F_spec_l20Solve_L1
    refine Run.y (gv := vIv) (fun h5 => ?_) (fun h5 => ?_)
    · refine Run.z [true] ?_
      refine Run.q (e := vIv) (gv := vIv) (ok_spec_l20Left _ _) fun r6 hr6 => ?_
      refine Run.y (gv := vIv) (fun h7 => ?_) (fun h7 => ?_)
      · exact Run.l (by kernel_rfl) (by kernel_rfl) (by kernel_rfl) (by kernel_rfl) (ih a0 a1 x_from x_low (ishr (w64 (x_low.val + x_high.val)) 1) (by first | exact Nat.lt_succ_self _ | (simp only [shr1_val, w64_val, c64_val, decide_eq_true_eq, decide_eq_false_iff_not, cond_true, cond_false] at *; omega)) (by first | exact Nat.lt_succ_self _ | (simp only [shr1_val, w64_val, c64_val, decide_eq_true_eq, decide_eq_false_iff_not, cond_true, cond_false] at *; omega)) (by first | exact Nat.lt_succ_self _ | (simp only [shr1_val, w64_val, c64_val, decide_eq_true_eq, decide_eq_false_iff_not, cond_true, cond_false] at *; omega)) (by first | exact Nat.lt_succ_self _ | (simp only [shr1_val, w64_val, c64_val, decide_eq_true_eq, decide_eq_false_iff_not, cond_true, cond_false] at *; omega)))
      · exact Run.l (by kernel_rfl) (by kernel_rfl) (by kernel_rfl) (by kernel_rfl) (ih a0 a1 x_from (ishr (w64 (x_low.val + x_high.val)) 1) x_high (by first | exact Nat.lt_succ_self _ | (simp only [shr1_val, w64_val, c64_val, decide_eq_true_eq, decide_eq_false_iff_not, cond_true, cond_false] at *; omega)) (by first | exact Nat.lt_succ_self _ | (simp only [shr1_val, w64_val, c64_val, decide_eq_true_eq, decide_eq_false_iff_not, cond_true, cond_false] at *; omega)) (by first | exact Nat.lt_succ_self _ | (simp only [shr1_val, w64_val, c64_val, decide_eq_true_eq, decide_eq_false_iff_not, cond_true, cond_false] at *; omega)) (by first | exact Nat.lt_succ_self _ | (simp only [shr1_val, w64_val, c64_val, decide_eq_true_eq, decide_eq_false_iff_not, cond_true, cond_false] at *; omega)))
    · exact Run.x 0

theorem ok_spec_l20Solve_L0 : ∀ (fu : Nat) (a0 : I64) (a1 : I64) (r1 : Iv) (x_low : I64) (x_high : I64) (q0 : 0 ≤ x_low.val) (q1 : x_low.val ≤ x_high.val) (q2 : x_high.val ≤ 6746518853) (q3 : r1.hi.val = 6746518853) (hm : (x_high.val - x_low.val).toNat < fu) (t : Array Value) (ht : maskA t [2, 3, 8, 9, 10, 11, 12, 13, 14, 15, 16, 17, 18, 19, 20, 21, 22, 23, 24, 25, 26, 27, 28, 29, 30, 31, 32, 33, 34, 35, 36, 37, 38, 39, 40, 41, 42, 43, 44, 45, 46, 47, 48, 49, 50] = #[.int .i64 a0.val, .int .i64 a1.val, undef, undef, .pointer (some ⟨0, 0, none⟩), .int .i64 r1.hi.val, .int .i64 x_low.val, .int .i64 x_high.val, undef, undef, undef, undef, undef, undef, undef, undef, undef, undef, undef, undef, undef, undef, undef, undef, undef, undef, undef, undef, undef, undef, undef, undef, undef, undef, undef, undef, undef, undef, undef, undef, undef, undef, undef, undef, undef, undef, undef, undef, undef, undef, undef]), Cfg Tryz.prog 388 (loopAt Tryz.f388 0) t [(#[.int .i64 0, .int .i64 0], 27)] (RvH [] (vIv (F_spec_l20Solve_L0 fu a0 a1 r1 x_low x_high))) := by
  intro fu
  induction fu with
  | zero => intro a0 a1 r1 x_low x_high q0 q1 q2 q3 hm; exact absurd hm (Nat.not_lt_zero _)
  | succ fu ih =>
    intro a0 a1 r1 x_low x_high q0 q1 q2 q3 hm t ht
    refine Cfg.round E_ok mixed Tryz.func388 ht fun g => ?_
    unfold F_spec_l20Solve_L0
    refine Run.y (gv := vIv) (fun h2 => ?_) (fun h2 => ?_)
    · refine Run.z [true] ?_
      refine Run.q (e := vIv) (gv := vIv) (ok_spec_l20Left _ _) fun r3 hr3 => ?_
      refine Run.y (gv := vIv) (fun h4 => ?_) (fun h4 => ?_)
      · exact Run.l (by kernel_rfl) (by kernel_rfl) (by kernel_rfl) (by kernel_rfl) (ih a0 a1 r1 (ishr (w64 (x_low.val + x_high.val)) 1) x_high (by first | exact Nat.lt_succ_self _ | (simp only [shr1_val, w64_val, c64_val, decide_eq_true_eq, decide_eq_false_iff_not, cond_true, cond_false] at *; omega)) (by first | exact Nat.lt_succ_self _ | (simp only [shr1_val, w64_val, c64_val, decide_eq_true_eq, decide_eq_false_iff_not, cond_true, cond_false] at *; omega)) (by first | exact Nat.lt_succ_self _ | (simp only [shr1_val, w64_val, c64_val, decide_eq_true_eq, decide_eq_false_iff_not, cond_true, cond_false] at *; omega)) (by first | exact Nat.lt_succ_self _ | (simp only [shr1_val, w64_val, c64_val, decide_eq_true_eq, decide_eq_false_iff_not, cond_true, cond_false] at *; omega)) (by first | exact Nat.lt_succ_self _ | (simp only [shr1_val, w64_val, c64_val, decide_eq_true_eq, decide_eq_false_iff_not, cond_true, cond_false] at *; omega)))
      · exact Run.l (by kernel_rfl) (by kernel_rfl) (by kernel_rfl) (by kernel_rfl) (ih a0 a1 r1 x_low (ishr (w64 (x_low.val + x_high.val)) 1) (by first | exact Nat.lt_succ_self _ | (simp only [shr1_val, w64_val, c64_val, decide_eq_true_eq, decide_eq_false_iff_not, cond_true, cond_false] at *; omega)) (by first | exact Nat.lt_succ_self _ | (simp only [shr1_val, w64_val, c64_val, decide_eq_true_eq, decide_eq_false_iff_not, cond_true, cond_false] at *; omega)) (by first | exact Nat.lt_succ_self _ | (simp only [shr1_val, w64_val, c64_val, decide_eq_true_eq, decide_eq_false_iff_not, cond_true, cond_false] at *; omega)) (by first | exact Nat.lt_succ_self _ | (simp only [shr1_val, w64_val, c64_val, decide_eq_true_eq, decide_eq_false_iff_not, cond_true, cond_false] at *; omega)) (by first | exact Nat.lt_succ_self _ | (simp only [shr1_val, w64_val, c64_val, decide_eq_true_eq, decide_eq_false_iff_not, cond_true, cond_false] at *; omega)))
    · exact Run.l (by kernel_rfl) (by kernel_rfl) (by kernel_rfl) (by kernel_rfl) (ok_spec_l20Solve_L1 ((r1.hi.val - x_low.val).toNat + 1) a0 a1 x_low x_low r1.hi (by first | exact Nat.lt_succ_self _ | omega) (by first | exact Nat.lt_succ_self _ | omega) (by first | exact Nat.lt_succ_self _ | omega) (by first | exact Nat.lt_succ_self _ | omega))

theorem ok_spec_l20Solve (a0 : I64) (a1 : I64) : Fun Tryz.prog 388 [] #[vI a0, vI a1] (vIv (F_spec_l20Solve a0 a1)) [] := by
  refine Fun.ofH 400 E_ok mixed Tryz.func388 (by kernel_rfl) (by kernel_rfl) ?_
  unfold F_spec_l20Solve
  refine Run.q (e := vIv) (gv := vIv) (ok_spec_l05Turn _ (by decide)) fun r1 hr1 => ?_
  exact Run.l (by kernel_rfl) (by kernel_rfl) (by kernel_rfl) (by kernel_rfl) (ok_spec_l20Solve_L0 ((r1.hi.val - (c64 0).val).toNat + 1) a0 a1 r1 (c64 0) r1.hi (by first | exact Nat.lt_succ_self _ | (have z := spec_turn1; rw [← hr1] at z; (try simp only [c64_val]); omega)) (by first | exact Nat.lt_succ_self _ | (have z := spec_turn1; rw [← hr1] at z; (try simp only [c64_val]); omega)) (by first | exact Nat.lt_succ_self _ | (have z := spec_turn1; rw [← hr1] at z; (try simp only [c64_val]); omega)) (by first | exact Nat.lt_succ_self _ | (have z := spec_turn1; rw [← hr1] at z; (try simp only [c64_val]); omega)) (by first | exact Nat.lt_succ_self _ | (have z := spec_turn1; rw [← hr1] at z; (try simp only [c64_val]); omega)))

theorem ok_spec_l20At (a0 : I64) (a1 : I64) : Fun Tryz.prog 367 [] #[vI a0, vI a1] (vIv (F_spec_l20At a0 a1)) [] := by
  refine Fun.ofH 400 E_ok mixed Tryz.func367 (by kernel_rfl) (by kernel_rfl) ?_
  unfold F_spec_l20At
  refine Run.y (gv := vIv) (fun _ => ?_) (fun _ => ?_)
  · refine Run.z [true, true, true] ?_
    refine Run.q (e := vIv) (gv := vIv) (ok_spec_l07Quarter) fun r1 _ => ?_
    exact Run.x 0
  · refine Run.z [false, false] ?_
    refine Run.y (gv := vIv) (fun _ => ?_) (fun _ => ?_)
    · refine Run.q (e := vIv) (gv := vIv) (ok_spec_l07Quarter) fun r2 _ => ?_
      exact Run.x 0
    · refine Run.y (gv := vIv) (fun _ => ?_) (fun _ => ?_)
      · refine Run.q (e := vIv) (gv := vIv) (ok_spec_l20Solve _ _) fun r3 _ => ?_
        refine Run.q (e := vIv) (gv := vIv) (ok_spec_NegI _) fun r4 _ => ?_
        exact Run.x 0
      · refine Run.q (e := vIv) (gv := vIv) (ok_spec_l20Solve _ _) fun r5 _ => ?_
        exact Run.x 0

theorem ok_spec_ThetaOf (a0 : I64) (a1 : Iv) : Fun Tryz.prog 313 [] #[vI a0, vIv a1] (vIv (F_spec_ThetaOf a0 a1)) [] := by
  refine Fun.ofH 400 E_ok mixed Tryz.func313 (by kernel_rfl) (by kernel_rfl) ?_
  unfold F_spec_ThetaOf
  refine Run.y (gv := vIv) (fun _ => ?_) (fun _ => ?_)
  · exact Run.x 0
  · refine Run.y (gv := vIv) (fun _ => ?_) (fun _ => ?_)
    · refine Run.z [true] ?_
      refine Run.q (e := vIv) (gv := vIv) (ok_spec_l20Right _) fun r1 _ => ?_
      refine Run.q (e := vIv) (gv := vIv) (ok_spec_SinI _) fun r2 _ => ?_
      refine Run.q (e := vIv) (gv := vIv) (ok_spec_MulI _ _) fun r3 _ => ?_
      refine Run.q (e := vIv) (gv := vIv) (ok_spec_l20At _ _) fun r4 _ => ?_
      refine Run.q (e := vIv) (gv := vIv) (ok_spec_l20At _ _) fun r5 _ => ?_
      refine Run.q (e := vIv) (gv := vIv) (ok_spec_HullI _ _) fun r6 _ => ?_
      exact Run.x 0
    · refine Run.y (gv := vIv) (fun _ => ?_) (fun _ => ?_)
      · refine Run.q (e := vIv) (gv := vIv) (ok_spec_l20Right _) fun r7 _ => ?_
        refine Run.q (e := vIv) (gv := vIv) (ok_spec_SinI _) fun r8 _ => ?_
        refine Run.q (e := vIv) (gv := vIv) (ok_spec_MulI _ _) fun r9 _ => ?_
        refine Run.q (e := vIv) (gv := vIv) (ok_spec_l20At _ _) fun r10 _ => ?_
        refine Run.q (e := vIv) (gv := vIv) (ok_spec_l20At _ _) fun r11 _ => ?_
        refine Run.q (e := vIv) (gv := vIv) (ok_spec_HullI _ _) fun r12 _ => ?_
        exact Run.x 0
      · refine Run.q (e := vIv) (gv := vIv) (ok_spec_Whole) fun r13 _ => ?_
        exact Run.x 0

theorem ok_spec_l20Root (a0 : I64) : Fun Tryz.prog 365 [] #[vI a0] (vIv (F_spec_l20Root a0)) [] := by
  refine Fun.ofH 400 E_ok mixed Tryz.func365 (by kernel_rfl) (by kernel_rfl) ?_
  unfold F_spec_l20Root
  refine Run.y (gv := vIv) (fun _ => ?_) (fun _ => ?_)
  · refine Run.q (e := vIv) (gv := vIv) (ok_spec_Integer _) fun r1 _ => ?_
    refine Run.q (e := vIv) (gv := vIv) (ok_spec_SqrtI _) fun r2 _ => ?_
    exact Run.x 0
  · refine Run.q (e := vIv) (gv := vIv) (ok_spec_Integer _) fun r3 _ => ?_
    refine Run.q (e := vIv) (gv := vIv) (ok_spec_PiI) fun r4 _ => ?_
    refine Run.q (e := vIv) (gv := vIv) (ok_spec_AddI _ _) fun r5 _ => ?_
    refine Run.q (e := vIv) (gv := vIv) (ok_spec_SqrtI _) fun r6 _ => ?_
    exact Run.x 0

theorem ok_spec_l20Parallel (a0 : I64) (a1 : Iv) : Fun Tryz.prog 312 [] #[vI a0, vIv a1] (vT_Iv_Iv (F_spec_l20Parallel a0 a1)) [] := by
  refine Fun.ofH 400 E_ok mixed Tryz.func312 (by kernel_rfl) (by kernel_rfl) ?_
  unfold F_spec_l20Parallel
  refine Run.y (gv := vT_Iv_Iv) (fun _ => ?_) (fun _ => ?_)
  · refine Run.q (e := vIv) (gv := vT_Iv_Iv) (ok_spec_CosI _) fun r1 _ => ?_
    exact Run.x 0
  · refine Run.y (gv := vT_Iv_Iv) (fun _ => ?_) (fun _ => ?_)
    · refine Run.q (e := vIv) (gv := vT_Iv_Iv) (ok_spec_Integer _) fun r2 _ => ?_
      refine Run.q (e := vIv) (gv := vT_Iv_Iv) (ok_spec_l20Root _) fun r3 _ => ?_
      refine Run.q (e := vIv) (gv := vT_Iv_Iv) (ok_spec_MulI _ _) fun r4 _ => ?_
      refine Run.q (e := vIv) (gv := vT_Iv_Iv) (ok_spec_CosI _) fun r5 _ => ?_
      refine Run.q (e := vIv) (gv := vT_Iv_Iv) (ok_spec_MulI _ _) fun r6 _ => ?_
      refine Run.q (e := vIv) (gv := vT_Iv_Iv) (ok_spec_PiI) fun r7 _ => ?_
      refine Run.q (e := vIv) (gv := vT_Iv_Iv) (ok_spec_DivI _ _) fun r8 _ => ?_
      refine Run.q (e := vIv) (gv := vT_Iv_Iv) (ok_spec_l20Root _) fun r9 _ => ?_
      refine Run.q (e := vIv) (gv := vT_Iv_Iv) (ok_spec_SinI _) fun r10 _ => ?_
      refine Run.q (e := vIv) (gv := vT_Iv_Iv) (ok_spec_MulI _ _) fun r11 _ => ?_
      exact Run.x 0
    · refine Run.q (e := vIv) (gv := vT_Iv_Iv) (ok_spec_Integer _) fun r12 _ => ?_
      refine Run.q (e := vIv) (gv := vT_Iv_Iv) (ok_spec_CosI _) fun r13 _ => ?_
      refine Run.q (e := vIv) (gv := vT_Iv_Iv) (ok_spec_AddI _ _) fun r14 _ => ?_
      refine Run.q (e := vIv) (gv := vT_Iv_Iv) (ok_spec_l20Root _) fun r15 _ => ?_
      refine Run.q (e := vIv) (gv := vT_Iv_Iv) (ok_spec_DivI _ _) fun r16 _ => ?_
      refine Run.q (e := vIv) (gv := vT_Iv_Iv) (ok_spec_Integer _) fun r17 _ => ?_
      refine Run.q (e := vIv) (gv := vT_Iv_Iv) (ok_spec_MulI _ _) fun r18 _ => ?_
      refine Run.q (e := vIv) (gv := vT_Iv_Iv) (ok_spec_l20Root _) fun r19 _ => ?_
      refine Run.q (e := vIv) (gv := vT_Iv_Iv) (ok_spec_DivI _ _) fun r20 _ => ?_
      exact Run.x 0

theorem ok_spec_ParallelOf (a0 : I64) (a1 : Iv) : Fun Tryz.prog 225 [] #[vI a0, vIv a1] (vT_Iv_Iv (F_spec_ParallelOf a0 a1)) [] := by
  refine Fun.ofH 400 E_ok mixed Tryz.func225 (by kernel_rfl) (by kernel_rfl) ?_
  unfold F_spec_ParallelOf
  refine Run.q (e := vB) (gv := vT_Iv_Iv) (ok_spec_l20Kind _) fun r1 _ => ?_
  refine Run.y (gv := vT_Iv_Iv) (fun _ => ?_) (fun _ => ?_)
  · refine Run.q (e := vIv) (gv := vT_Iv_Iv) (ok_spec_Whole) fun r2 _ => ?_
    refine Run.q (e := vIv) (gv := vT_Iv_Iv) (ok_spec_Whole) fun r3 _ => ?_
    exact Run.x 0
  · refine Run.q (e := vIv) (gv := vT_Iv_Iv) (ok_spec_ThetaOf _ _) fun r4 _ => ?_
    refine Run.q (e := vT_Iv_Iv) (gv := vT_Iv_Iv) (ok_spec_l20Parallel _ _) fun r5 _ => ?_
    exact Run.x 0

theorem ok_spec_PseudoForward (a0 : Pj) (a1 : Pt) : Fun Tryz.prog 116 [] #[vPj a0, vPt a1] (vT_Pn_I (F_spec_PseudoForward a0 a1)) [] := by
  refine Fun.ofH 400 E_ok mixed Tryz.func116 (by kernel_rfl) (by kernel_rfl) ?_
  unfold F_spec_PseudoForward
  refine Run.w (e := vB) (gv := vT_Pn_I) [0] (ok_spec_l20Ok__pPj _) fun r1 _ => ?_
  refine Run.y (gv := vT_Pn_I) (fun _ => ?_) (fun _ => ?_)
  · refine Run.z [true, true, true, true] ?_
    exact Run.x 0
  · refine Run.z [false] ?_
    refine Run.q (e := vB) (gv := vT_Pn_I) (ok_spec_l11Ok _) fun r2 _ => ?_
    refine Run.z [false, false] ?_
    refine Run.y (gv := vT_Pn_I) (fun _ => ?_) (fun _ => ?_)
    · exact Run.x 0
    · refine Run.q (e := vIv) (gv := vT_Pn_I) (ok_spec_RadiansOf _) fun r3 _ => ?_
      refine Run.q (e := vT_Iv_Iv) (gv := vT_Pn_I) (ok_spec_ParallelOf _ _) fun r4 _ => ?_
      refine Run.q (e := vI) (gv := vT_Pn_I) (ok_spec_l11Wrap _) fun r5 _ => ?_
      refine Run.q (e := vIv) (gv := vT_Pn_I) (ok_spec_RadiansOf _) fun r6 _ => ?_
      refine Run.q (e := vIv) (gv := vT_Pn_I) (ok_spec_MulI _ _) fun r7 _ => ?_
      refine Run.q (e := vB) (gv := vT_Pn_I) (ok_spec_IsWhole _) fun r8 _ => ?_
      refine Run.y (gv := vT_Pn_I) (fun _ => ?_) (fun _ => ?_)
      · refine Run.z [true, true, true, true] ?_
        exact Run.x 0
      · refine Run.z [false, false] ?_
        refine Run.q (e := vB) (gv := vT_Pn_I) (ok_spec_IsWhole _) fun r9 _ => ?_
        refine Run.z [false] ?_
        refine Run.y (gv := vT_Pn_I) (fun _ => ?_) (fun _ => ?_)
        · exact Run.x 0
        · exact Run.x 0

theorem ok_spec_l08Atanh_r : ∀ (fu : Nat) (a0 : I64) (p0 : -9223372036854775808 < a0.val) (hm : min (0 - a0.val).toNat 1 < fu), Fun Tryz.prog 368 [] #[vI a0] (vIv (F_spec_l08Atanh_r fu a0)) [] := by
  intro fu
  induction fu with
  | zero => intro a0 p0 hm; exact absurd hm (Nat.not_lt_zero _)
  | succ fu ih =>
    intro a0 p0 hm
    refine Fun.ofH 400 E_ok mixed Tryz.func368 (by kernel_rfl) (by kernel_rfl) ?_
    unfold F_spec_l08Atanh_r
    unfold F_spec_l08Atanh_b
    refine Run.y (gv := vIv) (fun h1 => ?_) (fun h1 => ?_)
    · refine Run.q (e := vIv) (gv := vIv) (ih (w64 (0 - a0.val)) (by simp only [w64_val, decide_eq_true_eq, decide_eq_false_iff_not] at *; omega) (by simp only [w64_val, decide_eq_true_eq, decide_eq_false_iff_not] at *; omega)) fun r2 hr2 => ?_
      refine Run.q (e := vIv) (gv := vIv) (ok_spec_NegI _) fun r3 hr3 => ?_
      exact Run.x 0
    · refine Run.y (gv := vIv) (fun h4 => ?_) (fun h4 => ?_)
      · refine Run.q (e := vIv) (gv := vIv) (ok_spec_l04Whole) fun r5 hr5 => ?_
        exact Run.x 0
      · refine Run.q (e := vIv) (gv := vIv) (ok_spec_l08At _) fun r6 hr6 => ?_
        refine Run.q (e := vIv) (gv := vIv) (ok_spec_l08At _) fun r7 hr7 => ?_
        refine Run.q (e := vIv) (gv := vIv) (ok_spec_DivI _ _) fun r8 hr8 => ?_
        refine Run.q (e := vIv) (gv := vIv) (ok_spec_LogI _) fun r9 hr9 => ?_
        refine Run.q (e := vIv) (gv := vIv) (ok_spec_HalfI _) fun r10 hr10 => ?_
        exact Run.x 0
theorem ok_spec_l08Atanh (a0 : I64) (p0 : -9223372036854775808 < a0.val) : Fun Tryz.prog 368 [] #[vI a0] (vIv (F_spec_l08Atanh a0)) [] := ok_spec_l08Atanh_r 2 a0 p0 (by omega)

theorem ok_spec_AtanhI (a0 : Iv) : Fun Tryz.prog 314 [] #[vIv a0] (vIv (F_spec_AtanhI a0)) [] := by
  refine Fun.ofH 400 E_ok mixed Tryz.func314 (by kernel_rfl) (by kernel_rfl) ?_
  unfold F_spec_AtanhI
  refine Run.q (e := vB) (gv := vIv) (ok_spec_l04Ok _) fun r1 hr1 => ?_
  refine Run.y (gv := vIv) (fun h2 => ?_) (fun h2 => ?_)
  · refine Run.q (e := vIv) (gv := vIv) (ok_spec_l04Whole) fun r3 hr3 => ?_
    exact Run.x 0
  · refine Run.q (e := vIv) (gv := vIv) (ok_spec_l08Atanh _ (by rw [hr1] at h2; have z := Ok4p (by simpa using h2); omega)) fun r4 hr4 => ?_
    refine Run.q (e := vIv) (gv := vIv) (ok_spec_l08Atanh _ (by rw [hr1] at h2; have z := Ok4p (by simpa using h2); omega)) fun r5 hr5 => ?_
    refine Run.q (e := vIv) (gv := vIv) (ok_spec_l08Ends _ _) fun r6 hr6 => ?_
    exact Run.x 0

theorem ok_spec_l21Forward__pPj (b0 : Pj) (a0 : Pt) : Fun Tryz.prog 226 [(#[.int .i64 b0.kind.val, .int .i64 b0.lat0.val, .int .i64 b0.lon0.val, .int .i64 b0.lat1.val, .int .i64 b0.lat2.val], 30)] #[.pointer (some ⟨0, 0, none⟩), vPt a0] (vT_Pn_I (F_spec_l21Forward__pPj b0 a0)) [(#[.int .i64 b0.kind.val, .int .i64 b0.lat0.val, .int .i64 b0.lon0.val, .int .i64 b0.lat1.val, .int .i64 b0.lat2.val], 30)] := by
  refine Fun.ofH 400 E_ok mixed Tryz.func226 (by kernel_rfl) (by kernel_rfl) ?_
  unfold F_spec_l21Forward__pPj
  refine Run.w (e := vB) (gv := vT_Pn_I) [0] (ok_spec_l21Edge__pPj _ _) fun r1 _ => ?_
  refine Run.y (gv := vT_Pn_I) (fun _ => ?_) (fun _ => ?_)
  · exact Run.x 1
  · refine Run.q (e := vIv) (gv := vT_Pn_I) (ok_spec_RadiansOf _) fun r2 _ => ?_
    refine Run.w (e := vIv) (gv := vT_Pn_I) [0] (ok_spec_l21Side__pPj _ _) fun r3 _ => ?_
    refine Run.q (e := vIv) (gv := vT_Pn_I) (ok_spec_AtanhI _) fun r4 _ => ?_
    refine Run.q (e := vIv) (gv := vT_Pn_I) (ok_spec_SinI _) fun r5 _ => ?_
    refine Run.q (e := vIv) (gv := vT_Pn_I) (ok_spec_CosI _) fun r6 _ => ?_
    refine Run.w (e := vIv) (gv := vT_Pn_I) [0] (ok_spec_l21Turn__pPj _ _) fun r7 _ => ?_
    refine Run.q (e := vIv) (gv := vT_Pn_I) (ok_spec_CosI _) fun r8 _ => ?_
    refine Run.q (e := vIv) (gv := vT_Pn_I) (ok_spec_MulI _ _) fun r9 _ => ?_
    refine Run.q (e := vIv) (gv := vT_Pn_I) (ok_spec_DirectionI _ _) fun r10 _ => ?_
    refine Run.q (e := vIv) (gv := vT_Pn_I) (ok_spec_RadiansOf _) fun r11 _ => ?_
    refine Run.q (e := vIv) (gv := vT_Pn_I) (ok_spec_SubI _ _) fun r12 _ => ?_
    refine Run.q (e := vB) (gv := vT_Pn_I) (ok_spec_IsWhole _) fun r13 _ => ?_
    refine Run.y (gv := vT_Pn_I) (fun _ => ?_) (fun _ => ?_)
    · refine Run.z [true, true, true, true] ?_
      exact Run.x 1
    · refine Run.z [false, false] ?_
      refine Run.q (e := vB) (gv := vT_Pn_I) (ok_spec_IsWhole _) fun r14 _ => ?_
      refine Run.z [false] ?_
      refine Run.y (gv := vT_Pn_I) (fun _ => ?_) (fun _ => ?_)
      · exact Run.x 1
      · exact Run.x 1

theorem ok_spec_TransverseForward (a0 : Pj) (a1 : Pt) : Fun Tryz.prog 117 [] #[vPj a0, vPt a1] (vT_Pn_I (F_spec_TransverseForward a0 a1)) [] := by
  refine Fun.ofH 400 E_ok mixed Tryz.func117 (by kernel_rfl) (by kernel_rfl) ?_
  unfold F_spec_TransverseForward
  refine Run.w (e := vB) (gv := vT_Pn_I) [0] (ok_spec_l21Ok__pPj _) fun r1 _ => ?_
  refine Run.y (gv := vT_Pn_I) (fun _ => ?_) (fun _ => ?_)
  · refine Run.z [true, true, true, true] ?_
    exact Run.x 0
  · refine Run.z [false] ?_
    refine Run.q (e := vB) (gv := vT_Pn_I) (ok_spec_l11Ok _) fun r2 _ => ?_
    refine Run.z [false, false] ?_
    refine Run.y (gv := vT_Pn_I) (fun _ => ?_) (fun _ => ?_)
    · exact Run.x 0
    · refine Run.w (e := vT_Pn_I) (gv := vT_Pn_I) [0] (ok_spec_l21Forward__pPj _ _) fun r3 _ => ?_
      exact Run.x 0

theorem ok_spec_l22Project (a0 : Pj) (a1 : Pt) : Fun Tryz.prog 48 [] #[vPj a0, vPt a1] (vT_Pn_I (F_spec_l22Project a0 a1)) [] := by
  refine Fun.ofH 400 E_ok mixed Tryz.func48 (by kernel_rfl) (by kernel_rfl) ?_
  unfold F_spec_l22Project
  refine Run.q (e := vI) (gv := vT_Pn_I) (ok_spec_l22Family _) fun r1 _ => ?_
  refine Run.y (gv := vT_Pn_I) (fun _ => ?_) (fun _ => ?_)
  · refine Run.q (e := vT_Pn_I) (gv := vT_Pn_I) (ok_spec_CylinderForward _ _) fun r2 _ => ?_
    exact Run.x 0
  · refine Run.y (gv := vT_Pn_I) (fun _ => ?_) (fun _ => ?_)
    · refine Run.q (e := vT_Pn_I) (gv := vT_Pn_I) (ok_spec_AzimuthalForward _ _) fun r3 _ => ?_
      exact Run.x 0
    · refine Run.y (gv := vT_Pn_I) (fun _ => ?_) (fun _ => ?_)
      · refine Run.q (e := vT_Pn_I) (gv := vT_Pn_I) (ok_spec_ConicForward _ _) fun r4 _ => ?_
        exact Run.x 0
      · refine Run.y (gv := vT_Pn_I) (fun _ => ?_) (fun _ => ?_)
        · refine Run.q (e := vT_Pn_I) (gv := vT_Pn_I) (ok_spec_PseudoForward _ _) fun r5 _ => ?_
          exact Run.x 0
        · refine Run.y (gv := vT_Pn_I) (fun _ => ?_) (fun _ => ?_)
          · refine Run.q (e := vT_Pn_I) (gv := vT_Pn_I) (ok_spec_TransverseForward _ _) fun r6 _ => ?_
            exact Run.x 0
          · exact Run.x 0

theorem ok_spec_Project (a0 : Pj) (a1 : Pt) : Fun Tryz.prog 16 [] #[vPj a0, vPt a1] (vT_Pn_I (F_spec_Project a0 a1)) [] := by
  refine Fun.ofH 400 E_ok mixed Tryz.func16 (by kernel_rfl) (by kernel_rfl) ?_
  unfold F_spec_Project
  refine Run.q (e := vT_Pn_I) (gv := vT_Pn_I) (ok_spec_l22Project _ _) fun r1 _ => ?_
  exact Run.x 0

end Go.Proofs.YtjckiicaegpghaaGreat.Abs
