/- The program's functions are these; part 6 (written by w.py). -/
import Derived.Test.YtjbdilphncpceaaGreatE
import Derived.Test.YtjbdilphncpceaaGreatF5
import Derived.Test.YtjbdilphncpceaaGreatQpre
import Derived.Test.YtjbdilphncpceaaGreatK4
import Derived.Test.YtjbdilphncpceaaGreatK5
set_option linter.unusedVariables false
set_option linter.unusedSimpArgs false
namespace Go.Proofs.YtjbdilphncpceaaGreat.Abs
open Go Go.RowKit

theorem ok_impl_DirectionI (a0 : Iv) (a1 : Iv) : Fun Tryz.prog 67 [] #[vIv a0, vIv a1] (vIv (F_impl_DirectionI a0 a1)) [] := by
  refine Fun.ofH 400 E_ok mixed Tryz.func67 (by kernel_rfl) (by kernel_rfl) ?_
  unfold F_impl_DirectionI
  refine Run.q (e := vB) (gv := vIv) (ok_impl_areBounded _ _) fun r1 _ => ?_
  refine Run.y (gv := vIv) (fun _ => ?_) (fun _ => ?_)
  · refine Run.z [true, true, true, true, true, true, true, true, true, true, true, true, true] ?_
    refine Run.q (e := vIv) (gv := vIv) (ok_impl_Whole) fun r2 _ => ?_
    exact Run.x 0
  · refine Run.z [false] ?_
    refine Run.q (e := vB) (gv := vIv) (ok_impl_HasI _ _) fun r3 _ => ?_
    refine Run.z [false] ?_
    refine Run.y (gv := vIv) (fun _ => ?_) (fun _ => ?_)
    · refine Run.z [true] ?_
      refine Run.q (e := vB) (gv := vIv) (ok_impl_HasI _ _) fun r4 _ => ?_
      refine Run.z [false, true, false] ?_
      refine Run.y (gv := vIv) (fun _ => ?_) (fun _ => ?_)
      · refine Run.z [true, true, true, true, true, true, true, true] ?_
        refine Run.q (e := vIv) (gv := vIv) (ok_impl_Whole) fun r5 _ => ?_
        exact Run.x 0
      · refine Run.z [false, false, false] ?_
        refine Run.y (gv := vIv) (fun _ => ?_) (fun _ => ?_)
        · refine Run.z [true, true, false, true, false] ?_
          refine Run.y (gv := vIv) (fun _ => ?_) (fun _ => ?_)
          · refine Run.z [true, true, false, true, false] ?_
            refine Run.y (gv := vIv) (fun _ => ?_) (fun _ => ?_)
            · refine Run.q (e := vIv) (gv := vIv) (ok_impl_Whole) fun r6 _ => ?_
              exact Run.x 0
            · refine Run.q (e := vIv) (gv := vIv) (ok_impl_DirectionAt _ _) fun r7 _ => ?_
              refine Run.q (e := vIv) (gv := vIv) (ok_impl_DirectionAt _ _) fun r8 _ => ?_
              refine Run.q (e := vIv) (gv := vIv) (ok_impl_HullI _ _) fun r9 _ => ?_
              refine Run.q (e := vIv) (gv := vIv) (ok_impl_DirectionAt _ _) fun r10 _ => ?_
              refine Run.q (e := vIv) (gv := vIv) (ok_impl_DirectionAt _ _) fun r11 _ => ?_
              refine Run.q (e := vIv) (gv := vIv) (ok_impl_HullI _ _) fun r12 _ => ?_
              refine Run.q (e := vIv) (gv := vIv) (ok_impl_HullI _ _) fun r13 _ => ?_
              exact Run.x 0
          · refine Run.z [false, false, false, false, false, false] ?_
            refine Run.q (e := vIv) (gv := vIv) (ok_impl_DirectionAt _ _) fun r14 _ => ?_
            refine Run.q (e := vIv) (gv := vIv) (ok_impl_DirectionAt _ _) fun r15 _ => ?_
            refine Run.q (e := vIv) (gv := vIv) (ok_impl_HullI _ _) fun r16 _ => ?_
            refine Run.q (e := vIv) (gv := vIv) (ok_impl_DirectionAt _ _) fun r17 _ => ?_
            refine Run.q (e := vIv) (gv := vIv) (ok_impl_DirectionAt _ _) fun r18 _ => ?_
            refine Run.q (e := vIv) (gv := vIv) (ok_impl_HullI _ _) fun r19 _ => ?_
            refine Run.q (e := vIv) (gv := vIv) (ok_impl_HullI _ _) fun r20 _ => ?_
            exact Run.x 0
        · refine Run.z [false, false, false, false, false, false, false, false, false, false, false, false] ?_
          refine Run.q (e := vIv) (gv := vIv) (ok_impl_DirectionAt _ _) fun r21 _ => ?_
          refine Run.q (e := vIv) (gv := vIv) (ok_impl_DirectionAt _ _) fun r22 _ => ?_
          refine Run.q (e := vIv) (gv := vIv) (ok_impl_HullI _ _) fun r23 _ => ?_
          refine Run.q (e := vIv) (gv := vIv) (ok_impl_DirectionAt _ _) fun r24 _ => ?_
          refine Run.q (e := vIv) (gv := vIv) (ok_impl_DirectionAt _ _) fun r25 _ => ?_
          refine Run.q (e := vIv) (gv := vIv) (ok_impl_HullI _ _) fun r26 _ => ?_
          refine Run.q (e := vIv) (gv := vIv) (ok_impl_HullI _ _) fun r27 _ => ?_
          exact Run.x 0
    · refine Run.z [false, false, false, false, false, false, false, false] ?_
      refine Run.y (gv := vIv) (fun _ => ?_) (fun _ => ?_)
      · refine Run.z [true, true, false, true, false] ?_
        refine Run.y (gv := vIv) (fun _ => ?_) (fun _ => ?_)
        · refine Run.z [true, true, false, true, false] ?_
          refine Run.y (gv := vIv) (fun _ => ?_) (fun _ => ?_)
          · refine Run.q (e := vIv) (gv := vIv) (ok_impl_Whole) fun r28 _ => ?_
            exact Run.x 0
          · refine Run.q (e := vIv) (gv := vIv) (ok_impl_DirectionAt _ _) fun r29 _ => ?_
            refine Run.q (e := vIv) (gv := vIv) (ok_impl_DirectionAt _ _) fun r30 _ => ?_
            refine Run.q (e := vIv) (gv := vIv) (ok_impl_HullI _ _) fun r31 _ => ?_
            refine Run.q (e := vIv) (gv := vIv) (ok_impl_DirectionAt _ _) fun r32 _ => ?_
            refine Run.q (e := vIv) (gv := vIv) (ok_impl_DirectionAt _ _) fun r33 _ => ?_
            refine Run.q (e := vIv) (gv := vIv) (ok_impl_HullI _ _) fun r34 _ => ?_
            refine Run.q (e := vIv) (gv := vIv) (ok_impl_HullI _ _) fun r35 _ => ?_
            exact Run.x 0
        · refine Run.z [false, false, false, false, false, false] ?_
          refine Run.q (e := vIv) (gv := vIv) (ok_impl_DirectionAt _ _) fun r36 _ => ?_
          refine Run.q (e := vIv) (gv := vIv) (ok_impl_DirectionAt _ _) fun r37 _ => ?_
          refine Run.q (e := vIv) (gv := vIv) (ok_impl_HullI _ _) fun r38 _ => ?_
          refine Run.q (e := vIv) (gv := vIv) (ok_impl_DirectionAt _ _) fun r39 _ => ?_
          refine Run.q (e := vIv) (gv := vIv) (ok_impl_DirectionAt _ _) fun r40 _ => ?_
          refine Run.q (e := vIv) (gv := vIv) (ok_impl_HullI _ _) fun r41 _ => ?_
          refine Run.q (e := vIv) (gv := vIv) (ok_impl_HullI _ _) fun r42 _ => ?_
          exact Run.x 0
      · refine Run.z [false, false, false, false, false, false, false, false, false, false, false, false] ?_
        refine Run.q (e := vIv) (gv := vIv) (ok_impl_DirectionAt _ _) fun r43 _ => ?_
        refine Run.q (e := vIv) (gv := vIv) (ok_impl_DirectionAt _ _) fun r44 _ => ?_
        refine Run.q (e := vIv) (gv := vIv) (ok_impl_HullI _ _) fun r45 _ => ?_
        refine Run.q (e := vIv) (gv := vIv) (ok_impl_DirectionAt _ _) fun r46 _ => ?_
        refine Run.q (e := vIv) (gv := vIv) (ok_impl_DirectionAt _ _) fun r47 _ => ?_
        refine Run.q (e := vIv) (gv := vIv) (ok_impl_HullI _ _) fun r48 _ => ?_
        refine Run.q (e := vIv) (gv := vIv) (ok_impl_HullI _ _) fun r49 _ => ?_
        exact Run.x 0

theorem ok_impl_knownI (a0 : Iv) : Fun Tryz.prog 76 [] #[vIv a0] (vT_Iv_I (F_impl_knownI a0)) [] := by
  refine Fun.ofH 400 E_ok mixed Tryz.func76 (by kernel_rfl) (by kernel_rfl) ?_
  unfold F_impl_knownI
  refine Run.q (e := vB) (gv := vT_Iv_I) (ok_impl_IsWhole _) fun r1 _ => ?_
  refine Run.y (gv := vT_Iv_I) (fun _ => ?_) (fun _ => ?_)
  · exact Run.x 0
  · exact Run.x 0

theorem ok_impl_PositionOf (a0 : Vc) : Fun Tryz.prog 160 [] #[vVc a0] (vT_Iv_Iv_I (F_impl_PositionOf a0)) [] := by
  refine Fun.ofH 400 E_ok mixed Tryz.func160 (by kernel_rfl) (by kernel_rfl) ?_
  unfold F_impl_PositionOf
  refine Run.q (e := vIv) (gv := vT_Iv_Iv_I) (ok_impl_fromAxis _) fun r1 _ => ?_
  refine Run.q (e := vIv) (gv := vT_Iv_Iv_I) (ok_impl_DirectionI _ _) fun r2 _ => ?_
  refine Run.q (e := vT_Iv_I) (gv := vT_Iv_Iv_I) (ok_impl_knownI _) fun r3 _ => ?_
  refine Run.y (gv := vT_Iv_Iv_I) (fun _ => ?_) (fun _ => ?_)
  · exact Run.x 0
  · refine Run.q (e := vIv) (gv := vT_Iv_Iv_I) (ok_impl_DirectionI _ _) fun r4 _ => ?_
    exact Run.x 0

theorem ok_impl_GlobalOf (a0 : Pj) (a1 : Vc) : Fun Tryz.prog 60 [] #[vPj a0, vVc a1] (vT_Iv_Iv_I (F_impl_GlobalOf a0 a1)) [] := by
  refine Fun.ofH 400 E_ok mixed Tryz.func60 (by kernel_rfl) (by kernel_rfl) ?_
  unfold F_impl_GlobalOf
  refine Run.q (e := vB) (gv := vT_Iv_Iv_I) (ok_impl_isAzimuthalOne _) fun r1 _ => ?_
  refine Run.y (gv := vT_Iv_Iv_I) (fun _ => ?_) (fun _ => ?_)
  · exact Run.x 0
  · refine Run.q (e := vPt) (gv := vT_Iv_Iv_I) (ok_impl_Projection_centre _) fun r2 _ => ?_
    refine Run.q (e := vIv) (gv := vT_Iv_Iv_I) (ok_impl_LatOf _) fun r3 _ => ?_
    refine Run.q (e := vIv) (gv := vT_Iv_Iv_I) (ok_impl_CosI _) fun r4 _ => ?_
    refine Run.q (e := vIv) (gv := vT_Iv_Iv_I) (ok_impl_MulI _ _) fun r5 _ => ?_
    refine Run.q (e := vIv) (gv := vT_Iv_Iv_I) (ok_impl_SinI _) fun r6 _ => ?_
    refine Run.q (e := vIv) (gv := vT_Iv_Iv_I) (ok_impl_MulI _ _) fun r7 _ => ?_
    refine Run.q (e := vIv) (gv := vT_Iv_Iv_I) (ok_impl_SubI _ _) fun r8 _ => ?_
    refine Run.q (e := vIv) (gv := vT_Iv_Iv_I) (ok_impl_SinI _) fun r9 _ => ?_
    refine Run.q (e := vIv) (gv := vT_Iv_Iv_I) (ok_impl_MulI _ _) fun r10 _ => ?_
    refine Run.q (e := vIv) (gv := vT_Iv_Iv_I) (ok_impl_CosI _) fun r11 _ => ?_
    refine Run.q (e := vIv) (gv := vT_Iv_Iv_I) (ok_impl_MulI _ _) fun r12 _ => ?_
    refine Run.q (e := vIv) (gv := vT_Iv_Iv_I) (ok_impl_AddI _ _) fun r13 _ => ?_
    refine Run.q (e := vT_Iv_Iv_I) (gv := vT_Iv_Iv_I) (ok_impl_PositionOf _) fun r14 _ => ?_
    refine Run.y (gv := vT_Iv_Iv_I) (fun _ => ?_) (fun _ => ?_)
    · exact Run.x 0
    · refine Run.q (e := vIv) (gv := vT_Iv_Iv_I) (ok_impl_RadiansOf _) fun r15 _ => ?_
      refine Run.q (e := vIv) (gv := vT_Iv_Iv_I) (ok_impl_AddI _ _) fun r16 _ => ?_
      exact Run.x 0

theorem ok_impl_AzimuthalInverse (a0 : Pj) (a1 : Pn) : Fun Tryz.prog 23 [] #[vPj a0, vPn a1] (vT_Iv_Iv_I (F_impl_AzimuthalInverse a0 a1)) [] := by
  refine Fun.ofH 400 E_ok mixed Tryz.func23 (by kernel_rfl) (by kernel_rfl) ?_
  unfold F_impl_AzimuthalInverse
  refine Run.q (e := vB) (gv := vT_Iv_Iv_I) (ok_impl_isAzimuthalOne _) fun r1 _ => ?_
  refine Run.y (gv := vT_Iv_Iv_I) (fun _ => ?_) (fun _ => ?_)
  · exact Run.x 0
  · refine Run.q (e := vIv) (gv := vT_Iv_Iv_I) (ok_impl_fromAxis _) fun r2 _ => ?_
    refine Run.q (e := vT_Iv_B) (gv := vT_Iv_Iv_I) (ok_impl_greatestRadius _) fun r3 _ => ?_
    refine Run.y (gv := vT_Iv_Iv_I) (fun _ => ?_) (fun _ => ?_)
    · refine Run.z [true, true] ?_
      refine Run.q (e := vI) (gv := vT_Iv_Iv_I) (ok_impl_LessI _ _) fun r4 _ => ?_
      refine Run.z [true, true] ?_
      refine Run.y (gv := vT_Iv_Iv_I) (fun _ => ?_) (fun _ => ?_)
      · exact Run.x 0
      · refine Run.q (e := vT_Iv_Iv) (gv := vT_Iv_Iv_I) (ok_impl_inverseFactors _ _) fun r5 _ => ?_
        refine Run.q (e := vIv) (gv := vT_Iv_Iv_I) (ok_impl_MulI _ _) fun r6 _ => ?_
        refine Run.q (e := vIv) (gv := vT_Iv_Iv_I) (ok_impl_MulI _ _) fun r7 _ => ?_
        refine Run.q (e := vT_Iv_Iv_I) (gv := vT_Iv_Iv_I) (ok_impl_GlobalOf _ _) fun r8 _ => ?_
        exact Run.x 0
    · refine Run.z [false, false, false, false, false] ?_
      refine Run.q (e := vT_Iv_Iv) (gv := vT_Iv_Iv_I) (ok_impl_inverseFactors _ _) fun r9 _ => ?_
      refine Run.q (e := vIv) (gv := vT_Iv_Iv_I) (ok_impl_MulI _ _) fun r10 _ => ?_
      refine Run.q (e := vIv) (gv := vT_Iv_Iv_I) (ok_impl_MulI _ _) fun r11 _ => ?_
      refine Run.q (e := vT_Iv_Iv_I) (gv := vT_Iv_Iv_I) (ok_impl_GlobalOf _ _) fun r12 _ => ?_
      exact Run.x 0

theorem ok_impl_twosOf_L1 : ∀ (fu : Nat) (a0 : I64) (x_e : I64) (q0 : 1 ≤ a0.val) (q1 : a0.val ≤ 1152921504606846976) (q2 : -1000 ≤ x_e.val) (q3 : x_e.val ≤ 0 → a0.val * 2 ^ (0 - x_e.val).toNat < 6442450944) (hm : (64 + x_e.val).toNat < fu) (t : Array Value) (ht : maskA t [1, 4, 5, 6, 7, 8, 9, 10, 11, 12, 13, 14, 15, 16, 17, 18, 19, 20, 21] = #[.int .i64 a0.val, undef, .int .i64 0, .int .i64 x_e.val, undef, undef, undef, undef, undef, undef, undef, undef, undef, undef, undef, undef, undef, undef, undef, undef, undef, undef]), Cfg Tryz.prog 287 (loopAt Tryz.f287 1) t [] (RvH [] (vI (F_impl_twosOf_L1 fu a0 x_e))) := by
  intro fu
  induction fu with
  | zero => intro a0 x_e q0 q1 q2 q3 hm; exact absurd hm (Nat.not_lt_zero _)
  | succ fu ih =>
    intro a0 x_e q0 q1 q2 q3 hm t ht
    refine Cfg.round E_ok mixed Tryz.func287 ht fun g => ?_
    unfold F_impl_twosOf_L1
    refine Run.y (gv := vI) (fun h2 => ?_) (fun h2 => ?_)
    · refine Run.z [true, true, true] ?_
      refine Run.k (c := (decide (0 ≤ (w64 (0 - x_e.val)).val))) (by kernel_rfl) (by first | exact decide_eq_true (by omega) | (simp only [w64_val, decide_eq_true_eq] at *; omega)) ?_
      refine Run.z [true, true] ?_
      refine Run.y (gv := vI) (fun h3 => ?_) (fun h3 => ?_)
      · exact Run.l (by kernel_rfl) (by kernel_rfl) (by kernel_rfl) (by kernel_rfl) (ih a0 (w64 (x_e.val - 1)) (by first | exact q0 | exact q1 | exact Nat.lt_succ_self _ | (have z := two_less a0 x_e q0 q3 h2 h3; first | exact z.2.2 | (simp only [w64_val]; omega))) (by first | exact q0 | exact q1 | exact Nat.lt_succ_self _ | (have z := two_less a0 x_e q0 q3 h2 h3; first | exact z.2.2 | (simp only [w64_val]; omega))) (by first | exact q0 | exact q1 | exact Nat.lt_succ_self _ | (have z := two_less a0 x_e q0 q3 h2 h3; first | exact z.2.2 | (simp only [w64_val]; omega))) (by first | exact q0 | exact q1 | exact Nat.lt_succ_self _ | (have z := two_less a0 x_e q0 q3 h2 h3; first | exact z.2.2 | (simp only [w64_val]; omega))) (by first | exact q0 | exact q1 | exact Nat.lt_succ_self _ | (have z := two_less a0 x_e q0 q3 h2 h3; first | exact z.2.2 | (simp only [w64_val]; omega))))
      · exact Run.x 0
    · refine Run.z [false, false, false, false, false, false] ?_
      exact Run.x 0

theorem ok_impl_twosOf_L0 : ∀ (fu : Nat) (a0 : I64) (x_e : I64) (q0 : 1 ≤ a0.val) (q1 : a0.val ≤ 1152921504606846976) (q2 : 0 ≤ x_e.val ∧ x_e.val ≤ 40) (hm : (64 - x_e.val).toNat < fu) (t : Array Value) (ht : maskA t [1, 4, 5, 6, 7, 8, 9, 10, 11, 12, 13, 14, 15, 16, 17, 18, 19, 20, 21] = #[.int .i64 a0.val, undef, .int .i64 0, .int .i64 x_e.val, undef, undef, undef, undef, undef, undef, undef, undef, undef, undef, undef, undef, undef, undef, undef, undef, undef, undef]), Cfg Tryz.prog 287 (loopAt Tryz.f287 0) t [] (RvH [] (vI (F_impl_twosOf_L0 fu a0 x_e))) := by
  intro fu
  induction fu with
  | zero => intro a0 x_e q0 q1 q2 hm; exact absurd hm (Nat.not_lt_zero _)
  | succ fu ih =>
    intro a0 x_e q0 q1 q2 hm t ht
    refine Cfg.round E_ok mixed Tryz.func287 ht fun g => ?_
    unfold F_impl_twosOf_L0
    refine Run.k (c := (decide (0 ≤ x_e.val))) (by kernel_rfl) (by first | exact decide_eq_true (by omega) | (simp only [w64_val, decide_eq_true_eq] at *; omega)) ?_
    refine Run.y (gv := vI) (fun h1 => ?_) (fun h1 => ?_)
    · exact Run.l (by kernel_rfl) (by kernel_rfl) (by kernel_rfl) (by kernel_rfl) (ih a0 (w64 (x_e.val + 1)) (by first | exact q0 | exact q1 | exact Nat.lt_succ_self _ | exact two_exit a0 x_e q2.1 h1 | (have z := shr_big a0 x_e q1 q2.1 h1; simp only [w64_val]; omega)) (by first | exact q0 | exact q1 | exact Nat.lt_succ_self _ | exact two_exit a0 x_e q2.1 h1 | (have z := shr_big a0 x_e q1 q2.1 h1; simp only [w64_val]; omega)) (by first | exact q0 | exact q1 | exact Nat.lt_succ_self _ | exact two_exit a0 x_e q2.1 h1 | (have z := shr_big a0 x_e q1 q2.1 h1; simp only [w64_val]; omega)) (by first | exact q0 | exact q1 | exact Nat.lt_succ_self _ | exact two_exit a0 x_e q2.1 h1 | (have z := shr_big a0 x_e q1 q2.1 h1; simp only [w64_val]; omega)))
    · exact Run.l (by kernel_rfl) (by kernel_rfl) (by kernel_rfl) (by kernel_rfl) (ok_impl_twosOf_L1 ((64 + x_e.val).toNat + 1) a0 x_e (by first | exact q0 | exact q1 | exact Nat.lt_succ_self _ | exact two_exit a0 x_e q2.1 h1 | omega) (by first | exact q0 | exact q1 | exact Nat.lt_succ_self _ | exact two_exit a0 x_e q2.1 h1 | omega) (by first | exact q0 | exact q1 | exact Nat.lt_succ_self _ | exact two_exit a0 x_e q2.1 h1 | omega) (by first | exact q0 | exact q1 | exact Nat.lt_succ_self _ | exact two_exit a0 x_e q2.1 h1 | omega) (by first | exact q0 | exact q1 | exact Nat.lt_succ_self _ | exact two_exit a0 x_e q2.1 h1 | omega))

theorem ok_impl_twosOf (a0 : I64) (p0 : 1 ≤ a0.val) (p1 : a0.val ≤ 1152921504606846976) : Fun Tryz.prog 287 [] #[vI a0] (vI (F_impl_twosOf a0)) [] := by
  refine Fun.ofH 400 E_ok mixed Tryz.func287 (by kernel_rfl) (by kernel_rfl) ?_
  unfold F_impl_twosOf
  exact Run.l (by kernel_rfl) (by kernel_rfl) (by kernel_rfl) (by kernel_rfl) (ok_impl_twosOf_L0 ((64 - (c64 0).val).toNat + 1) a0 (c64 0) (by first | exact p0 | exact p1 | exact ⟨by decide, by decide⟩ | exact Nat.lt_succ_self _) (by first | exact p0 | exact p1 | exact ⟨by decide, by decide⟩ | exact Nat.lt_succ_self _) (by first | exact p0 | exact p1 | exact ⟨by decide, by decide⟩ | exact Nat.lt_succ_self _) (by first | exact p0 | exact p1 | exact ⟨by decide, by decide⟩ | exact Nat.lt_succ_self _))

theorem ok_impl_LogAt (a0 : I64) : Fun Tryz.prog 240 [] #[vI a0] (vIv (F_impl_LogAt a0)) [] := by
  refine Fun.ofH 400 E_ok mixed Tryz.func240 (by kernel_rfl) (by kernel_rfl) ?_
  unfold F_impl_LogAt
  refine Run.q (e := vB) (gv := vIv) (ok_impl_ValidFix _) fun r1 hr1 => ?_
  refine Run.y (gv := vIv) (fun h2 => ?_) (fun h2 => ?_)
  · refine Run.z [true, true, true] ?_
    refine Run.q (e := vIv) (gv := vIv) (ok_impl_Whole) fun r3 hr3 => ?_
    exact Run.x 0
  · refine Run.z [false, false] ?_
    refine Run.y (gv := vIv) (fun h4 => ?_) (fun h4 => ?_)
    · refine Run.q (e := vIv) (gv := vIv) (ok_impl_Whole) fun r5 hr5 => ?_
      exact Run.x 0
    · refine Run.q (e := vI) (gv := vIv) (ok_impl_twosOf _ (by first | (have z := validfix_p hr1 h2; simp only [decide_eq_false_iff_not] at h4; omega) | (simp only [decide_eq_true_eq] at h8 ⊢; omega) | (have z := twosOf_b a0; rw [← hr6] at z; simp only [decide_eq_false_iff_not] at h8; simp only [w64_val, decide_eq_true_eq]; omega)) (by first | (have z := validfix_p hr1 h2; simp only [decide_eq_false_iff_not] at h4; omega) | (simp only [decide_eq_true_eq] at h8 ⊢; omega) | (have z := twosOf_b a0; rw [← hr6] at z; simp only [decide_eq_false_iff_not] at h8; simp only [w64_val, decide_eq_true_eq]; omega))) fun r6 hr6 => ?_
      refine Run.q (e := vIv) (gv := vIv) (ok_impl_at _) fun r7 hr7 => ?_
      refine Run.y (gv := vIv) (fun h8 => ?_) (fun h8 => ?_)
      · refine Run.k (c := (decide (0 ≤ r6.val))) (by kernel_rfl) (by first | (have z := validfix_p hr1 h2; simp only [decide_eq_false_iff_not] at h4; omega) | (simp only [decide_eq_true_eq] at h8 ⊢; omega) | (have z := twosOf_b a0; rw [← hr6] at z; simp only [decide_eq_false_iff_not] at h8; simp only [w64_val, decide_eq_true_eq]; omega)) ?_
        refine Run.k (c := (decide (0 ≤ r6.val))) (by kernel_rfl) (by first | (have z := validfix_p hr1 h2; simp only [decide_eq_false_iff_not] at h4; omega) | (simp only [decide_eq_true_eq] at h8 ⊢; omega) | (have z := twosOf_b a0; rw [← hr6] at z; simp only [decide_eq_false_iff_not] at h8; simp only [w64_val, decide_eq_true_eq]; omega)) ?_
        refine Run.q (e := vIv) (gv := vIv) (ok_impl_Integer _) fun r9 hr9 => ?_
        refine Run.q (e := vIv) (gv := vIv) (ok_impl_SubI _ _) fun r10 hr10 => ?_
        refine Run.q (e := vIv) (gv := vIv) (ok_impl_Integer _) fun r11 hr11 => ?_
        refine Run.q (e := vIv) (gv := vIv) (ok_impl_AddI _ _) fun r12 hr12 => ?_
        refine Run.q (e := vIv) (gv := vIv) (ok_impl_DivI _ _) fun r13 hr13 => ?_
        refine Run.q (e := vIv) (gv := vIv) (ok_impl_SqrI _) fun r14 hr14 => ?_
        refine Run.q (e := vIv) (gv := vIv) (ok_impl_Quotient _ _) fun r15 hr15 => ?_
        refine Run.u 400 E_ok mixed Tryz.func240 ?_
        refine Run.z [true] ?_
        refine Run.q (e := vIv) (gv := vIv) (ok_impl_Quotient _ _) fun r16 hr16 => ?_
        refine Run.q (e := vIv) (gv := vIv) (ok_impl_MulI _ _) fun r17 hr17 => ?_
        refine Run.q (e := vIv) (gv := vIv) (ok_impl_AddI _ _) fun r18 hr18 => ?_
        refine Run.u 400 E_ok mixed Tryz.func240 ?_
        refine Run.z [true] ?_
        refine Run.q (e := vIv) (gv := vIv) (ok_impl_Quotient _ _) fun r19 hr19 => ?_
        refine Run.q (e := vIv) (gv := vIv) (ok_impl_MulI _ _) fun r20 hr20 => ?_
        refine Run.q (e := vIv) (gv := vIv) (ok_impl_AddI _ _) fun r21 hr21 => ?_
        refine Run.u 400 E_ok mixed Tryz.func240 ?_
        refine Run.z [true] ?_
        refine Run.q (e := vIv) (gv := vIv) (ok_impl_Quotient _ _) fun r22 hr22 => ?_
        refine Run.q (e := vIv) (gv := vIv) (ok_impl_MulI _ _) fun r23 hr23 => ?_
        refine Run.q (e := vIv) (gv := vIv) (ok_impl_AddI _ _) fun r24 hr24 => ?_
        refine Run.u 400 E_ok mixed Tryz.func240 ?_
        refine Run.z [true] ?_
        refine Run.q (e := vIv) (gv := vIv) (ok_impl_Quotient _ _) fun r25 hr25 => ?_
        refine Run.q (e := vIv) (gv := vIv) (ok_impl_MulI _ _) fun r26 hr26 => ?_
        refine Run.q (e := vIv) (gv := vIv) (ok_impl_AddI _ _) fun r27 hr27 => ?_
        refine Run.u 400 E_ok mixed Tryz.func240 ?_
        refine Run.z [true] ?_
        refine Run.q (e := vIv) (gv := vIv) (ok_impl_Quotient _ _) fun r28 hr28 => ?_
        refine Run.q (e := vIv) (gv := vIv) (ok_impl_MulI _ _) fun r29 hr29 => ?_
        refine Run.q (e := vIv) (gv := vIv) (ok_impl_AddI _ _) fun r30 hr30 => ?_
        refine Run.u 400 E_ok mixed Tryz.func240 ?_
        refine Run.z [false] ?_
        refine Run.q (e := vIv) (gv := vIv) (ok_impl_LogTwoI _) fun r31 hr31 => ?_
        refine Run.q (e := vIv) (gv := vIv) (ok_impl_Integer _) fun r32 hr32 => ?_
        refine Run.q (e := vIv) (gv := vIv) (ok_impl_MulI _ _) fun r33 hr33 => ?_
        refine Run.q (e := vIv) (gv := vIv) (ok_impl_MulI _ _) fun r34 hr34 => ?_
        refine Run.q (e := vIv) (gv := vIv) (ok_impl_widened _ _) fun r35 hr35 => ?_
        refine Run.q (e := vIv) (gv := vIv) (ok_impl_AddI _ _) fun r36 hr36 => ?_
        exact Run.x 0
      · refine Run.k (c := (decide (0 ≤ (w64 (0 - r6.val)).val))) (by kernel_rfl) (by first | (have z := validfix_p hr1 h2; simp only [decide_eq_false_iff_not] at h4; omega) | (simp only [decide_eq_true_eq] at h8 ⊢; omega) | (have z := twosOf_b a0; rw [← hr6] at z; simp only [decide_eq_false_iff_not] at h8; simp only [w64_val, decide_eq_true_eq]; omega)) ?_
        refine Run.q (e := vIv) (gv := vIv) (ok_impl_at _) fun r37 hr37 => ?_
        refine Run.q (e := vIv) (gv := vIv) (ok_impl_Integer _) fun r38 hr38 => ?_
        refine Run.q (e := vIv) (gv := vIv) (ok_impl_SubI _ _) fun r39 hr39 => ?_
        refine Run.q (e := vIv) (gv := vIv) (ok_impl_Integer _) fun r40 hr40 => ?_
        refine Run.q (e := vIv) (gv := vIv) (ok_impl_AddI _ _) fun r41 hr41 => ?_
        refine Run.q (e := vIv) (gv := vIv) (ok_impl_DivI _ _) fun r42 hr42 => ?_
        refine Run.q (e := vIv) (gv := vIv) (ok_impl_SqrI _) fun r43 hr43 => ?_
        refine Run.q (e := vIv) (gv := vIv) (ok_impl_Quotient _ _) fun r44 hr44 => ?_
        refine Run.u 400 E_ok mixed Tryz.func240 ?_
        refine Run.z [true] ?_
        refine Run.q (e := vIv) (gv := vIv) (ok_impl_Quotient _ _) fun r45 hr45 => ?_
        refine Run.q (e := vIv) (gv := vIv) (ok_impl_MulI _ _) fun r46 hr46 => ?_
        refine Run.q (e := vIv) (gv := vIv) (ok_impl_AddI _ _) fun r47 hr47 => ?_
        refine Run.u 400 E_ok mixed Tryz.func240 ?_
        refine Run.z [true] ?_
        refine Run.q (e := vIv) (gv := vIv) (ok_impl_Quotient _ _) fun r48 hr48 => ?_
        refine Run.q (e := vIv) (gv := vIv) (ok_impl_MulI _ _) fun r49 hr49 => ?_
        refine Run.q (e := vIv) (gv := vIv) (ok_impl_AddI _ _) fun r50 hr50 => ?_
        refine Run.u 400 E_ok mixed Tryz.func240 ?_
        refine Run.z [true] ?_
        refine Run.q (e := vIv) (gv := vIv) (ok_impl_Quotient _ _) fun r51 hr51 => ?_
        refine Run.q (e := vIv) (gv := vIv) (ok_impl_MulI _ _) fun r52 hr52 => ?_
        refine Run.q (e := vIv) (gv := vIv) (ok_impl_AddI _ _) fun r53 hr53 => ?_
        refine Run.u 400 E_ok mixed Tryz.func240 ?_
        refine Run.z [true] ?_
        refine Run.q (e := vIv) (gv := vIv) (ok_impl_Quotient _ _) fun r54 hr54 => ?_
        refine Run.q (e := vIv) (gv := vIv) (ok_impl_MulI _ _) fun r55 hr55 => ?_
        refine Run.q (e := vIv) (gv := vIv) (ok_impl_AddI _ _) fun r56 hr56 => ?_
        refine Run.u 400 E_ok mixed Tryz.func240 ?_
        refine Run.z [true] ?_
        refine Run.q (e := vIv) (gv := vIv) (ok_impl_Quotient _ _) fun r57 hr57 => ?_
        refine Run.q (e := vIv) (gv := vIv) (ok_impl_MulI _ _) fun r58 hr58 => ?_
        refine Run.q (e := vIv) (gv := vIv) (ok_impl_AddI _ _) fun r59 hr59 => ?_
        refine Run.u 400 E_ok mixed Tryz.func240 ?_
        refine Run.z [false] ?_
        refine Run.q (e := vIv) (gv := vIv) (ok_impl_LogTwoI _) fun r60 hr60 => ?_
        refine Run.q (e := vIv) (gv := vIv) (ok_impl_Integer _) fun r61 hr61 => ?_
        refine Run.q (e := vIv) (gv := vIv) (ok_impl_MulI _ _) fun r62 hr62 => ?_
        refine Run.q (e := vIv) (gv := vIv) (ok_impl_MulI _ _) fun r63 hr63 => ?_
        refine Run.q (e := vIv) (gv := vIv) (ok_impl_widened _ _) fun r64 hr64 => ?_
        refine Run.q (e := vIv) (gv := vIv) (ok_impl_AddI _ _) fun r65 hr65 => ?_
        exact Run.x 0

theorem ok_impl_monotonic__impl_LogAt (a0 : Iv) : Fun Tryz.prog 138 [] #[vIv a0, .func (.func 240) #[] #[]] (vIv (F_impl_monotonic__impl_LogAt a0)) [] := by
  refine Fun.ofH 400 E_ok mixed Tryz.func138 (by kernel_rfl) (by kernel_rfl) ?_
  unfold F_impl_monotonic__impl_LogAt
  refine Run.q (e := vB) (gv := vIv) (ok_impl_IsWhole _) fun r1 _ => ?_
  refine Run.y (gv := vIv) (fun _ => ?_) (fun _ => ?_)
  · refine Run.q (e := vIv) (gv := vIv) (ok_impl_Whole) fun r2 _ => ?_
    exact Run.x 0
  · refine Run.q (e := vIv) (gv := vIv) (ok_impl_LogAt _) fun r3 _ => ?_
    refine Run.q (e := vIv) (gv := vIv) (ok_impl_LogAt _) fun r4 _ => ?_
    refine Run.q (e := vB) (gv := vIv) (ok_impl_areBounded _ _) fun r5 _ => ?_
    refine Run.y (gv := vIv) (fun _ => ?_) (fun _ => ?_)
    · refine Run.q (e := vIv) (gv := vIv) (ok_impl_Whole) fun r6 _ => ?_
      exact Run.x 0
    · refine Run.q (e := vIv) (gv := vIv) (ok_impl_bounded _ _ _) fun r7 _ => ?_
      exact Run.x 0

theorem ok_impl_LogI (a0 : Iv) : Fun Tryz.prog 169 [] #[vIv a0] (vIv (F_impl_LogI a0)) [] := by
  refine Fun.ofH 400 E_ok mixed Tryz.func169 (by kernel_rfl) (by kernel_rfl) ?_
  unfold F_impl_LogI
  refine Run.q (e := vIv) (gv := vIv) (ok_impl_monotonic__impl_LogAt _) fun r1 _ => ?_
  exact Run.x 0

theorem ok_impl_SinAt (a0 : I64) : Fun Tryz.prog 285 [] #[vI a0] (vIv (F_impl_SinAt a0)) [] := by
  refine Fun.ofH 400 E_ok mixed Tryz.func285 (by kernel_rfl) (by kernel_rfl) ?_
  unfold F_impl_SinAt
  refine Run.q (e := vIv) (gv := vIv) (ok_impl_circleValue _ _) fun r1 _ => ?_
  exact Run.x 0

theorem ok_impl_CosAt (a0 : I64) : Fun Tryz.prog 286 [] #[vI a0] (vIv (F_impl_CosAt a0)) [] := by
  refine Fun.ofH 400 E_ok mixed Tryz.func286 (by kernel_rfl) (by kernel_rfl) ?_
  unfold F_impl_CosAt
  refine Run.q (e := vIv) (gv := vIv) (ok_impl_circleValue _ _) fun r1 _ => ?_
  exact Run.x 0

theorem ok_impl_TanI_L0 : ∀ (fu : Nat) (cp_r4 : Nat) (pd_r4 : List Value) (r4 : List I64) (a0 : Iv) (x_12 : I64) (y_1 : Iv) (q0 : 0 ≤ x_12.val) (q1 : ((r4.length : Nat) : Int) ≤ 4000) (hm : (((r4.length : Nat) : Int) - x_12.val).toNat < fu) (t : Array Value) (ht : maskA t [0, 3, 4, 5, 6, 7, 8, 9, 13, 14, 15, 16, 17, 18, 19, 20, 21, 22, 23, 24, 25, 26, 27, 28, 29, 30, 31, 32, 33, 34, 35] = #[undef, .pointer (some ⟨0, 0, none⟩), .pointer (some ⟨1, 0, none⟩), undef, undef, undef, undef, undef, undef, undef, .slice (some ⟨2, 0, some 0⟩) r4.length cp_r4, .int .i64 (((r4.length : Nat) : Int)), .int .i64 x_12.val, undef, undef, undef, undef, undef, undef, undef, undef, undef, undef, undef, undef, undef, undef, undef, undef, undef, undef, undef, undef, undef, undef, undef]), Cfg Tryz.prog 238 (loopAt Tryz.f238 0) t [(#[.int .i64 a0.lo.val, .int .i64 a0.hi.val], 34), (#[.int .i64 y_1.lo.val, .int .i64 y_1.hi.val], 34), (rowOf r4 pd_r4, 2)] (RvH [] (vIv (F_impl_TanI_L0 fu r4 a0 x_12 y_1))) := by
  intro fu
  induction fu with
  | zero => intro cp_r4 pd_r4 r4 a0 x_12 y_1 q0 q1 hm; exact absurd hm (Nat.not_lt_zero _)
  | succ fu ih =>
    intro cp_r4 pd_r4 r4 a0 x_12 y_1 q0 q1 hm t ht
    refine Cfg.round E_ok mixed Tryz.func238 ht fun g => ?_
    unfold F_impl_TanI_L0
    refine Run.y (gv := vIv) (fun h5 => ?_) (fun h5 => ?_)
    · refine Run.k (c := (decide (0 ≤ x_12.val ∧ x_12.val < ((r4.length : Nat) : Int)))) (by kernel_rfl) (by simp only [w64_val, wu64_val, c64_val, cu64_val, decide_eq_true_eq, decide_eq_false_iff_not, cond_true, cond_false] at *; omega) ?_
      refine Run.ld (by kernel_rfl) (listAt_ok (L := r4) (pad := pd_r4) (i := x_12) (by simp only [w64_val, wu64_val, c64_val, cu64_val, decide_eq_true_eq, decide_eq_false_iff_not, cond_true, cond_false] at *; omega)) ?_
      refine Run.y (gv := vIv) (fun h6 => ?_) (fun h6 => ?_)
      · refine Run.q (e := vIv) (gv := vIv) (ok_impl_Whole) fun r7 hr7 => ?_
        exact Run.x 0
      · exact Run.l (by kernel_rfl) (by kernel_rfl) (by kernel_rfl) (by kernel_rfl) (ih cp_r4 pd_r4 r4 a0 (w64 (x_12.val + 1)) y_1 (by first | omega | (simp only [w64_val, wu64_val, c64_val, cu64_val, decide_eq_true_eq, decide_eq_false_iff_not, cond_true, cond_false] at *; omega)) (by first | omega | (simp only [w64_val, wu64_val, c64_val, cu64_val, decide_eq_true_eq, decide_eq_false_iff_not, cond_true, cond_false] at *; omega)) (by first | omega | (simp only [w64_val, wu64_val, c64_val, cu64_val, decide_eq_true_eq, decide_eq_false_iff_not, cond_true, cond_false] at *; omega)))
    · refine Run.q (e := vIv) (gv := vIv) (ok_impl_SinAt _) fun r8 hr8 => ?_
      refine Run.q (e := vIv) (gv := vIv) (ok_impl_CosAt _) fun r9 hr9 => ?_
      refine Run.q (e := vIv) (gv := vIv) (ok_impl_DivI _ _) fun r10 hr10 => ?_
      refine Run.q (e := vIv) (gv := vIv) (ok_impl_SinAt _) fun r11 hr11 => ?_
      refine Run.q (e := vIv) (gv := vIv) (ok_impl_CosAt _) fun r12 hr12 => ?_
      refine Run.q (e := vIv) (gv := vIv) (ok_impl_DivI _ _) fun r13 hr13 => ?_
      refine Run.q (e := vIv) (gv := vIv) (ok_impl_HullI _ _) fun r14 hr14 => ?_
      exact Run.x 0

theorem ok_impl_TanI (a0 : Iv) : Fun Tryz.prog 238 [] #[vIv a0] (vIv (F_impl_TanI a0)) [] := by
  refine Fun.ofH 400 E_ok mixed Tryz.func238 (by kernel_rfl) (by kernel_rfl) ?_
  unfold F_impl_TanI
  refine Run.q (e := vB) (gv := vIv) (ok_impl_areAngles _) fun r1 hr1 => ?_
  refine Run.y (gv := vIv) (fun h2 => ?_) (fun h2 => ?_)
  · refine Run.q (e := vIv) (gv := vIv) (ok_impl_Whole) fun r3 hr3 => ?_
    exact Run.x 0
  · refine Run.bl (gv := vIv) (by kernel_rfl) (by kernel_rfl) (ok_impl_turnsIn _) (by kernel_rfl) (fun r4 hr4 nr4 => ?_) (fun r4 hr4 cp_r4 pd_r4 => ?_)
    · subst nr4
      have e0 : F_impl_TanI_L0 (((([] : List I64).length : Nat) : Int).toNat + 1) ([] : List I64) a0 (c64 0) (⟨(c64 0), (c64 0)⟩ : Iv) = bindP (F_impl_SinAt a0.lo) fun r15 => bindP (F_impl_CosAt a0.lo) fun r16 => bindP (F_impl_DivI r15 r16) fun r17 => bindP (F_impl_SinAt a0.hi) fun r18 => bindP (F_impl_CosAt a0.hi) fun r19 => bindP (F_impl_DivI r18 r19) fun r20 => bindP (F_impl_HullI r17 r20) fun r21 => r21 := by rw [F_impl_TanI_L0]; exact cond_false _ _
      show Run _ _ (RvH [] (vIv (F_impl_TanI_L0 (((([] : List I64).length : Nat) : Int).toNat + 1) ([] : List I64) a0 (c64 0) (⟨(c64 0), (c64 0)⟩ : Iv)))) _
      rw [e0]
      refine Run.u 400 E_ok mixed Tryz.func238 ?_
      refine Run.z [false] ?_
      refine Run.q (e := vIv) (gv := vIv) (ok_impl_SinAt _) fun r15 hr15 => ?_
      refine Run.q (e := vIv) (gv := vIv) (ok_impl_CosAt _) fun r16 hr16 => ?_
      refine Run.q (e := vIv) (gv := vIv) (ok_impl_DivI _ _) fun r17 hr17 => ?_
      refine Run.q (e := vIv) (gv := vIv) (ok_impl_SinAt _) fun r18 hr18 => ?_
      refine Run.q (e := vIv) (gv := vIv) (ok_impl_CosAt _) fun r19 hr19 => ?_
      refine Run.q (e := vIv) (gv := vIv) (ok_impl_DivI _ _) fun r20 hr20 => ?_
      refine Run.q (e := vIv) (gv := vIv) (ok_impl_HullI _ _) fun r21 hr21 => ?_
      exact Run.x 0
    · have hl_r4 : ((r4.length : Nat) : Int) ≤ 4000 := by rw [hr4]; exact Int.ofNat_le.2 (len_impl_turnsIn _)
      exact Run.l (by kernel_rfl) (by kernel_rfl) (by kernel_rfl) (by kernel_rfl) (ok_impl_TanI_L0 (((r4.length : Nat) : Int).toNat + 1) cp_r4 pd_r4 r4 a0 (c64 0) (⟨(c64 0), (c64 0)⟩ : Iv) (by first | omega | (simp only [w64_val, wu64_val, c64_val, cu64_val, decide_eq_true_eq, decide_eq_false_iff_not, cond_true, cond_false] at *; omega)) (by first | omega | (simp only [w64_val, wu64_val, c64_val, cu64_val, decide_eq_true_eq, decide_eq_false_iff_not, cond_true, cond_false] at *; omega)) (by first | omega | (simp only [w64_val, wu64_val, c64_val, cu64_val, decide_eq_true_eq, decide_eq_false_iff_not, cond_true, cond_false] at *; omega)))

theorem ok_impl_odd (g : FuncId) : Fun Tryz.prog 283 [] #[.func (.func g) #[] #[]] (.func (.func 307) #[] #[.pointer (some ⟨0, 0, none⟩)]) [(#[.func (.func g) #[] #[]], 55)] := by
  refine FunR.fo rfl (FunR.of 400 E_ok mixed Tryz.func283 (by kernel_rfl) ?_)
  exact Run.r (by kernel_rfl) ⟨0, rfl, by kernel_rfl⟩

theorem ok_impl_AsinhI_1 (a0 : I64) : Fun Tryz.prog 284 [] #[vI a0] (vIv (F_impl_AsinhI_1 a0)) [] := by
  refine Fun.ofH 400 E_ok mixed Tryz.func284 (by kernel_rfl) (by kernel_rfl) ?_
  unfold F_impl_AsinhI_1
  refine Run.y (gv := vIv) (fun _ => ?_) (fun _ => ?_)
  · refine Run.q (e := vIv) (gv := vIv) (ok_impl_at _) fun r1 _ => ?_
    refine Run.q (e := vIv) (gv := vIv) (ok_impl_at _) fun r2 _ => ?_
    refine Run.q (e := vIv) (gv := vIv) (ok_impl_SqrI _) fun r3 _ => ?_
    refine Run.q (e := vIv) (gv := vIv) (ok_impl_Integer _) fun r4 _ => ?_
    refine Run.q (e := vIv) (gv := vIv) (ok_impl_AddI _ _) fun r5 _ => ?_
    refine Run.q (e := vIv) (gv := vIv) (ok_impl_SqrtI _) fun r6 _ => ?_
    refine Run.q (e := vIv) (gv := vIv) (ok_impl_AddI _ _) fun r7 _ => ?_
    refine Run.q (e := vIv) (gv := vIv) (ok_impl_LogI _) fun r8 _ => ?_
    exact Run.x 0
  · refine Run.q (e := vIv) (gv := vIv) (ok_impl_LogTwoI _) fun r9 _ => ?_
    refine Run.q (e := vIv) (gv := vIv) (ok_impl_LogAt _) fun r10 _ => ?_
    refine Run.q (e := vIv) (gv := vIv) (ok_impl_AddI _ _) fun r11 _ => ?_
    refine Run.q (e := vIv) (gv := vIv) (ok_impl_AddI _ _) fun r12 _ => ?_
    exact Run.x 0

theorem ok_impl_odd_1__p_impl_AsinhI_1 (a0 : I64) : Fun Tryz.prog 307 [(#[.func (.func 284) #[] #[]], 55)] #[vI a0, .pointer (some ⟨0, 0, none⟩)] (vIv (F_impl_odd_1__p_impl_AsinhI_1 a0)) [(#[.func (.func 284) #[] #[]], 55)] := by
  refine Fun.ofH 400 E_ok mixed Tryz.func307 (by kernel_rfl) (by kernel_rfl) ?_
  unfold F_impl_odd_1__p_impl_AsinhI_1
  refine Run.y (gv := vIv) (fun _ => ?_) (fun _ => ?_)
  · refine Run.q (e := vIv) (gv := vIv) (ok_impl_AsinhI_1 _) fun r1 _ => ?_
    refine Run.q (e := vIv) (gv := vIv) (ok_impl_NegI _) fun r2 _ => ?_
    exact Run.x 1
  · refine Run.q (e := vIv) (gv := vIv) (ok_impl_AsinhI_1 _) fun r3 _ => ?_
    exact Run.x 1

theorem ok_impl_monotonic__impl_odd_1_p_impl_AsinhI_1 (a0 : Iv) : Fun Tryz.prog 138 [(#[.func (.func 284) #[] #[]], 55)] #[vIv a0, .func (.func 307) #[] #[.pointer (some ⟨0, 0, none⟩)]] (vIv (F_impl_monotonic__impl_odd_1_p_impl_AsinhI_1 a0)) [(#[.func (.func 284) #[] #[]], 55)] := by
  refine Fun.ofH 400 E_ok mixed Tryz.func138 (by kernel_rfl) (by kernel_rfl) ?_
  unfold F_impl_monotonic__impl_odd_1_p_impl_AsinhI_1
  refine Run.q (e := vB) (gv := vIv) (ok_impl_IsWhole _) fun r1 _ => ?_
  refine Run.y (gv := vIv) (fun _ => ?_) (fun _ => ?_)
  · refine Run.q (e := vIv) (gv := vIv) (ok_impl_Whole) fun r2 _ => ?_
    exact Run.x 1
  · refine Run.w (e := vIv) (gv := vIv) [0] (ok_impl_odd_1__p_impl_AsinhI_1 _) fun r3 _ => ?_
    refine Run.w (e := vIv) (gv := vIv) [0] (ok_impl_odd_1__p_impl_AsinhI_1 _) fun r4 _ => ?_
    refine Run.q (e := vB) (gv := vIv) (ok_impl_areBounded _ _) fun r5 _ => ?_
    refine Run.y (gv := vIv) (fun _ => ?_) (fun _ => ?_)
    · refine Run.q (e := vIv) (gv := vIv) (ok_impl_Whole) fun r6 _ => ?_
      exact Run.x 1
    · refine Run.q (e := vIv) (gv := vIv) (ok_impl_bounded _ _ _) fun r7 _ => ?_
      exact Run.x 1

theorem ok_impl_AsinhI (a0 : Iv) : Fun Tryz.prog 237 [] #[vIv a0] (vIv (F_impl_AsinhI a0)) [] := by
  refine Fun.ofH 400 E_ok mixed Tryz.func237 (by kernel_rfl) (by kernel_rfl) ?_
  unfold F_impl_AsinhI
  refine Run.o (by kernel_rfl) ?_ ?_
  · refine Run.m (by kernel_rfl) (by kernel_rfl) (ok_impl_odd 284) (by kernel_rfl) (by kernel_rfl) (by kernel_rfl) ?_
    refine Run.w (e := vIv) (gv := vIv) [2] (ok_impl_monotonic__impl_odd_1_p_impl_AsinhI_1 _) fun r1 hr1 => ?_
    exact Run.x 0
  · refine Run.m (by kernel_rfl) (by kernel_rfl) (ok_impl_odd 284) (by kernel_rfl) (by kernel_rfl) (by kernel_rfl) ?_
    refine Run.w (e := vIv) (gv := vIv) [2] (ok_impl_monotonic__impl_odd_1_p_impl_AsinhI_1 _) fun r2 hr2 => ?_
    exact Run.x 0

theorem ok_impl_isometricSphere (a0 : Iv) : Fun Tryz.prog 165 [] #[vIv a0] (vIv (F_impl_isometricSphere a0)) [] := by
  refine Fun.ofH 400 E_ok mixed Tryz.func165 (by kernel_rfl) (by kernel_rfl) ?_
  unfold F_impl_isometricSphere
  refine Run.q (e := vIv) (gv := vIv) (ok_impl_TanI _) fun r1 _ => ?_
  refine Run.q (e := vIv) (gv := vIv) (ok_impl_AsinhI _) fun r2 _ => ?_
  exact Run.x 0

theorem ok_impl_conic_cone__pCn (b0 : Cn) : Fun Tryz.prog 161 [(#[.int .i64 b0.p.kind.val, .int .i64 b0.p.lat0.val, .int .i64 b0.p.lon0.val, .int .i64 b0.p.lat1.val, .int .i64 b0.p.lat2.val, .int .i64 b0.a.lo.val, .int .i64 b0.a.hi.val, .int .i64 b0.b.lo.val, .int .i64 b0.b.hi.val, .int .i64 b0.o.lo.val, .int .i64 b0.o.hi.val, .int .i64 b0.n.lo.val, .int .i64 b0.n.hi.val, .int .i64 b0.g.lo.val, .int .i64 b0.g.hi.val], 74)] #[.pointer (some ⟨0, 0, none⟩)] (vIv (F_impl_conic_cone__pCn b0)) [(#[.int .i64 b0.p.kind.val, .int .i64 b0.p.lat0.val, .int .i64 b0.p.lon0.val, .int .i64 b0.p.lat1.val, .int .i64 b0.p.lat2.val, .int .i64 b0.a.lo.val, .int .i64 b0.a.hi.val, .int .i64 b0.b.lo.val, .int .i64 b0.b.hi.val, .int .i64 b0.o.lo.val, .int .i64 b0.o.hi.val, .int .i64 b0.n.lo.val, .int .i64 b0.n.hi.val, .int .i64 b0.g.lo.val, .int .i64 b0.g.hi.val], 74)] := by
  refine Fun.ofH 400 E_ok mixed Tryz.func161 (by kernel_rfl) (by kernel_rfl) ?_
  unfold F_impl_conic_cone__pCn
  refine Run.y (gv := vIv) (fun _ => ?_) (fun _ => ?_)
  · refine Run.q (e := vIv) (gv := vIv) (ok_impl_SinI _) fun r1 _ => ?_
    refine Run.q (e := vIv) (gv := vIv) (ok_impl_SinI _) fun r2 _ => ?_
    refine Run.q (e := vIv) (gv := vIv) (ok_impl_AddI _ _) fun r3 _ => ?_
    refine Run.q (e := vIv) (gv := vIv) (ok_impl_HalfI _) fun r4 _ => ?_
    exact Run.x 1
  · refine Run.y (gv := vIv) (fun _ => ?_) (fun _ => ?_)
    · refine Run.q (e := vIv) (gv := vIv) (ok_impl_SinI _) fun r5 _ => ?_
      exact Run.x 1
    · refine Run.y (gv := vIv) (fun _ => ?_) (fun _ => ?_)
      · refine Run.q (e := vIv) (gv := vIv) (ok_impl_CosI _) fun r6 _ => ?_
        refine Run.q (e := vIv) (gv := vIv) (ok_impl_LogI _) fun r7 _ => ?_
        refine Run.q (e := vIv) (gv := vIv) (ok_impl_CosI _) fun r8 _ => ?_
        refine Run.q (e := vIv) (gv := vIv) (ok_impl_LogI _) fun r9 _ => ?_
        refine Run.q (e := vIv) (gv := vIv) (ok_impl_SubI _ _) fun r10 _ => ?_
        refine Run.q (e := vIv) (gv := vIv) (ok_impl_isometricSphere _) fun r11 _ => ?_
        refine Run.q (e := vIv) (gv := vIv) (ok_impl_isometricSphere _) fun r12 _ => ?_
        refine Run.q (e := vIv) (gv := vIv) (ok_impl_SubI _ _) fun r13 _ => ?_
        refine Run.q (e := vIv) (gv := vIv) (ok_impl_DivI _ _) fun r14 _ => ?_
        exact Run.x 1
      · refine Run.q (e := vIv) (gv := vIv) (ok_impl_CosI _) fun r15 _ => ?_
        refine Run.q (e := vIv) (gv := vIv) (ok_impl_CosI _) fun r16 _ => ?_
        refine Run.q (e := vIv) (gv := vIv) (ok_impl_SubI _ _) fun r17 _ => ?_
        refine Run.q (e := vIv) (gv := vIv) (ok_impl_SubI _ _) fun r18 _ => ?_
        refine Run.q (e := vIv) (gv := vIv) (ok_impl_DivI _ _) fun r19 _ => ?_
        exact Run.x 1

theorem ok_impl_times (a0 : I64) (a1 : Iv) : Fun Tryz.prog 163 [] #[vI a0, vIv a1] (vIv (F_impl_times a0 a1)) [] := by
  refine Fun.ofH 400 E_ok mixed Tryz.func163 (by kernel_rfl) (by kernel_rfl) ?_
  unfold F_impl_times
  refine Run.q (e := vIv) (gv := vIv) (ok_impl_Integer _) fun r1 _ => ?_
  refine Run.q (e := vIv) (gv := vIv) (ok_impl_MulI _ _) fun r2 _ => ?_
  exact Run.x 0

theorem ok_impl_monotonic__impl_ExpAt (a0 : Iv) : Fun Tryz.prog 138 [] #[vIv a0, .func (.func 141) #[] #[]] (vIv (F_impl_monotonic__impl_ExpAt a0)) [] := by
  refine Fun.ofH 400 E_ok mixed Tryz.func138 (by kernel_rfl) (by kernel_rfl) ?_
  unfold F_impl_monotonic__impl_ExpAt
  refine Run.q (e := vB) (gv := vIv) (ok_impl_IsWhole _) fun r1 _ => ?_
  refine Run.y (gv := vIv) (fun _ => ?_) (fun _ => ?_)
  · refine Run.q (e := vIv) (gv := vIv) (ok_impl_Whole) fun r2 _ => ?_
    exact Run.x 0
  · refine Run.q (e := vIv) (gv := vIv) (ok_impl_ExpAt _) fun r3 _ => ?_
    refine Run.q (e := vIv) (gv := vIv) (ok_impl_ExpAt _) fun r4 _ => ?_
    refine Run.q (e := vB) (gv := vIv) (ok_impl_areBounded _ _) fun r5 _ => ?_
    refine Run.y (gv := vIv) (fun _ => ?_) (fun _ => ?_)
    · refine Run.q (e := vIv) (gv := vIv) (ok_impl_Whole) fun r6 _ => ?_
      exact Run.x 0
    · refine Run.q (e := vIv) (gv := vIv) (ok_impl_bounded _ _ _) fun r7 _ => ?_
      exact Run.x 0

theorem ok_impl_ExpI (a0 : Iv) : Fun Tryz.prog 164 [] #[vIv a0] (vIv (F_impl_ExpI a0)) [] := by
  refine Fun.ofH 400 E_ok mixed Tryz.func164 (by kernel_rfl) (by kernel_rfl) ?_
  unfold F_impl_ExpI
  refine Run.q (e := vIv) (gv := vIv) (ok_impl_monotonic__impl_ExpAt _) fun r1 _ => ?_
  exact Run.x 0

theorem ok_impl_conic_constant__pCn (b0 : Cn) : Fun Tryz.prog 162 [(#[.int .i64 b0.p.kind.val, .int .i64 b0.p.lat0.val, .int .i64 b0.p.lon0.val, .int .i64 b0.p.lat1.val, .int .i64 b0.p.lat2.val, .int .i64 b0.a.lo.val, .int .i64 b0.a.hi.val, .int .i64 b0.b.lo.val, .int .i64 b0.b.hi.val, .int .i64 b0.o.lo.val, .int .i64 b0.o.hi.val, .int .i64 b0.n.lo.val, .int .i64 b0.n.hi.val, .int .i64 b0.g.lo.val, .int .i64 b0.g.hi.val], 74)] #[.pointer (some ⟨0, 0, none⟩)] (vIv (F_impl_conic_constant__pCn b0)) [(#[.int .i64 b0.p.kind.val, .int .i64 b0.p.lat0.val, .int .i64 b0.p.lon0.val, .int .i64 b0.p.lat1.val, .int .i64 b0.p.lat2.val, .int .i64 b0.a.lo.val, .int .i64 b0.a.hi.val, .int .i64 b0.b.lo.val, .int .i64 b0.b.hi.val, .int .i64 b0.o.lo.val, .int .i64 b0.o.hi.val, .int .i64 b0.n.lo.val, .int .i64 b0.n.hi.val, .int .i64 b0.g.lo.val, .int .i64 b0.g.hi.val], 74)] := by
  refine Fun.ofH 400 E_ok mixed Tryz.func162 (by kernel_rfl) (by kernel_rfl) ?_
  unfold F_impl_conic_constant__pCn
  refine Run.y (gv := vIv) (fun _ => ?_) (fun _ => ?_)
  · refine Run.q (e := vIv) (gv := vIv) (ok_impl_CosI _) fun r1 _ => ?_
    refine Run.q (e := vIv) (gv := vIv) (ok_impl_SqrI _) fun r2 _ => ?_
    refine Run.q (e := vIv) (gv := vIv) (ok_impl_times _ _) fun r3 _ => ?_
    refine Run.q (e := vIv) (gv := vIv) (ok_impl_SinI _) fun r4 _ => ?_
    refine Run.q (e := vIv) (gv := vIv) (ok_impl_MulI _ _) fun r5 _ => ?_
    refine Run.q (e := vIv) (gv := vIv) (ok_impl_AddI _ _) fun r6 _ => ?_
    exact Run.x 1
  · refine Run.y (gv := vIv) (fun _ => ?_) (fun _ => ?_)
    · refine Run.q (e := vIv) (gv := vIv) (ok_impl_CosI _) fun r7 _ => ?_
      refine Run.q (e := vIv) (gv := vIv) (ok_impl_isometricSphere _) fun r8 _ => ?_
      refine Run.q (e := vIv) (gv := vIv) (ok_impl_MulI _ _) fun r9 _ => ?_
      refine Run.q (e := vIv) (gv := vIv) (ok_impl_ExpI _) fun r10 _ => ?_
      refine Run.q (e := vIv) (gv := vIv) (ok_impl_MulI _ _) fun r11 _ => ?_
      refine Run.q (e := vIv) (gv := vIv) (ok_impl_DivI _ _) fun r12 _ => ?_
      exact Run.x 1
    · refine Run.q (e := vIv) (gv := vIv) (ok_impl_CosI _) fun r13 _ => ?_
      refine Run.q (e := vIv) (gv := vIv) (ok_impl_DivI _ _) fun r14 _ => ?_
      refine Run.q (e := vIv) (gv := vIv) (ok_impl_AddI _ _) fun r15 _ => ?_
      exact Run.x 1

def R_impl_newConic (r : Cn × I64) : Value → List Blk → Prop := MB 74 (r.2.val != 0) (vCn r.1).cells
theorem ok_impl_newConic (a0 : Pj) : FunR Tryz.prog 61 [] #[vPj a0] (MBx 74 ((F_impl_newConic a0).2.val != 0) (vCn (F_impl_newConic a0).1).cells) := by
  refine FunR.mb (by kernel_rfl) (FunR.of 400 E_ok mixed Tryz.func61 (by kernel_rfl) ?_)
  show Run _ _ (R_impl_newConic (F_impl_newConic a0)) _
  unfold F_impl_newConic
  refine Run.gq (Rg := R_impl_newConic) (e := vB) (ok_impl_ValidProjection _) fun r1 hr1 => ?_
  refine Run.gy (Rg := R_impl_newConic) (fun h2 => ?_) (fun h2 => ?_)
  · refine Run.z [true, true, true, true, true] ?_
    exact Run.mbn (by kernel_rfl) (by kernel_rfl)
  · refine Run.z [false, false] ?_
    refine Run.gq (Rg := R_impl_newConic) (e := vB) (ok_impl_isConic _) fun r3 hr3 => ?_
    refine Run.z [false, false] ?_
    refine Run.gy (Rg := R_impl_newConic) (fun h4 => ?_) (fun h4 => ?_)
    · exact Run.mbn (by kernel_rfl) (by kernel_rfl)
    · refine Run.gq (Rg := R_impl_newConic) (e := vIv) (ok_impl_RadiansOf _) fun r5 hr5 => ?_
      refine Run.gq (Rg := R_impl_newConic) (e := vIv) (ok_impl_RadiansOf _) fun r6 hr6 => ?_
      refine Run.gq (Rg := R_impl_newConic) (e := vIv) (ok_impl_RadiansOf _) fun r7 hr7 => ?_
      refine Run.gw (Rg := R_impl_newConic) (e := vIv) [1] (ok_impl_conic_cone__pCn _) fun r8 hr8 => ?_
      refine Run.gw (Rg := R_impl_newConic) (e := vIv) [1] (ok_impl_conic_constant__pCn _) fun r9 hr9 => ?_
      exact Run.mbp 1 (by kernel_rfl) (by kernel_rfl) (by kernel_rfl)

theorem ok_impl_conic_radius__pCn (b0 : Cn) (a0 : Iv) : Fun Tryz.prog 63 [(#[.int .i64 b0.p.kind.val, .int .i64 b0.p.lat0.val, .int .i64 b0.p.lon0.val, .int .i64 b0.p.lat1.val, .int .i64 b0.p.lat2.val, .int .i64 b0.a.lo.val, .int .i64 b0.a.hi.val, .int .i64 b0.b.lo.val, .int .i64 b0.b.hi.val, .int .i64 b0.o.lo.val, .int .i64 b0.o.hi.val, .int .i64 b0.n.lo.val, .int .i64 b0.n.hi.val, .int .i64 b0.g.lo.val, .int .i64 b0.g.hi.val], 74)] #[.pointer (some ⟨0, 0, none⟩), vIv a0] (vIv (F_impl_conic_radius__pCn b0 a0)) [(#[.int .i64 b0.p.kind.val, .int .i64 b0.p.lat0.val, .int .i64 b0.p.lon0.val, .int .i64 b0.p.lat1.val, .int .i64 b0.p.lat2.val, .int .i64 b0.a.lo.val, .int .i64 b0.a.hi.val, .int .i64 b0.b.lo.val, .int .i64 b0.b.hi.val, .int .i64 b0.o.lo.val, .int .i64 b0.o.hi.val, .int .i64 b0.n.lo.val, .int .i64 b0.n.hi.val, .int .i64 b0.g.lo.val, .int .i64 b0.g.hi.val], 74)] := by
  refine Fun.ofH 400 E_ok mixed Tryz.func63 (by kernel_rfl) (by kernel_rfl) ?_
  unfold F_impl_conic_radius__pCn
  refine Run.y (gv := vIv) (fun _ => ?_) (fun _ => ?_)
  · refine Run.q (e := vIv) (gv := vIv) (ok_impl_times _ _) fun r1 _ => ?_
    refine Run.q (e := vIv) (gv := vIv) (ok_impl_SinI _) fun r2 _ => ?_
    refine Run.q (e := vIv) (gv := vIv) (ok_impl_MulI _ _) fun r3 _ => ?_
    refine Run.q (e := vIv) (gv := vIv) (ok_impl_SubI _ _) fun r4 _ => ?_
    refine Run.q (e := vIv) (gv := vIv) (ok_impl_SqrtI _) fun r5 _ => ?_
    refine Run.q (e := vIv) (gv := vIv) (ok_impl_DivI _ _) fun r6 _ => ?_
    exact Run.x 1
  · refine Run.y (gv := vIv) (fun _ => ?_) (fun _ => ?_)
    · refine Run.q (e := vIv) (gv := vIv) (ok_impl_isometricSphere _) fun r7 _ => ?_
      refine Run.q (e := vIv) (gv := vIv) (ok_impl_MulI _ _) fun r8 _ => ?_
      refine Run.q (e := vIv) (gv := vIv) (ok_impl_NegI _) fun r9 _ => ?_
      refine Run.q (e := vIv) (gv := vIv) (ok_impl_ExpI _) fun r10 _ => ?_
      refine Run.q (e := vIv) (gv := vIv) (ok_impl_MulI _ _) fun r11 _ => ?_
      exact Run.x 1
    · refine Run.q (e := vIv) (gv := vIv) (ok_impl_SubI _ _) fun r12 _ => ?_
      exact Run.x 1

theorem ok_impl_conic_inverseLat__pCn (b0 : Cn) (a0 : Iv) : Fun Tryz.prog 69 [(#[.int .i64 b0.p.kind.val, .int .i64 b0.p.lat0.val, .int .i64 b0.p.lon0.val, .int .i64 b0.p.lat1.val, .int .i64 b0.p.lat2.val, .int .i64 b0.a.lo.val, .int .i64 b0.a.hi.val, .int .i64 b0.b.lo.val, .int .i64 b0.b.hi.val, .int .i64 b0.o.lo.val, .int .i64 b0.o.hi.val, .int .i64 b0.n.lo.val, .int .i64 b0.n.hi.val, .int .i64 b0.g.lo.val, .int .i64 b0.g.hi.val], 74)] #[.pointer (some ⟨0, 0, none⟩), vIv a0] (vT_Iv_B (F_impl_conic_inverseLat__pCn b0 a0)) [(#[.int .i64 b0.p.kind.val, .int .i64 b0.p.lat0.val, .int .i64 b0.p.lon0.val, .int .i64 b0.p.lat1.val, .int .i64 b0.p.lat2.val, .int .i64 b0.a.lo.val, .int .i64 b0.a.hi.val, .int .i64 b0.b.lo.val, .int .i64 b0.b.hi.val, .int .i64 b0.o.lo.val, .int .i64 b0.o.hi.val, .int .i64 b0.n.lo.val, .int .i64 b0.n.hi.val, .int .i64 b0.g.lo.val, .int .i64 b0.g.hi.val], 74)] := by
  refine Fun.ofH 400 E_ok mixed Tryz.func69 (by kernel_rfl) (by kernel_rfl) ?_
  unfold F_impl_conic_inverseLat__pCn
  refine Run.y (gv := vT_Iv_B) (fun _ => ?_) (fun _ => ?_)
  · refine Run.q (e := vIv) (gv := vT_Iv_B) (ok_impl_MulI _ _) fun r1 _ => ?_
    refine Run.q (e := vIv) (gv := vT_Iv_B) (ok_impl_SqrI _) fun r2 _ => ?_
    refine Run.q (e := vIv) (gv := vT_Iv_B) (ok_impl_SubI _ _) fun r3 _ => ?_
    refine Run.q (e := vIv) (gv := vT_Iv_B) (ok_impl_times _ _) fun r4 _ => ?_
    refine Run.q (e := vIv) (gv := vT_Iv_B) (ok_impl_DivI _ _) fun r5 _ => ?_
    refine Run.q (e := vIv) (gv := vT_Iv_B) (ok_impl_AsinI _) fun r6 _ => ?_
    refine Run.q (e := vIv) (gv := vT_Iv_B) (ok_impl_ring) fun r7 _ => ?_
    refine Run.q (e := vB) (gv := vT_Iv_B) (ok_impl_OverlapI _ _) fun r8 _ => ?_
    exact Run.x 1
  · refine Run.y (gv := vT_Iv_B) (fun _ => ?_) (fun _ => ?_)
    · refine Run.q (e := vIv) (gv := vT_Iv_B) (ok_impl_DivI _ _) fun r9 _ => ?_
      refine Run.q (e := vIv) (gv := vT_Iv_B) (ok_impl_LogI _) fun r10 _ => ?_
      refine Run.q (e := vIv) (gv := vT_Iv_B) (ok_impl_DivI _ _) fun r11 _ => ?_
      refine Run.q (e := vIv) (gv := vT_Iv_B) (ok_impl_SinhI _) fun r12 _ => ?_
      refine Run.q (e := vIv) (gv := vT_Iv_B) (ok_impl_AtanI _) fun r13 _ => ?_
      exact Run.x 1
    · refine Run.q (e := vIv) (gv := vT_Iv_B) (ok_impl_SubI _ _) fun r14 _ => ?_
      exact Run.x 1

theorem ok_impl_ConicInverse (a0 : Pj) (a1 : Pn) : Fun Tryz.prog 24 [] #[vPj a0, vPn a1] (vT_Iv_Iv_I (F_impl_ConicInverse a0 a1)) [] := by
  refine Fun.ofH 400 E_ok mixed Tryz.func24 (by kernel_rfl) (by kernel_rfl) ?_
  unfold F_impl_ConicInverse
  refine Run.bmb (nn := fun r : Cn × I64 => (r.2.val != 0)) (cl := fun r : Cn × I64 => (vCn r.1).cells) (gv := vT_Iv_Iv_I) (by kernel_rfl) (by kernel_rfl) (ok_impl_newConic _) (by kernel_rfl) (fun _ => rfl) (fun r1 hr1 => ?_) (fun r1 hr1 => ?_)
  · refine Run.z [true] ?_
    exact Run.x 0
  · refine Run.z [false] ?_
    refine Run.w (e := vIv) (gv := vT_Iv_Iv_I) [4] (ok_impl_conic_radius__pCn _ _) fun r2 hr2 => ?_
    refine Run.q (e := vIv) (gv := vT_Iv_Iv_I) (ok_impl_SubI _ _) fun r3 hr3 => ?_
    refine Run.q (e := vIv) (gv := vT_Iv_Iv_I) (ok_impl_SqrI _) fun r4 hr4 => ?_
    refine Run.q (e := vIv) (gv := vT_Iv_Iv_I) (ok_impl_SqrI _) fun r5 hr5 => ?_
    refine Run.q (e := vIv) (gv := vT_Iv_Iv_I) (ok_impl_AddI _ _) fun r6 hr6 => ?_
    refine Run.q (e := vIv) (gv := vT_Iv_Iv_I) (ok_impl_SqrtI _) fun r7 hr7 => ?_
    refine Run.q (e := vIv) (gv := vT_Iv_Iv_I) (ok_impl_DirectionI _ _) fun r8 hr8 => ?_
    refine Run.y (gv := vT_Iv_Iv_I) (fun h9 => ?_) (fun h9 => ?_)
    · refine Run.q (e := vIv) (gv := vT_Iv_Iv_I) (ok_impl_NegI _) fun r10 hr10 => ?_
      refine Run.q (e := vIv) (gv := vT_Iv_Iv_I) (ok_impl_NegI _) fun r11 hr11 => ?_
      refine Run.q (e := vIv) (gv := vT_Iv_Iv_I) (ok_impl_NegI _) fun r12 hr12 => ?_
      refine Run.q (e := vIv) (gv := vT_Iv_Iv_I) (ok_impl_DirectionI _ _) fun r13 hr13 => ?_
      refine Run.w (e := vT_Iv_B) (gv := vT_Iv_Iv_I) [4] (ok_impl_conic_inverseLat__pCn _ _) fun r14 hr14 => ?_
      refine Run.y (gv := vT_Iv_Iv_I) (fun h15 => ?_) (fun h15 => ?_)
      · exact Run.x 0
      · refine Run.q (e := vIv) (gv := vT_Iv_Iv_I) (ok_impl_DivI _ _) fun r16 hr16 => ?_
        refine Run.q (e := vT_Iv_Iv_I) (gv := vT_Iv_Iv_I) (ok_impl_onEarth _ _ _) fun r17 hr17 => ?_
        exact Run.x 0
    · refine Run.w (e := vT_Iv_B) (gv := vT_Iv_Iv_I) [4] (ok_impl_conic_inverseLat__pCn _ _) fun r18 hr18 => ?_
      refine Run.y (gv := vT_Iv_Iv_I) (fun h19 => ?_) (fun h19 => ?_)
      · exact Run.x 0
      · refine Run.q (e := vIv) (gv := vT_Iv_Iv_I) (ok_impl_DivI _ _) fun r20 hr20 => ?_
        refine Run.q (e := vT_Iv_Iv_I) (gv := vT_Iv_Iv_I) (ok_impl_onEarth _ _ _) fun r21 hr21 => ?_
        exact Run.x 0

theorem ok_impl_isPseudoOne (a0 : Pj) : Fun Tryz.prog 70 [] #[vPj a0] (vB (F_impl_isPseudoOne a0)) [] := by
  refine Fun.ofH 400 E_ok mixed Tryz.func70 (by kernel_rfl) (by kernel_rfl) ?_
  unfold F_impl_isPseudoOne
  refine Run.q (e := vB) (gv := vB) (ok_impl_ValidProjection _) fun r1 _ => ?_
  refine Run.y (gv := vB) (fun _ => ?_) (fun _ => ?_)
  · refine Run.z [true, true] ?_
    refine Run.q (e := vB) (gv := vB) (ok_impl_isPseudo _) fun r2 _ => ?_
    refine Run.z [true] ?_
    exact Run.x 0
  · refine Run.z [false, false, false] ?_
    exact Run.x 0

theorem ok_impl_normalI (a0 : Iv) : Fun Tryz.prog 170 [] #[vIv a0] (vIv (F_impl_normalI a0)) [] := by
  refine Fun.ofH 400 E_ok mixed Tryz.func170 (by kernel_rfl) (by kernel_rfl) ?_
  unfold F_impl_normalI
  refine Run.q (e := vIv) (gv := vIv) (ok_impl_bounded _ _ _) fun r1 _ => ?_
  exact Run.x 0

theorem ok_impl_pseudoRadius (a0 : I64) : Fun Tryz.prog 171 [] #[vI a0] (vIv (F_impl_pseudoRadius a0)) [] := by
  refine Fun.ofH 400 E_ok mixed Tryz.func171 (by kernel_rfl) (by kernel_rfl) ?_
  unfold F_impl_pseudoRadius
  refine Run.y (gv := vIv) (fun _ => ?_) (fun _ => ?_)
  · refine Run.q (e := vIv) (gv := vIv) (ok_impl_Integer _) fun r1 _ => ?_
    refine Run.q (e := vIv) (gv := vIv) (ok_impl_SqrtI _) fun r2 _ => ?_
    exact Run.x 0
  · refine Run.q (e := vIv) (gv := vIv) (ok_impl_Integer _) fun r3 _ => ?_
    refine Run.q (e := vIv) (gv := vIv) (ok_impl_PiI) fun r4 _ => ?_
    refine Run.q (e := vIv) (gv := vIv) (ok_impl_AddI _ _) fun r5 _ => ?_
    refine Run.q (e := vIv) (gv := vIv) (ok_impl_SqrtI _) fun r6 _ => ?_
    exact Run.x 0

theorem ok_impl_inverseParameter (a0 : I64) (a1 : Iv) : Fun Tryz.prog 71 [] #[vI a0, vIv a1] (vIv (F_impl_inverseParameter a0 a1)) [] := by
  refine Fun.ofH 400 E_ok mixed Tryz.func71 (by kernel_rfl) (by kernel_rfl) ?_
  unfold F_impl_inverseParameter
  refine Run.y (gv := vIv) (fun _ => ?_) (fun _ => ?_)
  · refine Run.q (e := vIv) (gv := vIv) (ok_impl_normalI _) fun r1 _ => ?_
    exact Run.x 0
  · refine Run.y (gv := vIv) (fun _ => ?_) (fun _ => ?_)
    · refine Run.q (e := vIv) (gv := vIv) (ok_impl_pseudoRadius _) fun r2 _ => ?_
      refine Run.q (e := vIv) (gv := vIv) (ok_impl_DivI _ _) fun r3 _ => ?_
      refine Run.q (e := vIv) (gv := vIv) (ok_impl_AsinI _) fun r4 _ => ?_
      exact Run.x 0
    · refine Run.q (e := vIv) (gv := vIv) (ok_impl_pseudoRadius _) fun r5 _ => ?_
      refine Run.q (e := vIv) (gv := vIv) (ok_impl_MulI _ _) fun r6 _ => ?_
      refine Run.q (e := vIv) (gv := vIv) (ok_impl_HalfI _) fun r7 _ => ?_
      exact Run.x 0

theorem ok_impl_parallelLength (a0 : I64) (a1 : Iv) : Fun Tryz.prog 72 [] #[vI a0, vIv a1] (vIv (F_impl_parallelLength a0 a1)) [] := by
  refine Fun.ofH 400 E_ok mixed Tryz.func72 (by kernel_rfl) (by kernel_rfl) ?_
  unfold F_impl_parallelLength
  refine Run.q (e := vIv) (gv := vIv) (ok_impl_pseudoRadius _) fun r1 _ => ?_
  refine Run.y (gv := vIv) (fun _ => ?_) (fun _ => ?_)
  · refine Run.q (e := vIv) (gv := vIv) (ok_impl_CosI _) fun r2 _ => ?_
    exact Run.x 0
  · refine Run.y (gv := vIv) (fun _ => ?_) (fun _ => ?_)
    · refine Run.q (e := vIv) (gv := vIv) (ok_impl_times _ _) fun r3 _ => ?_
      refine Run.q (e := vIv) (gv := vIv) (ok_impl_CosI _) fun r4 _ => ?_
      refine Run.q (e := vIv) (gv := vIv) (ok_impl_MulI _ _) fun r5 _ => ?_
      refine Run.q (e := vIv) (gv := vIv) (ok_impl_PiI) fun r6 _ => ?_
      refine Run.q (e := vIv) (gv := vIv) (ok_impl_DivI _ _) fun r7 _ => ?_
      exact Run.x 0
    · refine Run.q (e := vIv) (gv := vIv) (ok_impl_Integer _) fun r8 _ => ?_
      refine Run.q (e := vIv) (gv := vIv) (ok_impl_CosI _) fun r9 _ => ?_
      refine Run.q (e := vIv) (gv := vIv) (ok_impl_AddI _ _) fun r10 _ => ?_
      refine Run.q (e := vIv) (gv := vIv) (ok_impl_DivI _ _) fun r11 _ => ?_
      exact Run.x 0

theorem ok_impl_poleHeight (a0 : I64) : Fun Tryz.prog 73 [] #[vI a0] (vIv (F_impl_poleHeight a0)) [] := by
  refine Fun.ofH 400 E_ok mixed Tryz.func73 (by kernel_rfl) (by kernel_rfl) ?_
  unfold F_impl_poleHeight
  refine Run.y (gv := vIv) (fun _ => ?_) (fun _ => ?_)
  · refine Run.q (e := vIv) (gv := vIv) (ok_impl_TurnI _) fun r1 _ => ?_
    exact Run.x 0
  · refine Run.y (gv := vIv) (fun _ => ?_) (fun _ => ?_)
    · refine Run.q (e := vIv) (gv := vIv) (ok_impl_pseudoRadius _) fun r2 _ => ?_
      exact Run.x 0
    · refine Run.q (e := vIv) (gv := vIv) (ok_impl_PiI) fun r3 _ => ?_
      refine Run.q (e := vIv) (gv := vIv) (ok_impl_pseudoRadius _) fun r4 _ => ?_
      refine Run.q (e := vIv) (gv := vIv) (ok_impl_DivI _ _) fun r5 _ => ?_
      exact Run.x 0

theorem ok_impl_leftFactor (a0 : I64) : Fun Tryz.prog 173 [] #[vI a0] (vIv (F_impl_leftFactor a0)) [] := by
  refine Fun.ofH 400 E_ok mixed Tryz.func173 (by kernel_rfl) (by kernel_rfl) ?_
  unfold F_impl_leftFactor
  refine Run.y (gv := vIv) (fun _ => ?_) (fun _ => ?_)
  · refine Run.q (e := vIv) (gv := vIv) (ok_impl_PiI) fun r1 _ => ?_
    exact Run.x 0
  · refine Run.q (e := vIv) (gv := vIv) (ok_impl_Integer _) fun r2 _ => ?_
    refine Run.q (e := vIv) (gv := vIv) (ok_impl_TurnI _) fun r3 _ => ?_
    refine Run.q (e := vIv) (gv := vIv) (ok_impl_AddI _ _) fun r4 _ => ?_
    exact Run.x 0

theorem ok_impl_latitudeFor (a0 : I64) (a1 : Iv) : Fun Tryz.prog 77 [] #[vI a0, vIv a1] (vIv (F_impl_latitudeFor a0 a1)) [] := by
  refine Fun.ofH 400 E_ok mixed Tryz.func77 (by kernel_rfl) (by kernel_rfl) ?_
  unfold F_impl_latitudeFor
  refine Run.y (gv := vIv) (fun _ => ?_) (fun _ => ?_)
  · exact Run.x 0
  · refine Run.y (gv := vIv) (fun _ => ?_) (fun _ => ?_)
    · refine Run.q (e := vIv) (gv := vIv) (ok_impl_DoubleI _) fun r1 _ => ?_
      refine Run.q (e := vIv) (gv := vIv) (ok_impl_SinI _) fun r2 _ => ?_
      refine Run.q (e := vIv) (gv := vIv) (ok_impl_AddI _ _) fun r3 _ => ?_
      refine Run.q (e := vIv) (gv := vIv) (ok_impl_leftFactor _) fun r4 _ => ?_
      refine Run.q (e := vIv) (gv := vIv) (ok_impl_DivI _ _) fun r5 _ => ?_
      refine Run.q (e := vIv) (gv := vIv) (ok_impl_AsinI _) fun r6 _ => ?_
      exact Run.x 0
    · refine Run.q (e := vIv) (gv := vIv) (ok_impl_SinI _) fun r7 _ => ?_
      refine Run.q (e := vIv) (gv := vIv) (ok_impl_AddI _ _) fun r8 _ => ?_
      refine Run.q (e := vIv) (gv := vIv) (ok_impl_leftFactor _) fun r9 _ => ?_
      refine Run.q (e := vIv) (gv := vIv) (ok_impl_DivI _ _) fun r10 _ => ?_
      refine Run.q (e := vIv) (gv := vIv) (ok_impl_AsinI _) fun r11 _ => ?_
      exact Run.x 0

theorem ok_impl_PseudoInverse (a0 : Pj) (a1 : Pn) : Fun Tryz.prog 25 [] #[vPj a0, vPn a1] (vT_Iv_Iv_I (F_impl_PseudoInverse a0 a1)) [] := by
  refine Fun.ofH 400 E_ok mixed Tryz.func25 (by kernel_rfl) (by kernel_rfl) ?_
  unfold F_impl_PseudoInverse
  refine Run.q (e := vB) (gv := vT_Iv_Iv_I) (ok_impl_isPseudoOne _) fun r1 _ => ?_
  refine Run.y (gv := vT_Iv_Iv_I) (fun _ => ?_) (fun _ => ?_)
  · exact Run.x 0
  · refine Run.q (e := vIv) (gv := vT_Iv_Iv_I) (ok_impl_inverseParameter _ _) fun r2 _ => ?_
    refine Run.q (e := vIv) (gv := vT_Iv_Iv_I) (ok_impl_parallelLength _ _) fun r3 _ => ?_
    refine Run.q (e := vIv) (gv := vT_Iv_Iv_I) (ok_impl_DivI _ _) fun r4 _ => ?_
    refine Run.q (e := vIv) (gv := vT_Iv_Iv_I) (ok_impl_poleHeight _) fun r5 _ => ?_
    refine Run.q (e := vIv) (gv := vT_Iv_Iv_I) (ok_impl_AbsI _) fun r6 _ => ?_
    refine Run.q (e := vI) (gv := vT_Iv_Iv_I) (ok_impl_LessI _ _) fun r7 _ => ?_
    refine Run.y (gv := vT_Iv_Iv_I) (fun _ => ?_) (fun _ => ?_)
    · refine Run.z [true, true, true, true, true, true] ?_
      exact Run.x 0
    · refine Run.q (e := vIv) (gv := vT_Iv_Iv_I) (ok_impl_PiI) fun r8 _ => ?_
      refine Run.z [false, false] ?_
      refine Run.q (e := vIv) (gv := vT_Iv_Iv_I) (ok_impl_AbsI _) fun r9 _ => ?_
      refine Run.z [false] ?_
      refine Run.q (e := vI) (gv := vT_Iv_Iv_I) (ok_impl_LessI _ _) fun r10 _ => ?_
      refine Run.z [false, false] ?_
      refine Run.y (gv := vT_Iv_Iv_I) (fun _ => ?_) (fun _ => ?_)
      · exact Run.x 0
      · refine Run.q (e := vIv) (gv := vT_Iv_Iv_I) (ok_impl_latitudeFor _ _) fun r11 _ => ?_
        refine Run.q (e := vT_Iv_I) (gv := vT_Iv_Iv_I) (ok_impl_knownI _) fun r12 _ => ?_
        refine Run.y (gv := vT_Iv_Iv_I) (fun _ => ?_) (fun _ => ?_)
        · exact Run.x 0
        · refine Run.q (e := vIv) (gv := vT_Iv_Iv_I) (ok_impl_RadiansOf _) fun r13 _ => ?_
          refine Run.q (e := vIv) (gv := vT_Iv_Iv_I) (ok_impl_AddI _ _) fun r14 _ => ?_
          exact Run.x 0

theorem ok_impl_isTransverse (a0 : Pj) : Fun Tryz.prog 78 [] #[vPj a0] (vB (F_impl_isTransverse a0)) [] := by
  refine Fun.ofH 400 E_ok mixed Tryz.func78 (by kernel_rfl) (by kernel_rfl) ?_
  unfold F_impl_isTransverse
  refine Run.q (e := vB) (gv := vB) (ok_impl_ValidProjection _) fun r1 _ => ?_
  refine Run.y (gv := vB) (fun _ => ?_) (fun _ => ?_)
  · refine Run.z [true, true, true] ?_
    exact Run.x 0
  · refine Run.z [false, false, false] ?_
    exact Run.x 0

theorem ok_impl_CoshI_1 (a0 : I64) : Fun Tryz.prog 174 [] #[vI a0] (vIv (F_impl_CoshI_1 a0)) [] := by
  refine Fun.ofH 400 E_ok mixed Tryz.func174 (by kernel_rfl) (by kernel_rfl) ?_
  unfold F_impl_CoshI_1
  refine Run.q (e := vIv) (gv := vIv) (ok_impl_ExpAt _) fun r1 _ => ?_
  refine Run.q (e := vIv) (gv := vIv) (ok_impl_ExpAt _) fun r2 _ => ?_
  refine Run.q (e := vIv) (gv := vIv) (ok_impl_AddI _ _) fun r3 _ => ?_
  refine Run.q (e := vIv) (gv := vIv) (ok_impl_HalfI _) fun r4 _ => ?_
  exact Run.x 0

theorem ok_impl_monotonic__impl_CoshI_1 (a0 : Iv) : Fun Tryz.prog 138 [] #[vIv a0, .func (.func 174) #[] #[]] (vIv (F_impl_monotonic__impl_CoshI_1 a0)) [] := by
  refine Fun.ofH 400 E_ok mixed Tryz.func138 (by kernel_rfl) (by kernel_rfl) ?_
  unfold F_impl_monotonic__impl_CoshI_1
  refine Run.q (e := vB) (gv := vIv) (ok_impl_IsWhole _) fun r1 _ => ?_
  refine Run.y (gv := vIv) (fun _ => ?_) (fun _ => ?_)
  · refine Run.q (e := vIv) (gv := vIv) (ok_impl_Whole) fun r2 _ => ?_
    exact Run.x 0
  · refine Run.q (e := vIv) (gv := vIv) (ok_impl_CoshI_1 _) fun r3 _ => ?_
    refine Run.q (e := vIv) (gv := vIv) (ok_impl_CoshI_1 _) fun r4 _ => ?_
    refine Run.q (e := vB) (gv := vIv) (ok_impl_areBounded _ _) fun r5 _ => ?_
    refine Run.y (gv := vIv) (fun _ => ?_) (fun _ => ?_)
    · refine Run.q (e := vIv) (gv := vIv) (ok_impl_Whole) fun r6 _ => ?_
      exact Run.x 0
    · refine Run.q (e := vIv) (gv := vIv) (ok_impl_bounded _ _ _) fun r7 _ => ?_
      exact Run.x 0

theorem ok_impl_CoshI (a0 : Iv) : Fun Tryz.prog 80 [] #[vIv a0] (vIv (F_impl_CoshI a0)) [] := by
  refine Fun.ofH 400 E_ok mixed Tryz.func80 (by kernel_rfl) (by kernel_rfl) ?_
  unfold F_impl_CoshI
  refine Run.q (e := vIv) (gv := vIv) (ok_impl_AbsI _) fun r1 _ => ?_
  refine Run.q (e := vIv) (gv := vIv) (ok_impl_monotonic__impl_CoshI_1 _) fun r2 _ => ?_
  exact Run.x 0

theorem ok_impl_TransverseInverse (a0 : Pj) (a1 : Pn) : Fun Tryz.prog 26 [] #[vPj a0, vPn a1] (vT_Iv_Iv_I (F_impl_TransverseInverse a0 a1)) [] := by
  refine Fun.ofH 400 E_ok mixed Tryz.func26 (by kernel_rfl) (by kernel_rfl) ?_
  unfold F_impl_TransverseInverse
  refine Run.q (e := vB) (gv := vT_Iv_Iv_I) (ok_impl_isTransverse _) fun r1 _ => ?_
  refine Run.y (gv := vT_Iv_Iv_I) (fun _ => ?_) (fun _ => ?_)
  · exact Run.x 0
  · refine Run.q (e := vIv) (gv := vT_Iv_Iv_I) (ok_impl_RadiansOf _) fun r2 _ => ?_
    refine Run.q (e := vIv) (gv := vT_Iv_Iv_I) (ok_impl_AddI _ _) fun r3 _ => ?_
    refine Run.q (e := vIv) (gv := vT_Iv_Iv_I) (ok_impl_SinI _) fun r4 _ => ?_
    refine Run.q (e := vIv) (gv := vT_Iv_Iv_I) (ok_impl_CoshI _) fun r5 _ => ?_
    refine Run.q (e := vIv) (gv := vT_Iv_Iv_I) (ok_impl_DivI _ _) fun r6 _ => ?_
    refine Run.q (e := vIv) (gv := vT_Iv_Iv_I) (ok_impl_AsinI _) fun r7 _ => ?_
    refine Run.q (e := vB) (gv := vT_Iv_Iv_I) (ok_impl_areBounded _ _) fun r8 _ => ?_
    refine Run.y (gv := vT_Iv_Iv_I) (fun _ => ?_) (fun _ => ?_)
    · refine Run.z [true, true, true] ?_
      exact Run.x 0
    · refine Run.z [false] ?_
      refine Run.q (e := vB) (gv := vT_Iv_Iv_I) (ok_impl_IsWhole _) fun r9 _ => ?_
      refine Run.z [false] ?_
      refine Run.y (gv := vT_Iv_Iv_I) (fun _ => ?_) (fun _ => ?_)
      · exact Run.x 0
      · refine Run.q (e := vIv) (gv := vT_Iv_Iv_I) (ok_impl_RadiansOf _) fun r10 _ => ?_
        refine Run.q (e := vIv) (gv := vT_Iv_Iv_I) (ok_impl_SinhI _) fun r11 _ => ?_
        refine Run.q (e := vIv) (gv := vT_Iv_Iv_I) (ok_impl_CosI _) fun r12 _ => ?_
        refine Run.q (e := vIv) (gv := vT_Iv_Iv_I) (ok_impl_DirectionI _ _) fun r13 _ => ?_
        refine Run.q (e := vIv) (gv := vT_Iv_Iv_I) (ok_impl_AddI _ _) fun r14 _ => ?_
        exact Run.x 0

theorem ok_impl_Unproject (a0 : Pj) (a1 : Pn) : Fun Tryz.prog 12 [] #[vPj a0, vPn a1] (vT_Iv_Iv_I (F_impl_Unproject a0 a1)) [] := by
  refine Fun.ofH 400 E_ok mixed Tryz.func12 (by kernel_rfl) (by kernel_rfl) ?_
  unfold F_impl_Unproject
  refine Run.q (e := vI) (gv := vT_Iv_Iv_I) (ok_impl_FamilyOf _) fun r1 _ => ?_
  refine Run.y (gv := vT_Iv_Iv_I) (fun _ => ?_) (fun _ => ?_)
  · refine Run.q (e := vT_Iv_Iv_I) (gv := vT_Iv_Iv_I) (ok_impl_CylinderInverse _ _) fun r2 _ => ?_
    exact Run.x 0
  · refine Run.y (gv := vT_Iv_Iv_I) (fun _ => ?_) (fun _ => ?_)
    · refine Run.q (e := vT_Iv_Iv_I) (gv := vT_Iv_Iv_I) (ok_impl_AzimuthalInverse _ _) fun r3 _ => ?_
      exact Run.x 0
    · refine Run.y (gv := vT_Iv_Iv_I) (fun _ => ?_) (fun _ => ?_)
      · refine Run.q (e := vT_Iv_Iv_I) (gv := vT_Iv_Iv_I) (ok_impl_ConicInverse _ _) fun r4 _ => ?_
        exact Run.x 0
      · refine Run.y (gv := vT_Iv_Iv_I) (fun _ => ?_) (fun _ => ?_)
        · refine Run.q (e := vT_Iv_Iv_I) (gv := vT_Iv_Iv_I) (ok_impl_PseudoInverse _ _) fun r5 _ => ?_
          exact Run.x 0
        · refine Run.y (gv := vT_Iv_Iv_I) (fun _ => ?_) (fun _ => ?_)
          · refine Run.q (e := vT_Iv_Iv_I) (gv := vT_Iv_Iv_I) (ok_impl_TransverseInverse _ _) fun r6 _ => ?_
            exact Run.x 0
          · exact Run.x 0

theorem ok_impl_UnitsOf (a0 : Iv) : Fun Tryz.prog 27 [] #[vIv a0] (vT_I_I_B (F_impl_UnitsOf a0)) [] := by
  refine Fun.ofH 400 E_ok mixed Tryz.func27 (by kernel_rfl) (by kernel_rfl) ?_
  unfold F_impl_UnitsOf
  refine Run.q (e := vB) (gv := vT_I_I_B) (ok_impl_IsWhole _) fun r1 _ => ?_
  refine Run.y (gv := vT_I_I_B) (fun _ => ?_) (fun _ => ?_)
  · exact Run.x 0
  · refine Run.y (gv := vT_I_I_B) (fun _ => ?_) (fun _ => ?_)
    · refine Run.y (gv := vT_I_I_B) (fun _ => ?_) (fun _ => ?_)
      · refine Run.q (e := vT_I_B) (gv := vT_I_I_B) (ok_impl_MulDivFloor _ _ _) fun r2 _ => ?_
        refine Run.q (e := vT_I_B) (gv := vT_I_I_B) (ok_impl_mulDivCeil _ _ _) fun r3 _ => ?_
        refine Run.y (gv := vT_I_I_B) (fun _ => ?_) (fun _ => ?_)
        · refine Run.z [true, true, true, true, true, true, true, true, true] ?_
          exact Run.x 0
        · refine Run.z [false, false] ?_
          refine Run.y (gv := vT_I_I_B) (fun _ => ?_) (fun _ => ?_)
          · refine Run.z [true, true, true, true, true, true] ?_
            exact Run.x 0
          · refine Run.z [false, false] ?_
            refine Run.y (gv := vT_I_I_B) (fun _ => ?_) (fun _ => ?_)
            · refine Run.z [true, true, true] ?_
              exact Run.x 0
            · refine Run.z [false, false] ?_
              refine Run.y (gv := vT_I_I_B) (fun _ => ?_) (fun _ => ?_)
              · exact Run.x 0
              · exact Run.x 0
      · refine Run.q (e := vT_I_B) (gv := vT_I_I_B) (ok_impl_MulDivFloor _ _ _) fun r4 _ => ?_
        refine Run.q (e := vT_I_B) (gv := vT_I_I_B) (ok_impl_mulDivCeil _ _ _) fun r5 _ => ?_
        refine Run.y (gv := vT_I_I_B) (fun _ => ?_) (fun _ => ?_)
        · refine Run.z [true, true, true, true, true, true, true, true, true] ?_
          exact Run.x 0
        · refine Run.z [false, false] ?_
          refine Run.y (gv := vT_I_I_B) (fun _ => ?_) (fun _ => ?_)
          · refine Run.z [true, true, true, true, true, true] ?_
            exact Run.x 0
          · refine Run.z [false, false] ?_
            refine Run.y (gv := vT_I_I_B) (fun _ => ?_) (fun _ => ?_)
            · refine Run.z [true, true, true] ?_
              exact Run.x 0
            · refine Run.z [false, false] ?_
              refine Run.y (gv := vT_I_I_B) (fun _ => ?_) (fun _ => ?_)
              · exact Run.x 0
              · exact Run.x 0
    · refine Run.y (gv := vT_I_I_B) (fun _ => ?_) (fun _ => ?_)
      · refine Run.q (e := vT_I_B) (gv := vT_I_I_B) (ok_impl_MulDivFloor _ _ _) fun r6 _ => ?_
        refine Run.q (e := vT_I_B) (gv := vT_I_I_B) (ok_impl_mulDivCeil _ _ _) fun r7 _ => ?_
        refine Run.y (gv := vT_I_I_B) (fun _ => ?_) (fun _ => ?_)
        · refine Run.z [true, true, true, true, true, true, true, true, true] ?_
          exact Run.x 0
        · refine Run.z [false, false] ?_
          refine Run.y (gv := vT_I_I_B) (fun _ => ?_) (fun _ => ?_)
          · refine Run.z [true, true, true, true, true, true] ?_
            exact Run.x 0
          · refine Run.z [false, false] ?_
            refine Run.y (gv := vT_I_I_B) (fun _ => ?_) (fun _ => ?_)
            · refine Run.z [true, true, true] ?_
              exact Run.x 0
            · refine Run.z [false, false] ?_
              refine Run.y (gv := vT_I_I_B) (fun _ => ?_) (fun _ => ?_)
              · exact Run.x 0
              · exact Run.x 0
      · refine Run.q (e := vT_I_B) (gv := vT_I_I_B) (ok_impl_MulDivFloor _ _ _) fun r8 _ => ?_
        refine Run.q (e := vT_I_B) (gv := vT_I_I_B) (ok_impl_mulDivCeil _ _ _) fun r9 _ => ?_
        refine Run.y (gv := vT_I_I_B) (fun _ => ?_) (fun _ => ?_)
        · refine Run.z [true, true, true, true, true, true, true, true, true] ?_
          exact Run.x 0
        · refine Run.z [false, false] ?_
          refine Run.y (gv := vT_I_I_B) (fun _ => ?_) (fun _ => ?_)
          · refine Run.z [true, true, true, true, true, true] ?_
            exact Run.x 0
          · refine Run.z [false, false] ?_
            refine Run.y (gv := vT_I_I_B) (fun _ => ?_) (fun _ => ?_)
            · refine Run.z [true, true, true] ?_
              exact Run.x 0
            · refine Run.z [false, false] ?_
              refine Run.y (gv := vT_I_I_B) (fun _ => ?_) (fun _ => ?_)
              · exact Run.x 0
              · exact Run.x 0

theorem ok_impl_WrapLon (a0 : I64) : Fun Tryz.prog 28 [] #[vI a0] (vI (F_impl_WrapLon a0)) [] := by
  refine Fun.ofH 400 E_ok mixed Tryz.func28 (by kernel_rfl) (by kernel_rfl) ?_
  unfold F_impl_WrapLon
  refine Run.z [true] ?_
  refine Run.y (gv := vI) (fun _ => ?_) (fun _ => ?_)
  · exact Run.x 0
  · refine Run.y (gv := vI) (fun _ => ?_) (fun _ => ?_)
    · exact Run.x 0
    · exact Run.x 0

theorem ok_impl_MiddlePoint (a0 : Iv) (a1 : Iv) : Fun Tryz.prog 13 [] #[vIv a0, vIv a1] (vT_Pt_I_I (F_impl_MiddlePoint a0 a1)) [] := by
  refine Fun.ofH 400 E_ok mixed Tryz.func13 (by kernel_rfl) (by kernel_rfl) ?_
  unfold F_impl_MiddlePoint
  refine Run.q (e := vT_I_I_B) (gv := vT_Pt_I_I) (ok_impl_UnitsOf _) fun r1 _ => ?_
  refine Run.q (e := vT_I_I_B) (gv := vT_Pt_I_I) (ok_impl_UnitsOf _) fun r2 _ => ?_
  refine Run.y (gv := vT_Pt_I_I) (fun _ => ?_) (fun _ => ?_)
  · refine Run.z [true, true, true] ?_
    exact Run.x 0
  · refine Run.z [false, false] ?_
    refine Run.y (gv := vT_Pt_I_I) (fun _ => ?_) (fun _ => ?_)
    · exact Run.x 0
    · refine Run.z [true, true] ?_
      refine Run.q (e := vI) (gv := vT_Pt_I_I) (ok_impl_WrapLon _) fun r3 _ => ?_
      refine Run.q (e := vB) (gv := vT_Pt_I_I) (ok_impl_ValidPoint _) fun r4 _ => ?_
      refine Run.y (gv := vT_Pt_I_I) (fun _ => ?_) (fun _ => ?_)
      · exact Run.x 0
      · exact Run.x 0

theorem ok_impl_PointAt (a0 : Pj) (a1 : Pn) : Fun Tryz.prog 7 [] #[vPj a0, vPn a1] (vT_Pt_I_I (F_impl_PointAt a0 a1)) [] := by
  refine Fun.ofH 400 E_ok mixed Tryz.func7 (by kernel_rfl) (by kernel_rfl) ?_
  unfold F_impl_PointAt
  refine Run.q (e := vT_Iv_Iv_I) (gv := vT_Pt_I_I) (ok_impl_Unproject _ _) fun r1 _ => ?_
  refine Run.y (gv := vT_Pt_I_I) (fun _ => ?_) (fun _ => ?_)
  · exact Run.x 0
  · refine Run.q (e := vT_Pt_I_I) (gv := vT_Pt_I_I) (ok_impl_MiddlePoint _ _) fun r2 _ => ?_
    exact Run.x 0

end Go.Proofs.YtjbdilphncpceaaGreat.Abs
