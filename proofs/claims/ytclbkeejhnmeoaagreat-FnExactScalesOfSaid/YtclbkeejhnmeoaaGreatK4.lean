/- The program's functions are these; part 4 (written by w.py). -/
import Derived.Test.YtclbkeejhnmeoaaGreatK3
import Derived.Test.YtclbkeejhnmeoaaGreatF6
set_option linter.unusedVariables false
set_option linter.unusedSimpArgs false
namespace Go.Proofs.YtclbkeejhnmeoaaGreat.Abs
open Go Go.RowKit

theorem ok_impl_TanI_L0 : ∀ (fu : Nat) (cp_r4 : Nat) (pd_r4 : List Value) (r4 : List I64) (a0 : Iv) (x_12 : I64) (y_1 : Iv) (q0 : 0 ≤ x_12.val) (q1 : ((r4.length : Nat) : Int) ≤ 4000) (hm : (((r4.length : Nat) : Int) - x_12.val).toNat < fu) (t : Array Value) (ht : maskA t [0, 3, 4, 5, 6, 7, 8, 9, 13, 14, 15, 16, 17, 18, 19, 20, 21, 22, 23, 24, 25, 26, 27, 28, 29, 30, 31, 32, 33, 34, 35] = #[undef, .pointer (some ⟨0, 0, none⟩), .pointer (some ⟨1, 0, none⟩), undef, undef, undef, undef, undef, undef, undef, .slice (some ⟨2, 0, some 0⟩) r4.length cp_r4, .int .i64 (((r4.length : Nat) : Int)), .int .i64 x_12.val, undef, undef, undef, undef, undef, undef, undef, undef, undef, undef, undef, undef, undef, undef, undef, undef, undef, undef, undef, undef, undef, undef, undef]), Cfg Tryz.prog 271 (loopAt Tryz.f271 0) t [(#[.int .i64 a0.lo.val, .int .i64 a0.hi.val], 25), (#[.int .i64 y_1.lo.val, .int .i64 y_1.hi.val], 25), (rowOf r4 pd_r4, 2)] (RvH [] (vIv (F_impl_TanI_L0 fu r4 a0 x_12 y_1))) := by
  intro fu
  induction fu with
  | zero => intro cp_r4 pd_r4 r4 a0 x_12 y_1 q0 q1 hm; exact absurd hm (Nat.not_lt_zero _)
  | succ fu ih =>
    intro cp_r4 pd_r4 r4 a0 x_12 y_1 q0 q1 hm t ht
    refine Cfg.round E_ok mixed Tryz.func271 ht fun g => ?_
    unfold F_impl_TanI_L0
    refine Run.y (gv := vIv) (fun h5 => ?_) (fun h5 => ?_)
    · refine Run.k (c := (decide (0 ≤ x_12.val ∧ x_12.val < ((r4.length : Nat) : Int)))) (by kernel_rfl) (by simp only [w64_val, wu64_val, c64_val, cu64_val, decide_eq_true_eq, decide_eq_false_iff_not, cond_true, cond_false] at *; omega) ?_
      refine Run.ld (by kernel_rfl) (listAt_ok (L := r4) (pad := pd_r4) (i := x_12) (by simp only [w64_val, wu64_val, c64_val, cu64_val, decide_eq_true_eq, decide_eq_false_iff_not, cond_true, cond_false] at *; omega)) ?_
      refine Run.y (gv := vIv) (fun h6 => ?_) (fun h6 => ?_)
      · refine Run.q (e := vIv) (gv := vIv) (ok_impl_Whole) fun r7 hr7 => ?_
        exact Run.x 0
      · exact Run.l (by kernel_rfl) (by kernel_rfl) (by kernel_rfl) (by kernel_rfl) (ih cp_r4 pd_r4 r4 a0 (w64 (x_12.val + 1)) y_1 (by first | omega | (simp only [w64_val, wu64_val, c64_val, cu64_val, decide_eq_true_eq, decide_eq_false_iff_not, cond_true, cond_false] at *; omega)) (by first | omega | (simp only [w64_val, wu64_val, c64_val, cu64_val, decide_eq_true_eq, decide_eq_false_iff_not, cond_true, cond_false] at *; omega)) (by first | omega | (simp only [w64_val, wu64_val, c64_val, cu64_val, decide_eq_true_eq, decide_eq_false_iff_not, cond_true, cond_false] at *; omega)))
    · refine Run.q (e := vIv) (gv := vIv) (ok_impl_SinAt _) fun r8 hr8 => ?_
      refine Run.q (e := vIv) (gv := vIv) (ok_impl_CosAt _) fun r9 hr9 => ?_
      refine Run.q (e := vIv) (gv := vIv) (ok_impl_DivI _ _) fun r10 hr10 => ?_
      refine Run.q (e := vIv) (gv := vIv) (ok_impl_SinAt _) fun r11 hr11 => ?_
      refine Run.q (e := vIv) (gv := vIv) (ok_impl_CosAt _) fun r12 hr12 => ?_
      refine Run.q (e := vIv) (gv := vIv) (ok_impl_DivI _ _) fun r13 hr13 => ?_
      refine Run.q (e := vIv) (gv := vIv) (ok_impl_HullI _ _) fun r14 hr14 => ?_
      exact Run.x 0

theorem ok_impl_TanI (a0 : Iv) : Fun Tryz.prog 271 [] #[vIv a0] (vIv (F_impl_TanI a0)) [] := by
  refine Fun.ofH 400 E_ok mixed Tryz.func271 (by kernel_rfl) (by kernel_rfl) ?_
  unfold F_impl_TanI
  refine Run.q (e := vB) (gv := vIv) (ok_impl_areAngles _) fun r1 hr1 => ?_
  refine Run.y (gv := vIv) (fun h2 => ?_) (fun h2 => ?_)
  · refine Run.q (e := vIv) (gv := vIv) (ok_impl_Whole) fun r3 hr3 => ?_
    exact Run.x 0
  · refine Run.bl (gv := vIv) (by kernel_rfl) (by kernel_rfl) (ok_impl_turnsIn _) (by kernel_rfl) (fun r4 hr4 nr4 => ?_) (fun r4 hr4 cp_r4 pd_r4 => ?_)
    · subst nr4
      have e0 : F_impl_TanI_L0 (((([] : List I64).length : Nat) : Int).toNat + 1) ([] : List I64) a0 (c64 0) (⟨(c64 0), (c64 0)⟩ : Iv) = bindP (F_impl_SinAt a0.lo) fun r15 => bindP (F_impl_CosAt a0.lo) fun r16 => bindP (F_impl_DivI r15 r16) fun r17 => bindP (F_impl_SinAt a0.hi) fun r18 => bindP (F_impl_CosAt a0.hi) fun r19 => bindP (F_impl_DivI r18 r19) fun r20 => bindP (F_impl_HullI r17 r20) fun r21 => r21 := by rw [F_impl_TanI_L0]; exact cond_false _ _
      show Run _ _ (RvH [] (vIv (F_impl_TanI_L0 (((([] : List I64).length : Nat) : Int).toNat + 1) ([] : List I64) a0 (c64 0) (⟨(c64 0), (c64 0)⟩ : Iv)))) _
      rw [e0]
      refine Run.u 400 E_ok mixed Tryz.func271 ?_
      refine Run.z [false] ?_
      refine Run.q (e := vIv) (gv := vIv) (ok_impl_SinAt _) fun r15 hr15 => ?_
      refine Run.q (e := vIv) (gv := vIv) (ok_impl_CosAt _) fun r16 hr16 => ?_
      refine Run.q (e := vIv) (gv := vIv) (ok_impl_DivI _ _) fun r17 hr17 => ?_
      refine Run.q (e := vIv) (gv := vIv) (ok_impl_SinAt _) fun r18 hr18 => ?_
      refine Run.q (e := vIv) (gv := vIv) (ok_impl_CosAt _) fun r19 hr19 => ?_
      refine Run.q (e := vIv) (gv := vIv) (ok_impl_DivI _ _) fun r20 hr20 => ?_
      refine Run.q (e := vIv) (gv := vIv) (ok_impl_HullI _ _) fun r21 hr21 => ?_
      exact Run.x 0
    · have hl_r4 : ((r4.length : Nat) : Int) ≤ 4000 := by rw [hr4]; exact Int.ofNat_le.2 (len_impl_turnsIn _)
      exact Run.l (by kernel_rfl) (by kernel_rfl) (by kernel_rfl) (by kernel_rfl) (ok_impl_TanI_L0 (((r4.length : Nat) : Int).toNat + 1) cp_r4 pd_r4 r4 a0 (c64 0) (⟨(c64 0), (c64 0)⟩ : Iv) (by first | omega | (simp only [w64_val, wu64_val, c64_val, cu64_val, decide_eq_true_eq, decide_eq_false_iff_not, cond_true, cond_false] at *; omega)) (by first | omega | (simp only [w64_val, wu64_val, c64_val, cu64_val, decide_eq_true_eq, decide_eq_false_iff_not, cond_true, cond_false] at *; omega)) (by first | omega | (simp only [w64_val, wu64_val, c64_val, cu64_val, decide_eq_true_eq, decide_eq_false_iff_not, cond_true, cond_false] at *; omega)))

theorem ok_impl_AsinhI_1 (a0 : I64) : Fun Tryz.prog 351 [] #[vI a0] (vIv (F_impl_AsinhI_1 a0)) [] := by
  refine Fun.ofH 400 E_ok mixed Tryz.func351 (by kernel_rfl) (by kernel_rfl) ?_
  unfold F_impl_AsinhI_1
  refine Run.y (gv := vIv) (fun _ => ?_) (fun _ => ?_)
  · refine Run.q (e := vIv) (gv := vIv) (ok_impl_at _) fun r1 _ => ?_
    refine Run.q (e := vIv) (gv := vIv) (ok_impl_at _) fun r2 _ => ?_
    refine Run.q (e := vIv) (gv := vIv) (ok_impl_SqrI _) fun r3 _ => ?_
    refine Run.q (e := vIv) (gv := vIv) (ok_impl_Integer _) fun r4 _ => ?_
    refine Run.q (e := vIv) (gv := vIv) (ok_impl_AddI _ _) fun r5 _ => ?_
    refine Run.q (e := vIv) (gv := vIv) (ok_impl_SqrtI _) fun r6 _ => ?_
    refine Run.q (e := vIv) (gv := vIv) (ok_impl_AddI _ _) fun r7 _ => ?_
    refine Run.q (e := vIv) (gv := vIv) (ok_impl_LogI _) fun r8 _ => ?_
    exact Run.x 0
  · refine Run.q (e := vIv) (gv := vIv) (ok_impl_LogTwoI _) fun r9 _ => ?_
    refine Run.q (e := vIv) (gv := vIv) (ok_impl_LogAt _) fun r10 _ => ?_
    refine Run.q (e := vIv) (gv := vIv) (ok_impl_AddI _ _) fun r11 _ => ?_
    refine Run.q (e := vIv) (gv := vIv) (ok_impl_AddI _ _) fun r12 _ => ?_
    exact Run.x 0

theorem ok_impl_odd_1__p_impl_AsinhI_1 (a0 : I64) : Fun Tryz.prog 328 [(#[.func (.func 351) #[] #[]], 78)] #[vI a0, .pointer (some ⟨0, 0, none⟩)] (vIv (F_impl_odd_1__p_impl_AsinhI_1 a0)) [(#[.func (.func 351) #[] #[]], 78)] := by
  refine Fun.ofH 400 E_ok mixed Tryz.func328 (by kernel_rfl) (by kernel_rfl) ?_
  unfold F_impl_odd_1__p_impl_AsinhI_1
  refine Run.y (gv := vIv) (fun _ => ?_) (fun _ => ?_)
  · refine Run.q (e := vIv) (gv := vIv) (ok_impl_AsinhI_1 _) fun r1 _ => ?_
    refine Run.q (e := vIv) (gv := vIv) (ok_impl_NegI _) fun r2 _ => ?_
    exact Run.x 1
  · refine Run.q (e := vIv) (gv := vIv) (ok_impl_AsinhI_1 _) fun r3 _ => ?_
    exact Run.x 1

theorem ok_impl_monotonic__impl_odd_1_p_impl_AsinhI_1 (a0 : Iv) : Fun Tryz.prog 250 [(#[.func (.func 351) #[] #[]], 78)] #[vIv a0, .func (.func 328) #[] #[.pointer (some ⟨0, 0, none⟩)]] (vIv (F_impl_monotonic__impl_odd_1_p_impl_AsinhI_1 a0)) [(#[.func (.func 351) #[] #[]], 78)] := by
  refine Fun.ofH 400 E_ok mixed Tryz.func250 (by kernel_rfl) (by kernel_rfl) ?_
  unfold F_impl_monotonic__impl_odd_1_p_impl_AsinhI_1
  refine Run.q (e := vB) (gv := vIv) (ok_impl_IsWhole _) fun r1 _ => ?_
  refine Run.y (gv := vIv) (fun _ => ?_) (fun _ => ?_)
  · refine Run.q (e := vIv) (gv := vIv) (ok_impl_Whole) fun r2 _ => ?_
    exact Run.x 1
  · refine Run.w (e := vIv) (gv := vIv) [0] (ok_impl_odd_1__p_impl_AsinhI_1 _) fun r3 _ => ?_
    refine Run.w (e := vIv) (gv := vIv) [0] (ok_impl_odd_1__p_impl_AsinhI_1 _) fun r4 _ => ?_
    refine Run.q (e := vB) (gv := vIv) (ok_impl_areBounded _ _) fun r5 _ => ?_
    refine Run.y (gv := vIv) (fun _ => ?_) (fun _ => ?_)
    · refine Run.q (e := vIv) (gv := vIv) (ok_impl_Whole) fun r6 _ => ?_
      exact Run.x 1
    · refine Run.q (e := vIv) (gv := vIv) (ok_impl_bounded _ _ _) fun r7 _ => ?_
      exact Run.x 1

theorem ok_impl_AsinhI (a0 : Iv) : Fun Tryz.prog 270 [] #[vIv a0] (vIv (F_impl_AsinhI a0)) [] := by
  refine Fun.ofH 400 E_ok mixed Tryz.func270 (by kernel_rfl) (by kernel_rfl) ?_
  unfold F_impl_AsinhI
  refine Run.o (by kernel_rfl) ?_ ?_
  · refine Run.m (by kernel_rfl) (by kernel_rfl) (ok_impl_odd 351) (by kernel_rfl) (by kernel_rfl) (by kernel_rfl) ?_
    refine Run.w (e := vIv) (gv := vIv) [2] (ok_impl_monotonic__impl_odd_1_p_impl_AsinhI_1 _) fun r1 hr1 => ?_
    exact Run.x 0
  · refine Run.m (by kernel_rfl) (by kernel_rfl) (ok_impl_odd 351) (by kernel_rfl) (by kernel_rfl) (by kernel_rfl) ?_
    refine Run.w (e := vIv) (gv := vIv) [2] (ok_impl_monotonic__impl_odd_1_p_impl_AsinhI_1 _) fun r2 hr2 => ?_
    exact Run.x 0

theorem ok_impl_isometricSphere (a0 : Iv) : Fun Tryz.prog 149 [] #[vIv a0] (vIv (F_impl_isometricSphere a0)) [] := by
  refine Fun.ofH 400 E_ok mixed Tryz.func149 (by kernel_rfl) (by kernel_rfl) ?_
  unfold F_impl_isometricSphere
  refine Run.q (e := vIv) (gv := vIv) (ok_impl_TanI _) fun r1 _ => ?_
  refine Run.q (e := vIv) (gv := vIv) (ok_impl_AsinhI _) fun r2 _ => ?_
  exact Run.x 0

theorem ok_impl_conic_cone__pCn (b0 : Cn) : Fun Tryz.prog 144 [(#[.int .i64 b0.p.kind.val, .int .i64 b0.p.lat0.val, .int .i64 b0.p.lon0.val, .int .i64 b0.p.lat1.val, .int .i64 b0.p.lat2.val, .int .i64 b0.a.lo.val, .int .i64 b0.a.hi.val, .int .i64 b0.b.lo.val, .int .i64 b0.b.hi.val, .int .i64 b0.o.lo.val, .int .i64 b0.o.hi.val, .int .i64 b0.n.lo.val, .int .i64 b0.n.hi.val, .int .i64 b0.g.lo.val, .int .i64 b0.g.hi.val], 87)] #[.pointer (some ⟨0, 0, none⟩)] (vIv (F_impl_conic_cone__pCn b0)) [(#[.int .i64 b0.p.kind.val, .int .i64 b0.p.lat0.val, .int .i64 b0.p.lon0.val, .int .i64 b0.p.lat1.val, .int .i64 b0.p.lat2.val, .int .i64 b0.a.lo.val, .int .i64 b0.a.hi.val, .int .i64 b0.b.lo.val, .int .i64 b0.b.hi.val, .int .i64 b0.o.lo.val, .int .i64 b0.o.hi.val, .int .i64 b0.n.lo.val, .int .i64 b0.n.hi.val, .int .i64 b0.g.lo.val, .int .i64 b0.g.hi.val], 87)] := by
  refine Fun.ofH 400 E_ok mixed Tryz.func144 (by kernel_rfl) (by kernel_rfl) ?_
  unfold F_impl_conic_cone__pCn
  refine Run.y (gv := vIv) (fun _ => ?_) (fun _ => ?_)
  · refine Run.q (e := vIv) (gv := vIv) (ok_impl_SinI _) fun r1 _ => ?_
    refine Run.q (e := vIv) (gv := vIv) (ok_impl_SinI _) fun r2 _ => ?_
    refine Run.q (e := vIv) (gv := vIv) (ok_impl_AddI _ _) fun r3 _ => ?_
    refine Run.q (e := vIv) (gv := vIv) (ok_impl_HalfI _) fun r4 _ => ?_
    exact Run.x 1
  · refine Run.y (gv := vIv) (fun _ => ?_) (fun _ => ?_)
    · refine Run.q (e := vIv) (gv := vIv) (ok_impl_SinI _) fun r5 _ => ?_
      exact Run.x 1
    · refine Run.y (gv := vIv) (fun _ => ?_) (fun _ => ?_)
      · refine Run.q (e := vIv) (gv := vIv) (ok_impl_CosI _) fun r6 _ => ?_
        refine Run.q (e := vIv) (gv := vIv) (ok_impl_LogI _) fun r7 _ => ?_
        refine Run.q (e := vIv) (gv := vIv) (ok_impl_CosI _) fun r8 _ => ?_
        refine Run.q (e := vIv) (gv := vIv) (ok_impl_LogI _) fun r9 _ => ?_
        refine Run.q (e := vIv) (gv := vIv) (ok_impl_SubI _ _) fun r10 _ => ?_
        refine Run.q (e := vIv) (gv := vIv) (ok_impl_isometricSphere _) fun r11 _ => ?_
        refine Run.q (e := vIv) (gv := vIv) (ok_impl_isometricSphere _) fun r12 _ => ?_
        refine Run.q (e := vIv) (gv := vIv) (ok_impl_SubI _ _) fun r13 _ => ?_
        refine Run.q (e := vIv) (gv := vIv) (ok_impl_DivI _ _) fun r14 _ => ?_
        exact Run.x 1
      · refine Run.q (e := vIv) (gv := vIv) (ok_impl_CosI _) fun r15 _ => ?_
        refine Run.q (e := vIv) (gv := vIv) (ok_impl_CosI _) fun r16 _ => ?_
        refine Run.q (e := vIv) (gv := vIv) (ok_impl_SubI _ _) fun r17 _ => ?_
        refine Run.q (e := vIv) (gv := vIv) (ok_impl_SubI _ _) fun r18 _ => ?_
        refine Run.q (e := vIv) (gv := vIv) (ok_impl_DivI _ _) fun r19 _ => ?_
        exact Run.x 1

theorem ok_impl_times (a0 : I64) (a1 : Iv) : Fun Tryz.prog 147 [] #[vI a0, vIv a1] (vIv (F_impl_times a0 a1)) [] := by
  refine Fun.ofH 400 E_ok mixed Tryz.func147 (by kernel_rfl) (by kernel_rfl) ?_
  unfold F_impl_times
  refine Run.q (e := vIv) (gv := vIv) (ok_impl_Integer _) fun r1 _ => ?_
  refine Run.q (e := vIv) (gv := vIv) (ok_impl_MulI _ _) fun r2 _ => ?_
  exact Run.x 0

theorem ok_impl_scaled_L0 : ∀ (fu : Nat) (x_k : I64) (y_0 : Iv) (q0 : -100 ≤ x_k.val) (q1 : x_k.val ≤ 100) (hm : x_k.val.toNat < fu) (t : Array Value) (ht : maskA t [0, 3, 5, 6, 7, 8, 9, 10, 11, 12, 13, 14, 15, 16, 17, 18, 19, 20, 21, 22, 23, 24, 25, 26] = #[undef, .int .i64 x_k.val, .pointer (some ⟨0, 0, none⟩), undef, .pointer (some ⟨1, 0, none⟩), undef, undef, undef, undef, undef, undef, undef, undef, undef, undef, undef, undef, undef, undef, undef, undef, undef, undef, undef, undef, undef, undef]), Cfg Tryz.prog 349 (loopAt Tryz.f349 0) t [(#[.int .i64 y_0.lo.val, .int .i64 y_0.hi.val], 25), (#[.int .i64 0, .int .i64 0], 25)] (RvH [] (vIv (F_impl_scaled_L0 fu x_k y_0))) := by
  intro fu
  induction fu with
  | zero => intro x_k y_0 q0 q1 hm; exact absurd hm (Nat.not_lt_zero _)
  | succ fu ih =>
    intro x_k y_0 q0 q1 hm t ht
    refine Cfg.round E_ok mixed Tryz.func349 ht fun g => ?_
    unfold F_impl_scaled_L0
    refine Run.y (gv := vIv) (fun h1 => ?_) (fun h1 => ?_)
    · refine Run.q (e := vIv) (gv := vIv) (ok_impl_DoubleI _) fun r2 hr2 => ?_
      exact Run.l (by kernel_rfl) (by kernel_rfl) (by kernel_rfl) (by kernel_rfl) (ih (w64 (x_k.val - 1)) r2 (by first | omega | (simp only [w64_val, wu64_val, c64_val, cu64_val, decide_eq_true_eq, decide_eq_false_iff_not, cond_true, cond_false] at *; omega)) (by first | omega | (simp only [w64_val, wu64_val, c64_val, cu64_val, decide_eq_true_eq, decide_eq_false_iff_not, cond_true, cond_false] at *; omega)) (by first | omega | (simp only [w64_val, wu64_val, c64_val, cu64_val, decide_eq_true_eq, decide_eq_false_iff_not, cond_true, cond_false] at *; omega)))
    · refine Run.q (e := vB) (gv := vIv) (ok_impl_IsWhole _) fun r3 hr3 => ?_
      refine Run.y (gv := vIv) (fun h4 => ?_) (fun h4 => ?_)
      · refine Run.q (e := vIv) (gv := vIv) (ok_impl_Whole) fun r5 hr5 => ?_
        exact Run.x 0
      · refine Run.k (c := (decide (0 ≤ (w64 (0 - x_k.val)).val))) (by kernel_rfl) (by simp only [w64_val, wu64_val, c64_val, cu64_val, decide_eq_true_eq, decide_eq_false_iff_not, cond_true, cond_false] at *; omega) ?_
        refine Run.k (c := (decide (0 ≤ (w64 (0 - x_k.val)).val))) (by kernel_rfl) (by simp only [w64_val, wu64_val, c64_val, cu64_val, decide_eq_true_eq, decide_eq_false_iff_not, cond_true, cond_false] at *; omega) ?_
        exact Run.x 0

theorem ok_impl_scaled (a0 : Iv) (a1 : I64) (p0 : -100 ≤ a1.val) (p1 : a1.val ≤ 100) : Fun Tryz.prog 349 [] #[vIv a0, vI a1] (vIv (F_impl_scaled a0 a1)) [] := by
  refine Fun.ofH 400 E_ok mixed Tryz.func349 (by kernel_rfl) (by kernel_rfl) ?_
  unfold F_impl_scaled
  exact Run.l (by kernel_rfl) (by kernel_rfl) (by kernel_rfl) (by kernel_rfl) (ok_impl_scaled_L0 (a1.val.toNat + 1) a1 a0 (by first | omega | (simp only [w64_val, wu64_val, c64_val, cu64_val, decide_eq_true_eq, decide_eq_false_iff_not, cond_true, cond_false] at *; omega)) (by first | omega | (simp only [w64_val, wu64_val, c64_val, cu64_val, decide_eq_true_eq, decide_eq_false_iff_not, cond_true, cond_false] at *; omega)) (by first | omega | (simp only [w64_val, wu64_val, c64_val, cu64_val, decide_eq_true_eq, decide_eq_false_iff_not, cond_true, cond_false] at *; omega)))

theorem ok_impl_ExpAt (a0 : I64) : Fun Tryz.prog 269 [] #[vI a0] (vIv (F_impl_ExpAt a0)) [] := by
  refine Fun.ofH 400 E_ok mixed Tryz.func269 (by kernel_rfl) (by kernel_rfl) ?_
  unfold F_impl_ExpAt
  refine Run.q (e := vB) (gv := vIv) (ok_impl_ValidFix _) fun r1 hr1 => ?_
  refine Run.y (gv := vIv) (fun h2 => ?_) (fun h2 => ?_)
  · refine Run.z [true, true, true] ?_
    refine Run.q (e := vIv) (gv := vIv) (ok_impl_Whole) fun r3 hr3 => ?_
    exact Run.x 0
  · refine Run.z [false, false] ?_
    refine Run.y (gv := vIv) (fun h4 => ?_) (fun h4 => ?_)
    · refine Run.q (e := vIv) (gv := vIv) (ok_impl_Whole) fun r5 hr5 => ?_
      exact Run.x 0
    · refine Run.y (gv := vIv) (fun h6 => ?_) (fun h6 => ?_)
      · exact Run.x 0
      · refine Run.z [true] ?_
        refine Run.y (gv := vIv) (fun h7 => ?_) (fun h7 => ?_)
        · refine Run.q (e := vIv) (gv := vIv) (ok_impl_at _) fun r8 hr8 => ?_
          refine Run.q (e := vIv) (gv := vIv) (ok_impl_LogTwoI _) fun r9 hr9 => ?_
          refine Run.q (e := vIv) (gv := vIv) (ok_impl_SubI _ _) fun r10 hr10 => ?_
          refine Run.q (e := vIv) (gv := vIv) (ok_impl_Integer _) fun r11 hr11 => ?_
          refine Run.u 400 E_ok mixed Tryz.func269 ?_
          refine Run.z [true] ?_
          refine Run.q (e := vIv) (gv := vIv) (ok_impl_Integer _) fun r12 hr12 => ?_
          refine Run.q (e := vIv) (gv := vIv) (ok_impl_MulI _ _) fun r13 hr13 => ?_
          refine Run.q (e := vIv) (gv := vIv) (ok_impl_Integer _) fun r14 hr14 => ?_
          refine Run.q (e := vIv) (gv := vIv) (ok_impl_DivI _ _) fun r15 hr15 => ?_
          refine Run.q (e := vIv) (gv := vIv) (ok_impl_AddI _ _) fun r16 hr16 => ?_
          refine Run.u 400 E_ok mixed Tryz.func269 ?_
          refine Run.z [true] ?_
          refine Run.q (e := vIv) (gv := vIv) (ok_impl_Integer _) fun r17 hr17 => ?_
          refine Run.q (e := vIv) (gv := vIv) (ok_impl_MulI _ _) fun r18 hr18 => ?_
          refine Run.q (e := vIv) (gv := vIv) (ok_impl_Integer _) fun r19 hr19 => ?_
          refine Run.q (e := vIv) (gv := vIv) (ok_impl_DivI _ _) fun r20 hr20 => ?_
          refine Run.q (e := vIv) (gv := vIv) (ok_impl_AddI _ _) fun r21 hr21 => ?_
          refine Run.u 400 E_ok mixed Tryz.func269 ?_
          refine Run.z [true] ?_
          refine Run.q (e := vIv) (gv := vIv) (ok_impl_Integer _) fun r22 hr22 => ?_
          refine Run.q (e := vIv) (gv := vIv) (ok_impl_MulI _ _) fun r23 hr23 => ?_
          refine Run.q (e := vIv) (gv := vIv) (ok_impl_Integer _) fun r24 hr24 => ?_
          refine Run.q (e := vIv) (gv := vIv) (ok_impl_DivI _ _) fun r25 hr25 => ?_
          refine Run.q (e := vIv) (gv := vIv) (ok_impl_AddI _ _) fun r26 hr26 => ?_
          refine Run.u 400 E_ok mixed Tryz.func269 ?_
          refine Run.z [true] ?_
          refine Run.q (e := vIv) (gv := vIv) (ok_impl_Integer _) fun r27 hr27 => ?_
          refine Run.q (e := vIv) (gv := vIv) (ok_impl_MulI _ _) fun r28 hr28 => ?_
          refine Run.q (e := vIv) (gv := vIv) (ok_impl_Integer _) fun r29 hr29 => ?_
          refine Run.q (e := vIv) (gv := vIv) (ok_impl_DivI _ _) fun r30 hr30 => ?_
          refine Run.q (e := vIv) (gv := vIv) (ok_impl_AddI _ _) fun r31 hr31 => ?_
          refine Run.u 400 E_ok mixed Tryz.func269 ?_
          refine Run.z [true] ?_
          refine Run.q (e := vIv) (gv := vIv) (ok_impl_Integer _) fun r32 hr32 => ?_
          refine Run.q (e := vIv) (gv := vIv) (ok_impl_MulI _ _) fun r33 hr33 => ?_
          refine Run.q (e := vIv) (gv := vIv) (ok_impl_Integer _) fun r34 hr34 => ?_
          refine Run.q (e := vIv) (gv := vIv) (ok_impl_DivI _ _) fun r35 hr35 => ?_
          refine Run.q (e := vIv) (gv := vIv) (ok_impl_AddI _ _) fun r36 hr36 => ?_
          refine Run.u 400 E_ok mixed Tryz.func269 ?_
          refine Run.z [true] ?_
          refine Run.q (e := vIv) (gv := vIv) (ok_impl_Integer _) fun r37 hr37 => ?_
          refine Run.q (e := vIv) (gv := vIv) (ok_impl_MulI _ _) fun r38 hr38 => ?_
          refine Run.q (e := vIv) (gv := vIv) (ok_impl_Integer _) fun r39 hr39 => ?_
          refine Run.q (e := vIv) (gv := vIv) (ok_impl_DivI _ _) fun r40 hr40 => ?_
          refine Run.q (e := vIv) (gv := vIv) (ok_impl_AddI _ _) fun r41 hr41 => ?_
          refine Run.u 400 E_ok mixed Tryz.func269 ?_
          refine Run.z [true] ?_
          refine Run.q (e := vIv) (gv := vIv) (ok_impl_Integer _) fun r42 hr42 => ?_
          refine Run.q (e := vIv) (gv := vIv) (ok_impl_MulI _ _) fun r43 hr43 => ?_
          refine Run.q (e := vIv) (gv := vIv) (ok_impl_Integer _) fun r44 hr44 => ?_
          refine Run.q (e := vIv) (gv := vIv) (ok_impl_DivI _ _) fun r45 hr45 => ?_
          refine Run.q (e := vIv) (gv := vIv) (ok_impl_AddI _ _) fun r46 hr46 => ?_
          refine Run.u 400 E_ok mixed Tryz.func269 ?_
          refine Run.z [true] ?_
          refine Run.q (e := vIv) (gv := vIv) (ok_impl_Integer _) fun r47 hr47 => ?_
          refine Run.q (e := vIv) (gv := vIv) (ok_impl_MulI _ _) fun r48 hr48 => ?_
          refine Run.q (e := vIv) (gv := vIv) (ok_impl_Integer _) fun r49 hr49 => ?_
          refine Run.q (e := vIv) (gv := vIv) (ok_impl_DivI _ _) fun r50 hr50 => ?_
          refine Run.q (e := vIv) (gv := vIv) (ok_impl_AddI _ _) fun r51 hr51 => ?_
          refine Run.u 400 E_ok mixed Tryz.func269 ?_
          refine Run.z [true] ?_
          refine Run.q (e := vIv) (gv := vIv) (ok_impl_Integer _) fun r52 hr52 => ?_
          refine Run.q (e := vIv) (gv := vIv) (ok_impl_MulI _ _) fun r53 hr53 => ?_
          refine Run.q (e := vIv) (gv := vIv) (ok_impl_Integer _) fun r54 hr54 => ?_
          refine Run.q (e := vIv) (gv := vIv) (ok_impl_DivI _ _) fun r55 hr55 => ?_
          refine Run.q (e := vIv) (gv := vIv) (ok_impl_AddI _ _) fun r56 hr56 => ?_
          refine Run.u 400 E_ok mixed Tryz.func269 ?_
          refine Run.z [false] ?_
          refine Run.q (e := vIv) (gv := vIv) (ok_impl_widened _ _) fun r57 hr57 => ?_
          refine Run.q (e := vIv) (gv := vIv) (ok_impl_scaled _ _ (by have z := expk_range a0 h6 h4; first | exact z.1 | exact z.2.1 | exact z.2.2.1 | exact z.2.2.2) (by have z := expk_range a0 h6 h4; first | exact z.1 | exact z.2.1 | exact z.2.2.1 | exact z.2.2.2)) fun r58 hr58 => ?_
          exact Run.x 0
        · refine Run.q (e := vIv) (gv := vIv) (ok_impl_at _) fun r59 hr59 => ?_
          refine Run.q (e := vIv) (gv := vIv) (ok_impl_LogTwoI _) fun r60 hr60 => ?_
          refine Run.q (e := vIv) (gv := vIv) (ok_impl_SubI _ _) fun r61 hr61 => ?_
          refine Run.q (e := vIv) (gv := vIv) (ok_impl_Integer _) fun r62 hr62 => ?_
          refine Run.u 400 E_ok mixed Tryz.func269 ?_
          refine Run.z [true] ?_
          refine Run.q (e := vIv) (gv := vIv) (ok_impl_Integer _) fun r63 hr63 => ?_
          refine Run.q (e := vIv) (gv := vIv) (ok_impl_MulI _ _) fun r64 hr64 => ?_
          refine Run.q (e := vIv) (gv := vIv) (ok_impl_Integer _) fun r65 hr65 => ?_
          refine Run.q (e := vIv) (gv := vIv) (ok_impl_DivI _ _) fun r66 hr66 => ?_
          refine Run.q (e := vIv) (gv := vIv) (ok_impl_AddI _ _) fun r67 hr67 => ?_
          refine Run.u 400 E_ok mixed Tryz.func269 ?_
          refine Run.z [true] ?_
          refine Run.q (e := vIv) (gv := vIv) (ok_impl_Integer _) fun r68 hr68 => ?_
          refine Run.q (e := vIv) (gv := vIv) (ok_impl_MulI _ _) fun r69 hr69 => ?_
          refine Run.q (e := vIv) (gv := vIv) (ok_impl_Integer _) fun r70 hr70 => ?_
          refine Run.q (e := vIv) (gv := vIv) (ok_impl_DivI _ _) fun r71 hr71 => ?_
          refine Run.q (e := vIv) (gv := vIv) (ok_impl_AddI _ _) fun r72 hr72 => ?_
          refine Run.u 400 E_ok mixed Tryz.func269 ?_
          refine Run.z [true] ?_
          refine Run.q (e := vIv) (gv := vIv) (ok_impl_Integer _) fun r73 hr73 => ?_
          refine Run.q (e := vIv) (gv := vIv) (ok_impl_MulI _ _) fun r74 hr74 => ?_
          refine Run.q (e := vIv) (gv := vIv) (ok_impl_Integer _) fun r75 hr75 => ?_
          refine Run.q (e := vIv) (gv := vIv) (ok_impl_DivI _ _) fun r76 hr76 => ?_
          refine Run.q (e := vIv) (gv := vIv) (ok_impl_AddI _ _) fun r77 hr77 => ?_
          refine Run.u 400 E_ok mixed Tryz.func269 ?_
          refine Run.z [true] ?_
          refine Run.q (e := vIv) (gv := vIv) (ok_impl_Integer _) fun r78 hr78 => ?_
          refine Run.q (e := vIv) (gv := vIv) (ok_impl_MulI _ _) fun r79 hr79 => ?_
          refine Run.q (e := vIv) (gv := vIv) (ok_impl_Integer _) fun r80 hr80 => ?_
          refine Run.q (e := vIv) (gv := vIv) (ok_impl_DivI _ _) fun r81 hr81 => ?_
          refine Run.q (e := vIv) (gv := vIv) (ok_impl_AddI _ _) fun r82 hr82 => ?_
          refine Run.u 400 E_ok mixed Tryz.func269 ?_
          refine Run.z [true] ?_
          refine Run.q (e := vIv) (gv := vIv) (ok_impl_Integer _) fun r83 hr83 => ?_
          refine Run.q (e := vIv) (gv := vIv) (ok_impl_MulI _ _) fun r84 hr84 => ?_
          refine Run.q (e := vIv) (gv := vIv) (ok_impl_Integer _) fun r85 hr85 => ?_
          refine Run.q (e := vIv) (gv := vIv) (ok_impl_DivI _ _) fun r86 hr86 => ?_
          refine Run.q (e := vIv) (gv := vIv) (ok_impl_AddI _ _) fun r87 hr87 => ?_
          refine Run.u 400 E_ok mixed Tryz.func269 ?_
          refine Run.z [true] ?_
          refine Run.q (e := vIv) (gv := vIv) (ok_impl_Integer _) fun r88 hr88 => ?_
          refine Run.q (e := vIv) (gv := vIv) (ok_impl_MulI _ _) fun r89 hr89 => ?_
          refine Run.q (e := vIv) (gv := vIv) (ok_impl_Integer _) fun r90 hr90 => ?_
          refine Run.q (e := vIv) (gv := vIv) (ok_impl_DivI _ _) fun r91 hr91 => ?_
          refine Run.q (e := vIv) (gv := vIv) (ok_impl_AddI _ _) fun r92 hr92 => ?_
          refine Run.u 400 E_ok mixed Tryz.func269 ?_
          refine Run.z [true] ?_
          refine Run.q (e := vIv) (gv := vIv) (ok_impl_Integer _) fun r93 hr93 => ?_
          refine Run.q (e := vIv) (gv := vIv) (ok_impl_MulI _ _) fun r94 hr94 => ?_
          refine Run.q (e := vIv) (gv := vIv) (ok_impl_Integer _) fun r95 hr95 => ?_
          refine Run.q (e := vIv) (gv := vIv) (ok_impl_DivI _ _) fun r96 hr96 => ?_
          refine Run.q (e := vIv) (gv := vIv) (ok_impl_AddI _ _) fun r97 hr97 => ?_
          refine Run.u 400 E_ok mixed Tryz.func269 ?_
          refine Run.z [true] ?_
          refine Run.q (e := vIv) (gv := vIv) (ok_impl_Integer _) fun r98 hr98 => ?_
          refine Run.q (e := vIv) (gv := vIv) (ok_impl_MulI _ _) fun r99 hr99 => ?_
          refine Run.q (e := vIv) (gv := vIv) (ok_impl_Integer _) fun r100 hr100 => ?_
          refine Run.q (e := vIv) (gv := vIv) (ok_impl_DivI _ _) fun r101 hr101 => ?_
          refine Run.q (e := vIv) (gv := vIv) (ok_impl_AddI _ _) fun r102 hr102 => ?_
          refine Run.u 400 E_ok mixed Tryz.func269 ?_
          refine Run.z [true] ?_
          refine Run.q (e := vIv) (gv := vIv) (ok_impl_Integer _) fun r103 hr103 => ?_
          refine Run.q (e := vIv) (gv := vIv) (ok_impl_MulI _ _) fun r104 hr104 => ?_
          refine Run.q (e := vIv) (gv := vIv) (ok_impl_Integer _) fun r105 hr105 => ?_
          refine Run.q (e := vIv) (gv := vIv) (ok_impl_DivI _ _) fun r106 hr106 => ?_
          refine Run.q (e := vIv) (gv := vIv) (ok_impl_AddI _ _) fun r107 hr107 => ?_
          refine Run.u 400 E_ok mixed Tryz.func269 ?_
          refine Run.z [false] ?_
          refine Run.q (e := vIv) (gv := vIv) (ok_impl_widened _ _) fun r108 hr108 => ?_
          refine Run.q (e := vIv) (gv := vIv) (ok_impl_scaled _ _ (by have z := expk_range a0 h6 h4; first | exact z.1 | exact z.2.1 | exact z.2.2.1 | exact z.2.2.2) (by have z := expk_range a0 h6 h4; first | exact z.1 | exact z.2.1 | exact z.2.2.1 | exact z.2.2.2)) fun r109 hr109 => ?_
          exact Run.x 0

theorem ok_impl_monotonic__impl_ExpAt (a0 : Iv) : Fun Tryz.prog 250 [] #[vIv a0, .func (.func 269) #[] #[]] (vIv (F_impl_monotonic__impl_ExpAt a0)) [] := by
  refine Fun.ofH 400 E_ok mixed Tryz.func250 (by kernel_rfl) (by kernel_rfl) ?_
  unfold F_impl_monotonic__impl_ExpAt
  refine Run.q (e := vB) (gv := vIv) (ok_impl_IsWhole _) fun r1 _ => ?_
  refine Run.y (gv := vIv) (fun _ => ?_) (fun _ => ?_)
  · refine Run.q (e := vIv) (gv := vIv) (ok_impl_Whole) fun r2 _ => ?_
    exact Run.x 0
  · refine Run.q (e := vIv) (gv := vIv) (ok_impl_ExpAt _) fun r3 _ => ?_
    refine Run.q (e := vIv) (gv := vIv) (ok_impl_ExpAt _) fun r4 _ => ?_
    refine Run.q (e := vB) (gv := vIv) (ok_impl_areBounded _ _) fun r5 _ => ?_
    refine Run.y (gv := vIv) (fun _ => ?_) (fun _ => ?_)
    · refine Run.q (e := vIv) (gv := vIv) (ok_impl_Whole) fun r6 _ => ?_
      exact Run.x 0
    · refine Run.q (e := vIv) (gv := vIv) (ok_impl_bounded _ _ _) fun r7 _ => ?_
      exact Run.x 0

theorem ok_impl_ExpI (a0 : Iv) : Fun Tryz.prog 148 [] #[vIv a0] (vIv (F_impl_ExpI a0)) [] := by
  refine Fun.ofH 400 E_ok mixed Tryz.func148 (by kernel_rfl) (by kernel_rfl) ?_
  unfold F_impl_ExpI
  refine Run.q (e := vIv) (gv := vIv) (ok_impl_monotonic__impl_ExpAt _) fun r1 _ => ?_
  exact Run.x 0

theorem ok_impl_conic_constant__pCn (b0 : Cn) : Fun Tryz.prog 145 [(#[.int .i64 b0.p.kind.val, .int .i64 b0.p.lat0.val, .int .i64 b0.p.lon0.val, .int .i64 b0.p.lat1.val, .int .i64 b0.p.lat2.val, .int .i64 b0.a.lo.val, .int .i64 b0.a.hi.val, .int .i64 b0.b.lo.val, .int .i64 b0.b.hi.val, .int .i64 b0.o.lo.val, .int .i64 b0.o.hi.val, .int .i64 b0.n.lo.val, .int .i64 b0.n.hi.val, .int .i64 b0.g.lo.val, .int .i64 b0.g.hi.val], 87)] #[.pointer (some ⟨0, 0, none⟩)] (vIv (F_impl_conic_constant__pCn b0)) [(#[.int .i64 b0.p.kind.val, .int .i64 b0.p.lat0.val, .int .i64 b0.p.lon0.val, .int .i64 b0.p.lat1.val, .int .i64 b0.p.lat2.val, .int .i64 b0.a.lo.val, .int .i64 b0.a.hi.val, .int .i64 b0.b.lo.val, .int .i64 b0.b.hi.val, .int .i64 b0.o.lo.val, .int .i64 b0.o.hi.val, .int .i64 b0.n.lo.val, .int .i64 b0.n.hi.val, .int .i64 b0.g.lo.val, .int .i64 b0.g.hi.val], 87)] := by
  refine Fun.ofH 400 E_ok mixed Tryz.func145 (by kernel_rfl) (by kernel_rfl) ?_
  unfold F_impl_conic_constant__pCn
  refine Run.y (gv := vIv) (fun _ => ?_) (fun _ => ?_)
  · refine Run.q (e := vIv) (gv := vIv) (ok_impl_CosI _) fun r1 _ => ?_
    refine Run.q (e := vIv) (gv := vIv) (ok_impl_SqrI _) fun r2 _ => ?_
    refine Run.q (e := vIv) (gv := vIv) (ok_impl_times _ _) fun r3 _ => ?_
    refine Run.q (e := vIv) (gv := vIv) (ok_impl_SinI _) fun r4 _ => ?_
    refine Run.q (e := vIv) (gv := vIv) (ok_impl_MulI _ _) fun r5 _ => ?_
    refine Run.q (e := vIv) (gv := vIv) (ok_impl_AddI _ _) fun r6 _ => ?_
    exact Run.x 1
  · refine Run.y (gv := vIv) (fun _ => ?_) (fun _ => ?_)
    · refine Run.q (e := vIv) (gv := vIv) (ok_impl_CosI _) fun r7 _ => ?_
      refine Run.q (e := vIv) (gv := vIv) (ok_impl_isometricSphere _) fun r8 _ => ?_
      refine Run.q (e := vIv) (gv := vIv) (ok_impl_MulI _ _) fun r9 _ => ?_
      refine Run.q (e := vIv) (gv := vIv) (ok_impl_ExpI _) fun r10 _ => ?_
      refine Run.q (e := vIv) (gv := vIv) (ok_impl_MulI _ _) fun r11 _ => ?_
      refine Run.q (e := vIv) (gv := vIv) (ok_impl_DivI _ _) fun r12 _ => ?_
      exact Run.x 1
    · refine Run.q (e := vIv) (gv := vIv) (ok_impl_CosI _) fun r13 _ => ?_
      refine Run.q (e := vIv) (gv := vIv) (ok_impl_DivI _ _) fun r14 _ => ?_
      refine Run.q (e := vIv) (gv := vIv) (ok_impl_AddI _ _) fun r15 _ => ?_
      exact Run.x 1

def R_impl_newConic (r : Cn × I64) : Value → List Blk → Prop := MB 87 (r.2.val != 0) (vCn r.1).cells
theorem ok_impl_newConic (a0 : Pj) : FunR Tryz.prog 50 [] #[vPj a0] (MBx 87 ((F_impl_newConic a0).2.val != 0) (vCn (F_impl_newConic a0).1).cells) := by
  refine FunR.mb (by kernel_rfl) (FunR.of 400 E_ok mixed Tryz.func50 (by kernel_rfl) ?_)
  show Run _ _ (R_impl_newConic (F_impl_newConic a0)) _
  unfold F_impl_newConic
  refine Run.gq (Rg := R_impl_newConic) (e := vB) (ok_impl_ValidProjection _) fun r1 hr1 => ?_
  refine Run.gy (Rg := R_impl_newConic) (fun h2 => ?_) (fun h2 => ?_)
  · refine Run.z [true, true, true, true, true] ?_
    exact Run.mbn (by kernel_rfl) (by kernel_rfl)
  · refine Run.z [false, false] ?_
    refine Run.gq (Rg := R_impl_newConic) (e := vB) (ok_impl_isConic _) fun r3 hr3 => ?_
    refine Run.z [false, false] ?_
    refine Run.gy (Rg := R_impl_newConic) (fun h4 => ?_) (fun h4 => ?_)
    · exact Run.mbn (by kernel_rfl) (by kernel_rfl)
    · refine Run.gq (Rg := R_impl_newConic) (e := vIv) (ok_impl_RadiansOf _) fun r5 hr5 => ?_
      refine Run.gq (Rg := R_impl_newConic) (e := vIv) (ok_impl_RadiansOf _) fun r6 hr6 => ?_
      refine Run.gq (Rg := R_impl_newConic) (e := vIv) (ok_impl_RadiansOf _) fun r7 hr7 => ?_
      refine Run.gw (Rg := R_impl_newConic) (e := vIv) [1] (ok_impl_conic_cone__pCn _) fun r8 hr8 => ?_
      refine Run.gw (Rg := R_impl_newConic) (e := vIv) [1] (ok_impl_conic_constant__pCn _) fun r9 hr9 => ?_
      exact Run.mbp 1 (by kernel_rfl) (by kernel_rfl) (by kernel_rfl)

theorem ok_impl_isPole (a0 : Pt) : Fun Tryz.prog 51 [] #[vPt a0] (vB (F_impl_isPole a0)) [] := by
  refine Fun.ofH 400 E_ok mixed Tryz.func51 (by kernel_rfl) (by kernel_rfl) ?_
  unfold F_impl_isPole
  refine Run.q (e := vI) (gv := vB) (ok_impl_abs _) fun r1 _ => ?_
  exact Run.x 0

theorem ok_impl_conic_radius__pCn (b0 : Cn) (a0 : Iv) : Fun Tryz.prog 52 [(#[.int .i64 b0.p.kind.val, .int .i64 b0.p.lat0.val, .int .i64 b0.p.lon0.val, .int .i64 b0.p.lat1.val, .int .i64 b0.p.lat2.val, .int .i64 b0.a.lo.val, .int .i64 b0.a.hi.val, .int .i64 b0.b.lo.val, .int .i64 b0.b.hi.val, .int .i64 b0.o.lo.val, .int .i64 b0.o.hi.val, .int .i64 b0.n.lo.val, .int .i64 b0.n.hi.val, .int .i64 b0.g.lo.val, .int .i64 b0.g.hi.val], 87)] #[.pointer (some ⟨0, 0, none⟩), vIv a0] (vIv (F_impl_conic_radius__pCn b0 a0)) [(#[.int .i64 b0.p.kind.val, .int .i64 b0.p.lat0.val, .int .i64 b0.p.lon0.val, .int .i64 b0.p.lat1.val, .int .i64 b0.p.lat2.val, .int .i64 b0.a.lo.val, .int .i64 b0.a.hi.val, .int .i64 b0.b.lo.val, .int .i64 b0.b.hi.val, .int .i64 b0.o.lo.val, .int .i64 b0.o.hi.val, .int .i64 b0.n.lo.val, .int .i64 b0.n.hi.val, .int .i64 b0.g.lo.val, .int .i64 b0.g.hi.val], 87)] := by
  refine Fun.ofH 400 E_ok mixed Tryz.func52 (by kernel_rfl) (by kernel_rfl) ?_
  unfold F_impl_conic_radius__pCn
  refine Run.y (gv := vIv) (fun _ => ?_) (fun _ => ?_)
  · refine Run.q (e := vIv) (gv := vIv) (ok_impl_times _ _) fun r1 _ => ?_
    refine Run.q (e := vIv) (gv := vIv) (ok_impl_SinI _) fun r2 _ => ?_
    refine Run.q (e := vIv) (gv := vIv) (ok_impl_MulI _ _) fun r3 _ => ?_
    refine Run.q (e := vIv) (gv := vIv) (ok_impl_SubI _ _) fun r4 _ => ?_
    refine Run.q (e := vIv) (gv := vIv) (ok_impl_SqrtI _) fun r5 _ => ?_
    refine Run.q (e := vIv) (gv := vIv) (ok_impl_DivI _ _) fun r6 _ => ?_
    exact Run.x 1
  · refine Run.y (gv := vIv) (fun _ => ?_) (fun _ => ?_)
    · refine Run.q (e := vIv) (gv := vIv) (ok_impl_isometricSphere _) fun r7 _ => ?_
      refine Run.q (e := vIv) (gv := vIv) (ok_impl_MulI _ _) fun r8 _ => ?_
      refine Run.q (e := vIv) (gv := vIv) (ok_impl_NegI _) fun r9 _ => ?_
      refine Run.q (e := vIv) (gv := vIv) (ok_impl_ExpI _) fun r10 _ => ?_
      refine Run.q (e := vIv) (gv := vIv) (ok_impl_MulI _ _) fun r11 _ => ?_
      exact Run.x 1
    · refine Run.q (e := vIv) (gv := vIv) (ok_impl_SubI _ _) fun r12 _ => ?_
      exact Run.x 1

theorem ok_impl_ConicForward (a0 : Pj) (a1 : Pt) : Fun Tryz.prog 15 [] #[vPj a0, vPt a1] (vT_Pn_I (F_impl_ConicForward a0 a1)) [] := by
  refine Fun.ofH 400 E_ok mixed Tryz.func15 (by kernel_rfl) (by kernel_rfl) ?_
  unfold F_impl_ConicForward
  refine Run.bmb (nn := fun r : Cn × I64 => (r.2.val != 0)) (cl := fun r : Cn × I64 => (vCn r.1).cells) (gv := vT_Pn_I) (by kernel_rfl) (by kernel_rfl) (ok_impl_newConic _) (by kernel_rfl) (fun _ => rfl) (fun r1 hr1 => ?_) (fun r1 hr1 => ?_)
  · refine Run.z [true, true, true, true, true] ?_
    exact Run.x 0
  · refine Run.z [false, false] ?_
    refine Run.q (e := vB) (gv := vT_Pn_I) (ok_impl_ValidPoint _) fun r2 hr2 => ?_
    refine Run.z [false, false] ?_
    refine Run.y (gv := vT_Pn_I) (fun h3 => ?_) (fun h3 => ?_)
    · exact Run.x 0
    · refine Run.q (e := vB) (gv := vT_Pn_I) (ok_impl_isPole _) fun r4 hr4 => ?_
      refine Run.y (gv := vT_Pn_I) (fun h5 => ?_) (fun h5 => ?_)
      · refine Run.z [true, true, true] ?_
        refine Run.y (gv := vT_Pn_I) (fun h6 => ?_) (fun h6 => ?_)
        · exact Run.x 0
        · refine Run.q (e := vIv) (gv := vT_Pn_I) (ok_impl_LatOf _) fun r7 hr7 => ?_
          refine Run.w (e := vIv) (gv := vT_Pn_I) [3] (ok_impl_conic_radius__pCn _ _) fun r8 hr8 => ?_
          refine Run.q (e := vIv) (gv := vT_Pn_I) (ok_impl_LonFrom _ _) fun r9 hr9 => ?_
          refine Run.q (e := vIv) (gv := vT_Pn_I) (ok_impl_MulI _ _) fun r10 hr10 => ?_
          refine Run.q (e := vIv) (gv := vT_Pn_I) (ok_impl_SinI _) fun r11 hr11 => ?_
          refine Run.q (e := vIv) (gv := vT_Pn_I) (ok_impl_MulI _ _) fun r12 hr12 => ?_
          refine Run.w (e := vIv) (gv := vT_Pn_I) [3] (ok_impl_conic_radius__pCn _ _) fun r13 hr13 => ?_
          refine Run.q (e := vIv) (gv := vT_Pn_I) (ok_impl_CosI _) fun r14 hr14 => ?_
          refine Run.q (e := vIv) (gv := vT_Pn_I) (ok_impl_MulI _ _) fun r15 hr15 => ?_
          refine Run.q (e := vIv) (gv := vT_Pn_I) (ok_impl_SubI _ _) fun r16 hr16 => ?_
          refine Run.q (e := vT_Pn_I) (gv := vT_Pn_I) (ok_impl_planar _ _) fun r17 hr17 => ?_
          exact Run.x 0
      · refine Run.z [false, false, false, false] ?_
        refine Run.q (e := vIv) (gv := vT_Pn_I) (ok_impl_LatOf _) fun r18 hr18 => ?_
        refine Run.w (e := vIv) (gv := vT_Pn_I) [3] (ok_impl_conic_radius__pCn _ _) fun r19 hr19 => ?_
        refine Run.q (e := vIv) (gv := vT_Pn_I) (ok_impl_LonFrom _ _) fun r20 hr20 => ?_
        refine Run.q (e := vIv) (gv := vT_Pn_I) (ok_impl_MulI _ _) fun r21 hr21 => ?_
        refine Run.q (e := vIv) (gv := vT_Pn_I) (ok_impl_SinI _) fun r22 hr22 => ?_
        refine Run.q (e := vIv) (gv := vT_Pn_I) (ok_impl_MulI _ _) fun r23 hr23 => ?_
        refine Run.w (e := vIv) (gv := vT_Pn_I) [3] (ok_impl_conic_radius__pCn _ _) fun r24 hr24 => ?_
        refine Run.q (e := vIv) (gv := vT_Pn_I) (ok_impl_CosI _) fun r25 hr25 => ?_
        refine Run.q (e := vIv) (gv := vT_Pn_I) (ok_impl_MulI _ _) fun r26 hr26 => ?_
        refine Run.q (e := vIv) (gv := vT_Pn_I) (ok_impl_SubI _ _) fun r27 hr27 => ?_
        refine Run.q (e := vT_Pn_I) (gv := vT_Pn_I) (ok_impl_planar _ _) fun r28 hr28 => ?_
        exact Run.x 0

theorem ok_laws_FnExactConicForward (a0 : Pj) (a1 : Pt) : Fun Tryz.prog 4 [] #[vPj a0, vPt a1] (vB (F_laws_FnExactConicForward a0 a1)) [] := by
  refine Fun.ofH 400 E_ok mixed Tryz.func4 (by kernel_rfl) (by kernel_rfl) ?_
  unfold F_laws_FnExactConicForward
  refine Run.q (e := vPj) (gv := vB) (ok_laws_toProjection _) fun r1 _ => ?_
  refine Run.q (e := vPt) (gv := vB) (ok_laws_toPoint _) fun r2 _ => ?_
  refine Run.q (e := vT_Pn_I) (gv := vB) (ok_spec_ConicForward _ _) fun r3 _ => ?_
  refine Run.q (e := vPj) (gv := vB) (ok_laws_toProjection _) fun r4 _ => ?_
  refine Run.q (e := vPt) (gv := vB) (ok_laws_toPoint _) fun r5 _ => ?_
  refine Run.q (e := vT_Pn_I) (gv := vB) (ok_impl_ConicForward _ _) fun r6 _ => ?_
  refine Run.q (e := vB) (gv := vB) (ok_laws_eqPlanar _ _) fun r7 _ => ?_
  refine Run.y (gv := vB) (fun _ => ?_) (fun _ => ?_)
  · refine Run.z [true, true, true, true] ?_
    exact Run.x 0
  · refine Run.z [false, false, false] ?_
    refine Run.y (gv := vB) (fun _ => ?_) (fun _ => ?_)
    · exact Run.x 0
    · exact Run.x 0

theorem ok_laws_toInterval (a0 : Iv) : Fun Tryz.prog 66 [] #[vIv a0] (vIv (F_laws_toInterval a0)) [] := by
  refine Fun.ofH 400 E_ok mixed Tryz.func66 (by kernel_rfl) (by kernel_rfl) ?_
  unfold F_laws_toInterval
  exact Run.x 0

theorem ok_laws_toPlanar (a0 : Pn) : Fun Tryz.prog 17 [] #[vPn a0] (vPn (F_laws_toPlanar a0)) [] := by
  refine Fun.ofH 400 E_ok mixed Tryz.func17 (by kernel_rfl) (by kernel_rfl) ?_
  unfold F_laws_toPlanar
  refine Run.q (e := vIv) (gv := vPn) (ok_laws_toInterval _) fun r1 _ => ?_
  refine Run.q (e := vIv) (gv := vPn) (ok_laws_toInterval _) fun r2 _ => ?_
  exact Run.x 0

theorem ok_spec_l18Kind (a0 : I64) : Fun Tryz.prog 157 [] #[vI a0] (vB (F_spec_l18Kind a0)) [] := by
  refine Fun.ofH 400 E_ok mixed Tryz.func157 (by kernel_rfl) (by kernel_rfl) ?_
  unfold F_spec_l18Kind
  refine Run.q (e := vB) (gv := vB) (ok_spec_l00In _ _ _) fun r1 _ => ?_
  exact Run.x 0

theorem ok_spec_ValidProjection (a0 : Pj) : Fun Tryz.prog 158 [] #[vPj a0] (vB (F_spec_ValidProjection a0)) [] := by
  refine Fun.ofH 400 E_ok mixed Tryz.func158 (by kernel_rfl) (by kernel_rfl) ?_
  unfold F_spec_ValidProjection
  refine Run.q (e := vB) (gv := vB) (ok_spec_l17Ok _) fun r1 _ => ?_
  exact Run.x 0

theorem ok_spec_l18Ok__pPj (b0 : Pj) : Fun Tryz.prog 60 [(#[.int .i64 b0.kind.val, .int .i64 b0.lat0.val, .int .i64 b0.lon0.val, .int .i64 b0.lat1.val, .int .i64 b0.lat2.val], 38)] #[.pointer (some ⟨0, 0, none⟩)] (vB (F_spec_l18Ok__pPj b0)) [(#[.int .i64 b0.kind.val, .int .i64 b0.lat0.val, .int .i64 b0.lon0.val, .int .i64 b0.lat1.val, .int .i64 b0.lat2.val], 38)] := by
  refine Fun.ofH 400 E_ok mixed Tryz.func60 (by kernel_rfl) (by kernel_rfl) ?_
  unfold F_spec_l18Ok__pPj
  refine Run.q (e := vB) (gv := vB) (ok_spec_l18Kind _) fun r1 _ => ?_
  refine Run.y (gv := vB) (fun _ => ?_) (fun _ => ?_)
  · refine Run.z [true, true, true] ?_
    refine Run.q (e := vB) (gv := vB) (ok_spec_ValidProjection _) fun r2 _ => ?_
    refine Run.z [true] ?_
    exact Run.x 1
  · refine Run.z [false, false, false, false] ?_
    exact Run.x 1

theorem ok_spec_AbsI (a0 : Iv) : Fun Tryz.prog 360 [] #[vIv a0] (vIv (F_spec_AbsI a0)) [] := by
  refine Fun.ofH 400 E_ok mixed Tryz.func360 (by kernel_rfl) (by kernel_rfl) ?_
  unfold F_spec_AbsI
  refine Run.q (e := vB) (gv := vIv) (ok_spec_l04Ok _) fun r1 _ => ?_
  refine Run.y (gv := vIv) (fun _ => ?_) (fun _ => ?_)
  · refine Run.q (e := vIv) (gv := vIv) (ok_spec_l04Whole) fun r2 _ => ?_
    exact Run.x 0
  · refine Run.q (e := vT_I_I) (gv := vIv) (ok_spec_l04Ends _) fun r3 _ => ?_
    refine Run.q (e := vIv) (gv := vIv) (ok_spec_l04Make _ _) fun r4 _ => ?_
    exact Run.x 0

theorem ok_spec_l10Ends (a0 : Iv) : Fun Tryz.prog 279 [] #[vIv a0] (vT_I_I (F_spec_l10Ends a0)) [] := by
  refine Fun.ofH 400 E_ok mixed Tryz.func279 (by kernel_rfl) (by kernel_rfl) ?_
  unfold F_spec_l10Ends
  refine Run.q (e := vIv) (gv := vT_I_I) (ok_spec_AbsI _) fun r1 _ => ?_
  exact Run.x 0

theorem ok_spec_l10Sum (a0 : I64) (a1 : I64) (a2 : I64) : Fun Tryz.prog 281 [] #[vI a0, vI a1, vI a2] (vWd (F_spec_l10Sum a0 a1 a2)) [] := by
  refine Fun.ofH 400 E_ok mixed Tryz.func281 (by kernel_rfl) (by kernel_rfl) ?_
  unfold F_spec_l10Sum
  refine Run.q (e := vWd) (gv := vWd) (ok_spec_l02Mul _ _) fun r1 _ => ?_
  refine Run.q (e := vWd) (gv := vWd) (ok_spec_l02Mul _ _) fun r2 _ => ?_
  refine Run.q (e := vWd) (gv := vWd) (ok_spec_l02Plus _ _) fun r3 _ => ?_
  refine Run.q (e := vWd) (gv := vWd) (ok_spec_l02Mul _ _) fun r4 _ => ?_
  refine Run.q (e := vWd) (gv := vWd) (ok_spec_l02Plus _ _) fun r5 _ => ?_
  exact Run.x 0

theorem ok_spec_NormV (a0 : Vc) : Fun Tryz.prog 159 [] #[vVc a0] (vIv (F_spec_NormV a0)) [] := by
  refine Fun.ofH 400 E_ok mixed Tryz.func159 (by kernel_rfl) (by kernel_rfl) ?_
  unfold F_spec_NormV
  refine Run.q (e := vB) (gv := vIv) (ok_spec_IsWhole _) fun r1 _ => ?_
  refine Run.y (gv := vIv) (fun _ => ?_) (fun _ => ?_)
  · refine Run.z [true, true, true, true, true, true, true, true] ?_
    refine Run.q (e := vIv) (gv := vIv) (ok_spec_Whole) fun r2 _ => ?_
    exact Run.x 0
  · refine Run.z [false, false] ?_
    refine Run.q (e := vB) (gv := vIv) (ok_spec_IsWhole _) fun r3 _ => ?_
    refine Run.z [false] ?_
    refine Run.y (gv := vIv) (fun _ => ?_) (fun _ => ?_)
    · refine Run.z [true, true, true, true] ?_
      refine Run.q (e := vIv) (gv := vIv) (ok_spec_Whole) fun r4 _ => ?_
      exact Run.x 0
    · refine Run.z [false, false] ?_
      refine Run.q (e := vB) (gv := vIv) (ok_spec_IsWhole _) fun r5 _ => ?_
      refine Run.z [false] ?_
      refine Run.y (gv := vIv) (fun _ => ?_) (fun _ => ?_)
      · refine Run.q (e := vIv) (gv := vIv) (ok_spec_Whole) fun r6 _ => ?_
        exact Run.x 0
      · refine Run.q (e := vT_I_I) (gv := vIv) (ok_spec_l10Ends _) fun r7 _ => ?_
        refine Run.q (e := vT_I_I) (gv := vIv) (ok_spec_l10Ends _) fun r8 _ => ?_
        refine Run.q (e := vT_I_I) (gv := vIv) (ok_spec_l10Ends _) fun r9 _ => ?_
        refine Run.q (e := vWd) (gv := vIv) (ok_spec_l10Sum _ _ _) fun r10 _ => ?_
        refine Run.q (e := vU) (gv := vIv) (ok_spec_l02Root _) fun r11 _ => ?_
        refine Run.q (e := vWd) (gv := vIv) (ok_spec_l10Sum _ _ _) fun r12 _ => ?_
        refine Run.q (e := vU) (gv := vIv) (ok_spec_l02Root _) fun r13 _ => ?_
        refine Run.q (e := vWd) (gv := vIv) (ok_spec_l02Mul _ _) fun r14 _ => ?_
        refine Run.y (gv := vIv) (fun _ => ?_) (fun _ => ?_)
        · refine Run.y (gv := vIv) (fun _ => ?_) (fun _ => ?_)
          · refine Run.q (e := vIv) (gv := vIv) (ok_spec_Whole) fun r15 _ => ?_
            exact Run.x 0
          · exact Run.x 0
        · refine Run.y (gv := vIv) (fun _ => ?_) (fun _ => ?_)
          · refine Run.q (e := vIv) (gv := vIv) (ok_spec_Whole) fun r16 _ => ?_
            exact Run.x 0
          · exact Run.x 0

theorem ok_spec_l15Flat (a0 : Vc) : Fun Tryz.prog 61 [] #[vVc a0] (vIv (F_spec_l15Flat a0)) [] := by
  refine Fun.ofH 400 E_ok mixed Tryz.func61 (by kernel_rfl) (by kernel_rfl) ?_
  unfold F_spec_l15Flat
  refine Run.q (e := vIv) (gv := vIv) (ok_spec_NormV _) fun r1 _ => ?_
  exact Run.x 0

theorem ok_spec_PiI : Fun Tryz.prog 160 [] #[] (vIv (F_spec_PiI)) [] := by
  refine Fun.ofH 400 E_ok mixed Tryz.func160 (by kernel_rfl) (by kernel_rfl) ?_
  unfold F_spec_PiI
  refine Run.q (e := vIv) (gv := vIv) (ok_spec_l05Turn _ (by decide)) fun r1 hr1 => ?_
  exact Run.x 0

theorem ok_spec_l18Most (a0 : I64) : Fun Tryz.prog 63 [] #[vI a0] (vIv (F_spec_l18Most a0)) [] := by
  refine Fun.ofH 400 E_ok mixed Tryz.func63 (by kernel_rfl) (by kernel_rfl) ?_
  unfold F_spec_l18Most
  refine Run.y (gv := vIv) (fun _ => ?_) (fun _ => ?_)
  · refine Run.q (e := vIv) (gv := vIv) (ok_spec_Integer _) fun r1 _ => ?_
    exact Run.x 0
  · refine Run.y (gv := vIv) (fun _ => ?_) (fun _ => ?_)
    · refine Run.q (e := vIv) (gv := vIv) (ok_spec_PiI) fun r2 _ => ?_
      exact Run.x 0
    · refine Run.y (gv := vIv) (fun _ => ?_) (fun _ => ?_)
      · refine Run.q (e := vIv) (gv := vIv) (ok_spec_Integer _) fun r3 _ => ?_
        exact Run.x 0
      · refine Run.q (e := vIv) (gv := vIv) (ok_spec_Whole) fun r4 _ => ?_
        exact Run.x 0

theorem ok_spec_LessI (a0 : Iv) (a1 : Iv) : Fun Tryz.prog 62 [] #[vIv a0, vIv a1] (vI (F_spec_LessI a0 a1)) [] := by
  refine Fun.ofH 400 E_ok mixed Tryz.func62 (by kernel_rfl) (by kernel_rfl) ?_
  unfold F_spec_LessI
  refine Run.q (e := vB) (gv := vI) (ok_spec_l04Ok _) fun r1 _ => ?_
  refine Run.y (gv := vI) (fun _ => ?_) (fun _ => ?_)
  · refine Run.z [true, true, true, true] ?_
    exact Run.x 0
  · refine Run.z [false] ?_
    refine Run.q (e := vB) (gv := vI) (ok_spec_l04Ok _) fun r2 _ => ?_
    refine Run.z [false, false] ?_
    refine Run.y (gv := vI) (fun _ => ?_) (fun _ => ?_)
    · exact Run.x 0
    · refine Run.y (gv := vI) (fun _ => ?_) (fun _ => ?_)
      · exact Run.x 0
      · refine Run.y (gv := vI) (fun _ => ?_) (fun _ => ?_)
        · exact Run.x 0
        · exact Run.x 0

theorem ok_spec_MaxI (a0 : Iv) (a1 : Iv) : Fun Tryz.prog 162 [] #[vIv a0, vIv a1] (vIv (F_spec_MaxI a0 a1)) [] := by
  refine Fun.ofH 400 E_ok mixed Tryz.func162 (by kernel_rfl) (by kernel_rfl) ?_
  unfold F_spec_MaxI
  refine Run.q (e := vB) (gv := vIv) (ok_spec_l04Ok _) fun r1 _ => ?_
  refine Run.y (gv := vIv) (fun _ => ?_) (fun _ => ?_)
  · refine Run.z [true, true, true, true] ?_
    refine Run.q (e := vIv) (gv := vIv) (ok_spec_l04Whole) fun r2 _ => ?_
    exact Run.x 0
  · refine Run.z [false] ?_
    refine Run.q (e := vB) (gv := vIv) (ok_spec_l04Ok _) fun r3 _ => ?_
    refine Run.z [false, false] ?_
    refine Run.y (gv := vIv) (fun _ => ?_) (fun _ => ?_)
    · refine Run.q (e := vIv) (gv := vIv) (ok_spec_l04Whole) fun r4 _ => ?_
      exact Run.x 0
    · refine Run.q (e := vI) (gv := vIv) (ok_spec_l00Max _ _) fun r5 _ => ?_
      refine Run.q (e := vI) (gv := vIv) (ok_spec_l00Max _ _) fun r6 _ => ?_
      refine Run.q (e := vIv) (gv := vIv) (ok_spec_l04Make _ _) fun r7 _ => ?_
      exact Run.x 0

theorem ok_spec_l18Back (a0 : I64) (a1 : Pn) : Fun Tryz.prog 65 [] #[vI a0, vPn a1] (vVc (F_spec_l18Back a0 a1)) [] := by
  refine Fun.ofH 400 E_ok mixed Tryz.func65 (by kernel_rfl) (by kernel_rfl) ?_
  unfold F_spec_l18Back
  refine Run.q (e := vIv) (gv := vVc) (ok_spec_Integer _) fun r1 _ => ?_
  refine Run.q (e := vIv) (gv := vVc) (ok_spec_l15Flat _) fun r2 _ => ?_
  refine Run.q (e := vIv) (gv := vVc) (ok_spec_SqrI _) fun r3 _ => ?_
  refine Run.y (gv := vVc) (fun _ => ?_) (fun _ => ?_)
  · refine Run.q (e := vIv) (gv := vVc) (ok_spec_AddI _ _) fun r4 _ => ?_
    refine Run.q (e := vIv) (gv := vVc) (ok_spec_SqrtI _) fun r5 _ => ?_
    refine Run.q (e := vIv) (gv := vVc) (ok_spec_DivI _ _) fun r6 _ => ?_
    refine Run.q (e := vIv) (gv := vVc) (ok_spec_MulI _ _) fun r7 _ => ?_
    refine Run.q (e := vIv) (gv := vVc) (ok_spec_MulI _ _) fun r8 _ => ?_
    exact Run.x 0
  · refine Run.y (gv := vVc) (fun _ => ?_) (fun _ => ?_)
    · refine Run.q (e := vIv) (gv := vVc) (ok_spec_HalfI _) fun r9 _ => ?_
      refine Run.q (e := vIv) (gv := vVc) (ok_spec_HalfI _) fun r10 _ => ?_
      refine Run.q (e := vIv) (gv := vVc) (ok_spec_AddI _ _) fun r11 _ => ?_
      refine Run.q (e := vIv) (gv := vVc) (ok_spec_DivI _ _) fun r12 _ => ?_
      refine Run.q (e := vIv) (gv := vVc) (ok_spec_SubI _ _) fun r13 _ => ?_
      refine Run.q (e := vIv) (gv := vVc) (ok_spec_MulI _ _) fun r14 _ => ?_
      refine Run.q (e := vIv) (gv := vVc) (ok_spec_MulI _ _) fun r15 _ => ?_
      refine Run.q (e := vIv) (gv := vVc) (ok_spec_MulI _ _) fun r16 _ => ?_
      exact Run.x 0
    · refine Run.y (gv := vVc) (fun _ => ?_) (fun _ => ?_)
      · refine Run.q (e := vIv) (gv := vVc) (ok_spec_Integer _) fun r17 _ => ?_
        refine Run.q (e := vIv) (gv := vVc) (ok_spec_SubI _ _) fun r18 _ => ?_
        refine Run.q (e := vIv) (gv := vVc) (ok_spec_MaxI _ _) fun r19 _ => ?_
        refine Run.q (e := vIv) (gv := vVc) (ok_spec_SqrtI _) fun r20 _ => ?_
        refine Run.q (e := vIv) (gv := vVc) (ok_spec_MulI _ _) fun r21 _ => ?_
        refine Run.q (e := vIv) (gv := vVc) (ok_spec_MulI _ _) fun r22 _ => ?_
        exact Run.x 0
      · refine Run.y (gv := vVc) (fun _ => ?_) (fun _ => ?_)
        · refine Run.q (e := vIv) (gv := vVc) (ok_spec_CosI _) fun r23 _ => ?_
          refine Run.q (e := vIv) (gv := vVc) (ok_spec_HullI _ _) fun r24 _ => ?_
          refine Run.y (gv := vVc) (fun _ => ?_) (fun _ => ?_)
          · refine Run.q (e := vIv) (gv := vVc) (ok_spec_SinI _) fun r25 _ => ?_
            refine Run.q (e := vIv) (gv := vVc) (ok_spec_DivI _ _) fun r26 _ => ?_
            refine Run.q (e := vIv) (gv := vVc) (ok_spec_MulI _ _) fun r27 _ => ?_
            refine Run.q (e := vIv) (gv := vVc) (ok_spec_MulI _ _) fun r28 _ => ?_
            exact Run.x 0
          · refine Run.q (e := vIv) (gv := vVc) (ok_spec_MulI _ _) fun r29 _ => ?_
            refine Run.q (e := vIv) (gv := vVc) (ok_spec_MulI _ _) fun r30 _ => ?_
            exact Run.x 0
        · refine Run.q (e := vIv) (gv := vVc) (ok_spec_Integer _) fun r31 _ => ?_
          refine Run.q (e := vIv) (gv := vVc) (ok_spec_HalfI _) fun r32 _ => ?_
          refine Run.q (e := vIv) (gv := vVc) (ok_spec_HalfI _) fun r33 _ => ?_
          refine Run.q (e := vIv) (gv := vVc) (ok_spec_SubI _ _) fun r34 _ => ?_
          refine Run.q (e := vIv) (gv := vVc) (ok_spec_MaxI _ _) fun r35 _ => ?_
          refine Run.q (e := vIv) (gv := vVc) (ok_spec_SqrtI _) fun r36 _ => ?_
          refine Run.q (e := vIv) (gv := vVc) (ok_spec_HalfI _) fun r37 _ => ?_
          refine Run.q (e := vIv) (gv := vVc) (ok_spec_SubI _ _) fun r38 _ => ?_
          refine Run.q (e := vIv) (gv := vVc) (ok_spec_MulI _ _) fun r39 _ => ?_
          refine Run.q (e := vIv) (gv := vVc) (ok_spec_MulI _ _) fun r40 _ => ?_
          exact Run.x 0

theorem ok_spec_PositionOf (a0 : Vc) : Fun Tryz.prog 161 [] #[vVc a0] (vT_Iv_Iv_I (F_spec_PositionOf a0)) [] := by
  refine Fun.ofH 400 E_ok mixed Tryz.func161 (by kernel_rfl) (by kernel_rfl) ?_
  unfold F_spec_PositionOf
  refine Run.q (e := vIv) (gv := vT_Iv_Iv_I) (ok_spec_l15Flat _) fun r1 _ => ?_
  refine Run.q (e := vIv) (gv := vT_Iv_Iv_I) (ok_spec_DirectionI _ _) fun r2 _ => ?_
  refine Run.q (e := vB) (gv := vT_Iv_Iv_I) (ok_spec_IsWhole _) fun r3 _ => ?_
  refine Run.y (gv := vT_Iv_Iv_I) (fun _ => ?_) (fun _ => ?_)
  · exact Run.x 0
  · refine Run.q (e := vIv) (gv := vT_Iv_Iv_I) (ok_spec_DirectionI _ _) fun r4 _ => ?_
    exact Run.x 0

theorem ok_spec_GlobalOf (a0 : Pj) (a1 : Vc) : Fun Tryz.prog 64 [] #[vPj a0, vVc a1] (vT_Iv_Iv_I (F_spec_GlobalOf a0 a1)) [] := by
  refine Fun.ofH 400 E_ok mixed Tryz.func64 (by kernel_rfl) (by kernel_rfl) ?_
  unfold F_spec_GlobalOf
  refine Run.w (e := vB) (gv := vT_Iv_Iv_I) [0] (ok_spec_l18Ok__pPj _) fun r1 _ => ?_
  refine Run.y (gv := vT_Iv_Iv_I) (fun _ => ?_) (fun _ => ?_)
  · exact Run.x 0
  · refine Run.q (e := vIv) (gv := vT_Iv_Iv_I) (ok_spec_RadiansOf _) fun r2 _ => ?_
    refine Run.q (e := vIv) (gv := vT_Iv_Iv_I) (ok_spec_CosI _) fun r3 _ => ?_
    refine Run.q (e := vIv) (gv := vT_Iv_Iv_I) (ok_spec_MulI _ _) fun r4 _ => ?_
    refine Run.q (e := vIv) (gv := vT_Iv_Iv_I) (ok_spec_SinI _) fun r5 _ => ?_
    refine Run.q (e := vIv) (gv := vT_Iv_Iv_I) (ok_spec_MulI _ _) fun r6 _ => ?_
    refine Run.q (e := vIv) (gv := vT_Iv_Iv_I) (ok_spec_SubI _ _) fun r7 _ => ?_
    refine Run.q (e := vIv) (gv := vT_Iv_Iv_I) (ok_spec_SinI _) fun r8 _ => ?_
    refine Run.q (e := vIv) (gv := vT_Iv_Iv_I) (ok_spec_MulI _ _) fun r9 _ => ?_
    refine Run.q (e := vIv) (gv := vT_Iv_Iv_I) (ok_spec_CosI _) fun r10 _ => ?_
    refine Run.q (e := vIv) (gv := vT_Iv_Iv_I) (ok_spec_MulI _ _) fun r11 _ => ?_
    refine Run.q (e := vIv) (gv := vT_Iv_Iv_I) (ok_spec_AddI _ _) fun r12 _ => ?_
    refine Run.q (e := vT_Iv_Iv_I) (gv := vT_Iv_Iv_I) (ok_spec_PositionOf _) fun r13 _ => ?_
    refine Run.y (gv := vT_Iv_Iv_I) (fun _ => ?_) (fun _ => ?_)
    · exact Run.x 0
    · refine Run.q (e := vIv) (gv := vT_Iv_Iv_I) (ok_spec_RadiansOf _) fun r14 _ => ?_
      refine Run.q (e := vIv) (gv := vT_Iv_Iv_I) (ok_spec_AddI _ _) fun r15 _ => ?_
      exact Run.x 0

theorem ok_spec_AzimuthalInverse (a0 : Pj) (a1 : Pn) : Fun Tryz.prog 16 [] #[vPj a0, vPn a1] (vT_Iv_Iv_I (F_spec_AzimuthalInverse a0 a1)) [] := by
  refine Fun.ofH 400 E_ok mixed Tryz.func16 (by kernel_rfl) (by kernel_rfl) ?_
  unfold F_spec_AzimuthalInverse
  refine Run.w (e := vB) (gv := vT_Iv_Iv_I) [0] (ok_spec_l18Ok__pPj _) fun r1 _ => ?_
  refine Run.y (gv := vT_Iv_Iv_I) (fun _ => ?_) (fun _ => ?_)
  · exact Run.x 0
  · refine Run.q (e := vIv) (gv := vT_Iv_Iv_I) (ok_spec_l15Flat _) fun r2 _ => ?_
    refine Run.q (e := vIv) (gv := vT_Iv_Iv_I) (ok_spec_l18Most _) fun r3 _ => ?_
    refine Run.q (e := vI) (gv := vT_Iv_Iv_I) (ok_spec_LessI _ _) fun r4 _ => ?_
    refine Run.y (gv := vT_Iv_Iv_I) (fun _ => ?_) (fun _ => ?_)
    · exact Run.x 0
    · refine Run.q (e := vVc) (gv := vT_Iv_Iv_I) (ok_spec_l18Back _ _) fun r5 _ => ?_
      refine Run.q (e := vT_Iv_Iv_I) (gv := vT_Iv_Iv_I) (ok_spec_GlobalOf _ _) fun r6 _ => ?_
      exact Run.x 0

theorem ok_impl_isAzimuthalOne (a0 : Pj) : Fun Tryz.prog 67 [] #[vPj a0] (vB (F_impl_isAzimuthalOne a0)) [] := by
  refine Fun.ofH 400 E_ok mixed Tryz.func67 (by kernel_rfl) (by kernel_rfl) ?_
  unfold F_impl_isAzimuthalOne
  refine Run.q (e := vB) (gv := vB) (ok_impl_ValidProjection _) fun r1 _ => ?_
  refine Run.y (gv := vB) (fun _ => ?_) (fun _ => ?_)
  · refine Run.z [true, true] ?_
    refine Run.q (e := vB) (gv := vB) (ok_impl_isAzimuthal _) fun r2 _ => ?_
    refine Run.z [true] ?_
    exact Run.x 0
  · refine Run.z [false, false, false] ?_
    exact Run.x 0

theorem ok_impl_WideAdd (a0 : Wd) (a1 : Wd) : Fun Tryz.prog 361 [] #[vWd a0, vWd a1] (vT_Wd_B (F_impl_WideAdd a0 a1)) [] := by
  refine Fun.ofH 400 E_ok mixed Tryz.func361 (by kernel_rfl) (by kernel_rfl) ?_
  unfold F_impl_WideAdd
  refine Run.k (c := (decide (0 ≤ (a0.lo.val : Int)) && (decide (0 ≤ (a1.lo.val : Int)) && (decide (0 ≤ (0 : Int)) && decide ((0 : Int) ≤ 1))))) (by kernel_rfl) (by simp only [Bool.and_eq_true, decide_eq_true_eq]; exact ⟨U64.lo a0.lo, U64.lo a1.lo, U64.lo (cu64 0), (by decide)⟩) ?_
  refine Run.k (c := (decide (0 ≤ ((wu64 a0.hi.val).val : Int)) && (decide (0 ≤ ((wu64 a1.hi.val).val : Int)) && (decide (0 ≤ ((adc_hi a0.lo a1.lo (cu64 0)).val : Int)) && decide (((adc_hi a0.lo a1.lo (cu64 0)).val : Int) ≤ 1))))) (by kernel_rfl) (by simp only [Bool.and_eq_true, decide_eq_true_eq]; exact ⟨U64.lo (wu64 a0.hi.val), U64.lo (wu64 a1.hi.val), U64.lo (adc_hi a0.lo a1.lo (cu64 0)), (adc_hi_le _ _ _ (by decide))⟩) ?_
  refine Run.y (gv := vT_Wd_B) (fun _ => ?_) (fun _ => ?_)
  · exact Run.x 0
  · exact Run.x 0

theorem ok_impl_rootOfSquares (a0 : I64) (a1 : I64) (a2 : I64) : Fun Tryz.prog 282 [] #[vI a0, vI a1, vI a2] (vT_I_I (F_impl_rootOfSquares a0 a1 a2)) [] := by
  refine Fun.ofH 400 E_ok mixed Tryz.func282 (by kernel_rfl) (by kernel_rfl) ?_
  unfold F_impl_rootOfSquares
  refine Run.q (e := vWd) (gv := vT_I_I) (ok_impl_WideMul _ _) fun r1 _ => ?_
  refine Run.q (e := vWd) (gv := vT_I_I) (ok_impl_WideMul _ _) fun r2 _ => ?_
  refine Run.q (e := vT_Wd_B) (gv := vT_I_I) (ok_impl_WideAdd _ _) fun r3 _ => ?_
  refine Run.q (e := vWd) (gv := vT_I_I) (ok_impl_WideMul _ _) fun r4 _ => ?_
  refine Run.q (e := vT_Wd_B) (gv := vT_I_I) (ok_impl_WideAdd _ _) fun r5 _ => ?_
  refine Run.q (e := vT_U_B) (gv := vT_I_I) (ok_impl_WideSqrt _) fun r6 _ => ?_
  refine Run.q (e := vWd) (gv := vT_I_I) (ok_impl_WideMul _ _) fun r7 _ => ?_
  refine Run.y (gv := vT_I_I) (fun _ => ?_) (fun _ => ?_)
  · exact Run.x 0
  · exact Run.x 0

theorem ok_impl_NormV (a0 : Vc) : Fun Tryz.prog 165 [] #[vVc a0] (vIv (F_impl_NormV a0)) [] := by
  refine Fun.ofH 400 E_ok mixed Tryz.func165 (by kernel_rfl) (by kernel_rfl) ?_
  unfold F_impl_NormV
  refine Run.q (e := vB) (gv := vIv) (ok_impl_areBounded _ _) fun r1 _ => ?_
  refine Run.y (gv := vIv) (fun _ => ?_) (fun _ => ?_)
  · refine Run.z [true, true, true, true] ?_
    refine Run.q (e := vIv) (gv := vIv) (ok_impl_Whole) fun r2 _ => ?_
    exact Run.x 0
  · refine Run.z [false, false] ?_
    refine Run.q (e := vB) (gv := vIv) (ok_impl_IsWhole _) fun r3 _ => ?_
    refine Run.z [false] ?_
    refine Run.y (gv := vIv) (fun _ => ?_) (fun _ => ?_)
    · refine Run.q (e := vIv) (gv := vIv) (ok_impl_Whole) fun r4 _ => ?_
      exact Run.x 0
    · refine Run.q (e := vIv) (gv := vIv) (ok_impl_AbsI _) fun r5 _ => ?_
      refine Run.q (e := vIv) (gv := vIv) (ok_impl_AbsI _) fun r6 _ => ?_
      refine Run.q (e := vIv) (gv := vIv) (ok_impl_AbsI _) fun r7 _ => ?_
      refine Run.q (e := vT_I_I) (gv := vIv) (ok_impl_rootOfSquares _ _ _) fun r8 _ => ?_
      refine Run.q (e := vT_I_I) (gv := vIv) (ok_impl_rootOfSquares _ _ _) fun r9 _ => ?_
      refine Run.q (e := vIv) (gv := vIv) (ok_impl_bounded _ _ _) fun r10 _ => ?_
      exact Run.x 0

theorem ok_impl_fromAxis (a0 : Vc) : Fun Tryz.prog 68 [] #[vVc a0] (vIv (F_impl_fromAxis a0)) [] := by
  refine Fun.ofH 400 E_ok mixed Tryz.func68 (by kernel_rfl) (by kernel_rfl) ?_
  unfold F_impl_fromAxis
  refine Run.q (e := vIv) (gv := vIv) (ok_impl_NormV _) fun r1 _ => ?_
  exact Run.x 0

theorem ok_impl_PiI : Fun Tryz.prog 167 [] #[] (vIv (F_impl_PiI)) [] := by
  refine Fun.ofH 400 E_ok mixed Tryz.func167 (by kernel_rfl) (by kernel_rfl) ?_
  unfold F_impl_PiI
  refine Run.q (e := vIv) (gv := vIv) (ok_impl_TurnI _) fun r1 _ => ?_
  exact Run.x 0

theorem ok_impl_greatestRadius (a0 : I64) : Fun Tryz.prog 69 [] #[vI a0] (vT_Iv_B (F_impl_greatestRadius a0)) [] := by
  refine Fun.ofH 400 E_ok mixed Tryz.func69 (by kernel_rfl) (by kernel_rfl) ?_
  unfold F_impl_greatestRadius
  refine Run.y (gv := vT_Iv_B) (fun _ => ?_) (fun _ => ?_)
  · refine Run.q (e := vIv) (gv := vT_Iv_B) (ok_impl_Integer _) fun r1 _ => ?_
    exact Run.x 0
  · refine Run.y (gv := vT_Iv_B) (fun _ => ?_) (fun _ => ?_)
    · refine Run.q (e := vIv) (gv := vT_Iv_B) (ok_impl_PiI) fun r2 _ => ?_
      exact Run.x 0
    · refine Run.y (gv := vT_Iv_B) (fun _ => ?_) (fun _ => ?_)
      · refine Run.q (e := vIv) (gv := vT_Iv_B) (ok_impl_Integer _) fun r3 _ => ?_
        exact Run.x 0
      · exact Run.x 0

theorem ok_impl_LessI (a0 : Iv) (a1 : Iv) : Fun Tryz.prog 70 [] #[vIv a0, vIv a1] (vI (F_impl_LessI a0 a1)) [] := by
  refine Fun.ofH 400 E_ok mixed Tryz.func70 (by kernel_rfl) (by kernel_rfl) ?_
  unfold F_impl_LessI
  refine Run.q (e := vB) (gv := vI) (ok_impl_areBounded _ _) fun r1 _ => ?_
  refine Run.y (gv := vI) (fun _ => ?_) (fun _ => ?_)
  · exact Run.x 0
  · refine Run.y (gv := vI) (fun _ => ?_) (fun _ => ?_)
    · exact Run.x 0
    · refine Run.y (gv := vI) (fun _ => ?_) (fun _ => ?_)
      · exact Run.x 0
      · exact Run.x 0

theorem ok_impl_oneLess (a0 : Iv) : Fun Tryz.prog 169 [] #[vIv a0] (vIv (F_impl_oneLess a0)) [] := by
  refine Fun.ofH 400 E_ok mixed Tryz.func169 (by kernel_rfl) (by kernel_rfl) ?_
  unfold F_impl_oneLess
  refine Run.q (e := vIv) (gv := vIv) (ok_impl_Integer _) fun r1 _ => ?_
  refine Run.q (e := vIv) (gv := vIv) (ok_impl_SubI _ _) fun r2 _ => ?_
  exact Run.x 0

theorem ok_impl_MaxI (a0 : Iv) (a1 : Iv) : Fun Tryz.prog 170 [] #[vIv a0, vIv a1] (vIv (F_impl_MaxI a0 a1)) [] := by
  refine Fun.ofH 400 E_ok mixed Tryz.func170 (by kernel_rfl) (by kernel_rfl) ?_
  unfold F_impl_MaxI
  refine Run.q (e := vB) (gv := vIv) (ok_impl_areBounded _ _) fun r1 _ => ?_
  refine Run.y (gv := vIv) (fun _ => ?_) (fun _ => ?_)
  · refine Run.q (e := vIv) (gv := vIv) (ok_impl_Whole) fun r2 _ => ?_
    exact Run.x 0
  · exact Run.x 0

theorem ok_impl_isPositive (a0 : Iv) : Fun Tryz.prog 171 [] #[vIv a0] (vB (F_impl_isPositive a0)) [] := by
  refine Fun.ofH 400 E_ok mixed Tryz.func171 (by kernel_rfl) (by kernel_rfl) ?_
  unfold F_impl_isPositive
  refine Run.q (e := vB) (gv := vB) (ok_impl_ValidInterval _) fun r1 _ => ?_
  refine Run.y (gv := vB) (fun _ => ?_) (fun _ => ?_)
  · refine Run.z [true, true, true] ?_
    exact Run.x 0
  · refine Run.z [false, false, false] ?_
    exact Run.x 0

theorem ok_impl_inverseFactors (a0 : I64) (a1 : Iv) : Fun Tryz.prog 71 [] #[vI a0, vIv a1] (vT_Iv_Iv (F_impl_inverseFactors a0 a1)) [] := by
  refine Fun.ofH 400 E_ok mixed Tryz.func71 (by kernel_rfl) (by kernel_rfl) ?_
  unfold F_impl_inverseFactors
  refine Run.q (e := vIv) (gv := vT_Iv_Iv) (ok_impl_SqrI _) fun r1 _ => ?_
  refine Run.q (e := vIv) (gv := vT_Iv_Iv) (ok_impl_HalfI _) fun r2 _ => ?_
  refine Run.q (e := vIv) (gv := vT_Iv_Iv) (ok_impl_HalfI _) fun r3 _ => ?_
  refine Run.y (gv := vT_Iv_Iv) (fun _ => ?_) (fun _ => ?_)
  · refine Run.q (e := vIv) (gv := vT_Iv_Iv) (ok_impl_Integer _) fun r4 _ => ?_
    refine Run.q (e := vIv) (gv := vT_Iv_Iv) (ok_impl_Integer _) fun r5 _ => ?_
    refine Run.q (e := vIv) (gv := vT_Iv_Iv) (ok_impl_AddI _ _) fun r6 _ => ?_
    refine Run.q (e := vIv) (gv := vT_Iv_Iv) (ok_impl_SqrtI _) fun r7 _ => ?_
    refine Run.q (e := vIv) (gv := vT_Iv_Iv) (ok_impl_DivI _ _) fun r8 _ => ?_
    exact Run.x 0
  · refine Run.y (gv := vT_Iv_Iv) (fun _ => ?_) (fun _ => ?_)
    · refine Run.q (e := vIv) (gv := vT_Iv_Iv) (ok_impl_Integer _) fun r9 _ => ?_
      refine Run.q (e := vIv) (gv := vT_Iv_Iv) (ok_impl_Integer _) fun r10 _ => ?_
      refine Run.q (e := vIv) (gv := vT_Iv_Iv) (ok_impl_AddI _ _) fun r11 _ => ?_
      refine Run.q (e := vIv) (gv := vT_Iv_Iv) (ok_impl_DivI _ _) fun r12 _ => ?_
      refine Run.q (e := vIv) (gv := vT_Iv_Iv) (ok_impl_oneLess _) fun r13 _ => ?_
      refine Run.q (e := vIv) (gv := vT_Iv_Iv) (ok_impl_MulI _ _) fun r14 _ => ?_
      exact Run.x 0
    · refine Run.y (gv := vT_Iv_Iv) (fun _ => ?_) (fun _ => ?_)
      · refine Run.q (e := vIv) (gv := vT_Iv_Iv) (ok_impl_Integer _) fun r15 _ => ?_
        refine Run.q (e := vIv) (gv := vT_Iv_Iv) (ok_impl_Integer _) fun r16 _ => ?_
        refine Run.q (e := vIv) (gv := vT_Iv_Iv) (ok_impl_oneLess _) fun r17 _ => ?_
        refine Run.q (e := vIv) (gv := vT_Iv_Iv) (ok_impl_MaxI _ _) fun r18 _ => ?_
        refine Run.q (e := vIv) (gv := vT_Iv_Iv) (ok_impl_SqrtI _) fun r19 _ => ?_
        exact Run.x 0
      · refine Run.y (gv := vT_Iv_Iv) (fun _ => ?_) (fun _ => ?_)
        · refine Run.q (e := vIv) (gv := vT_Iv_Iv) (ok_impl_Integer _) fun r20 _ => ?_
          refine Run.q (e := vIv) (gv := vT_Iv_Iv) (ok_impl_oneLess _) fun r21 _ => ?_
          refine Run.q (e := vIv) (gv := vT_Iv_Iv) (ok_impl_MaxI _ _) fun r22 _ => ?_
          refine Run.q (e := vIv) (gv := vT_Iv_Iv) (ok_impl_SqrtI _) fun r23 _ => ?_
          refine Run.q (e := vIv) (gv := vT_Iv_Iv) (ok_impl_HalfI _) fun r24 _ => ?_
          refine Run.q (e := vIv) (gv := vT_Iv_Iv) (ok_impl_oneLess _) fun r25 _ => ?_
          exact Run.x 0
        · refine Run.q (e := vB) (gv := vT_Iv_Iv) (ok_impl_isPositive _) fun r26 _ => ?_
          refine Run.y (gv := vT_Iv_Iv) (fun _ => ?_) (fun _ => ?_)
          · refine Run.q (e := vIv) (gv := vT_Iv_Iv) (ok_impl_SinI _) fun r27 _ => ?_
            refine Run.q (e := vIv) (gv := vT_Iv_Iv) (ok_impl_DivI _ _) fun r28 _ => ?_
            refine Run.q (e := vIv) (gv := vT_Iv_Iv) (ok_impl_CosI _) fun r29 _ => ?_
            exact Run.x 0
          · refine Run.q (e := vIv) (gv := vT_Iv_Iv) (ok_impl_CosI _) fun r30 _ => ?_
            refine Run.q (e := vIv) (gv := vT_Iv_Iv) (ok_impl_Integer _) fun r31 _ => ?_
            refine Run.q (e := vIv) (gv := vT_Iv_Iv) (ok_impl_HullI _ _) fun r32 _ => ?_
            refine Run.q (e := vIv) (gv := vT_Iv_Iv) (ok_impl_CosI _) fun r33 _ => ?_
            exact Run.x 0

theorem ok_impl_Projection_centre (a0 : Pj) : Fun Tryz.prog 173 [] #[vPj a0] (vPt (F_impl_Projection_centre a0)) [] := by
  refine Fun.ofH 400 E_ok mixed Tryz.func173 (by kernel_rfl) (by kernel_rfl) ?_
  unfold F_impl_Projection_centre
  exact Run.x 0

theorem ok_impl_knownI (a0 : Iv) : Fun Tryz.prog 247 [] #[vIv a0] (vT_Iv_I (F_impl_knownI a0)) [] := by
  refine Fun.ofH 400 E_ok mixed Tryz.func247 (by kernel_rfl) (by kernel_rfl) ?_
  unfold F_impl_knownI
  refine Run.q (e := vB) (gv := vT_Iv_I) (ok_impl_IsWhole _) fun r1 _ => ?_
  refine Run.y (gv := vT_Iv_I) (fun _ => ?_) (fun _ => ?_)
  · exact Run.x 0
  · exact Run.x 0

theorem ok_impl_PositionOf (a0 : Vc) : Fun Tryz.prog 174 [] #[vVc a0] (vT_Iv_Iv_I (F_impl_PositionOf a0)) [] := by
  refine Fun.ofH 400 E_ok mixed Tryz.func174 (by kernel_rfl) (by kernel_rfl) ?_
  unfold F_impl_PositionOf
  refine Run.q (e := vIv) (gv := vT_Iv_Iv_I) (ok_impl_fromAxis _) fun r1 _ => ?_
  refine Run.q (e := vIv) (gv := vT_Iv_Iv_I) (ok_impl_DirectionI _ _) fun r2 _ => ?_
  refine Run.q (e := vT_Iv_I) (gv := vT_Iv_Iv_I) (ok_impl_knownI _) fun r3 _ => ?_
  refine Run.y (gv := vT_Iv_Iv_I) (fun _ => ?_) (fun _ => ?_)
  · exact Run.x 0
  · refine Run.q (e := vIv) (gv := vT_Iv_Iv_I) (ok_impl_DirectionI _ _) fun r4 _ => ?_
    exact Run.x 0

theorem ok_impl_GlobalOf (a0 : Pj) (a1 : Vc) : Fun Tryz.prog 72 [] #[vPj a0, vVc a1] (vT_Iv_Iv_I (F_impl_GlobalOf a0 a1)) [] := by
  refine Fun.ofH 400 E_ok mixed Tryz.func72 (by kernel_rfl) (by kernel_rfl) ?_
  unfold F_impl_GlobalOf
  refine Run.q (e := vB) (gv := vT_Iv_Iv_I) (ok_impl_isAzimuthalOne _) fun r1 _ => ?_
  refine Run.y (gv := vT_Iv_Iv_I) (fun _ => ?_) (fun _ => ?_)
  · exact Run.x 0
  · refine Run.q (e := vPt) (gv := vT_Iv_Iv_I) (ok_impl_Projection_centre _) fun r2 _ => ?_
    refine Run.q (e := vIv) (gv := vT_Iv_Iv_I) (ok_impl_LatOf _) fun r3 _ => ?_
    refine Run.q (e := vIv) (gv := vT_Iv_Iv_I) (ok_impl_CosI _) fun r4 _ => ?_
    refine Run.q (e := vIv) (gv := vT_Iv_Iv_I) (ok_impl_MulI _ _) fun r5 _ => ?_
    refine Run.q (e := vIv) (gv := vT_Iv_Iv_I) (ok_impl_SinI _) fun r6 _ => ?_
    refine Run.q (e := vIv) (gv := vT_Iv_Iv_I) (ok_impl_MulI _ _) fun r7 _ => ?_
    refine Run.q (e := vIv) (gv := vT_Iv_Iv_I) (ok_impl_SubI _ _) fun r8 _ => ?_
    refine Run.q (e := vIv) (gv := vT_Iv_Iv_I) (ok_impl_SinI _) fun r9 _ => ?_
    refine Run.q (e := vIv) (gv := vT_Iv_Iv_I) (ok_impl_MulI _ _) fun r10 _ => ?_
    refine Run.q (e := vIv) (gv := vT_Iv_Iv_I) (ok_impl_CosI _) fun r11 _ => ?_
    refine Run.q (e := vIv) (gv := vT_Iv_Iv_I) (ok_impl_MulI _ _) fun r12 _ => ?_
    refine Run.q (e := vIv) (gv := vT_Iv_Iv_I) (ok_impl_AddI _ _) fun r13 _ => ?_
    refine Run.q (e := vT_Iv_Iv_I) (gv := vT_Iv_Iv_I) (ok_impl_PositionOf _) fun r14 _ => ?_
    refine Run.y (gv := vT_Iv_Iv_I) (fun _ => ?_) (fun _ => ?_)
    · exact Run.x 0
    · refine Run.q (e := vIv) (gv := vT_Iv_Iv_I) (ok_impl_RadiansOf _) fun r15 _ => ?_
      refine Run.q (e := vIv) (gv := vT_Iv_Iv_I) (ok_impl_AddI _ _) fun r16 _ => ?_
      exact Run.x 0

theorem ok_impl_AzimuthalInverse (a0 : Pj) (a1 : Pn) : Fun Tryz.prog 18 [] #[vPj a0, vPn a1] (vT_Iv_Iv_I (F_impl_AzimuthalInverse a0 a1)) [] := by
  refine Fun.ofH 400 E_ok mixed Tryz.func18 (by kernel_rfl) (by kernel_rfl) ?_
  unfold F_impl_AzimuthalInverse
  refine Run.q (e := vB) (gv := vT_Iv_Iv_I) (ok_impl_isAzimuthalOne _) fun r1 _ => ?_
  refine Run.y (gv := vT_Iv_Iv_I) (fun _ => ?_) (fun _ => ?_)
  · exact Run.x 0
  · refine Run.q (e := vIv) (gv := vT_Iv_Iv_I) (ok_impl_fromAxis _) fun r2 _ => ?_
    refine Run.q (e := vT_Iv_B) (gv := vT_Iv_Iv_I) (ok_impl_greatestRadius _) fun r3 _ => ?_
    refine Run.y (gv := vT_Iv_Iv_I) (fun _ => ?_) (fun _ => ?_)
    · refine Run.z [true, true] ?_
      refine Run.q (e := vI) (gv := vT_Iv_Iv_I) (ok_impl_LessI _ _) fun r4 _ => ?_
      refine Run.z [true, true] ?_
      refine Run.y (gv := vT_Iv_Iv_I) (fun _ => ?_) (fun _ => ?_)
      · exact Run.x 0
      · refine Run.q (e := vT_Iv_Iv) (gv := vT_Iv_Iv_I) (ok_impl_inverseFactors _ _) fun r5 _ => ?_
        refine Run.q (e := vIv) (gv := vT_Iv_Iv_I) (ok_impl_MulI _ _) fun r6 _ => ?_
        refine Run.q (e := vIv) (gv := vT_Iv_Iv_I) (ok_impl_MulI _ _) fun r7 _ => ?_
        refine Run.q (e := vT_Iv_Iv_I) (gv := vT_Iv_Iv_I) (ok_impl_GlobalOf _ _) fun r8 _ => ?_
        exact Run.x 0
    · refine Run.z [false, false, false, false, false] ?_
      refine Run.q (e := vT_Iv_Iv) (gv := vT_Iv_Iv_I) (ok_impl_inverseFactors _ _) fun r9 _ => ?_
      refine Run.q (e := vIv) (gv := vT_Iv_Iv_I) (ok_impl_MulI _ _) fun r10 _ => ?_
      refine Run.q (e := vIv) (gv := vT_Iv_Iv_I) (ok_impl_MulI _ _) fun r11 _ => ?_
      refine Run.q (e := vT_Iv_Iv_I) (gv := vT_Iv_Iv_I) (ok_impl_GlobalOf _ _) fun r12 _ => ?_
      exact Run.x 0

theorem ok_laws_FnExactAzimuthalInverse (a0 : Pj) (a1 : Pn) : Fun Tryz.prog 5 [] #[vPj a0, vPn a1] (vB (F_laws_FnExactAzimuthalInverse a0 a1)) [] := by
  refine Fun.ofH 400 E_ok mixed Tryz.func5 (by kernel_rfl) (by kernel_rfl) ?_
  unfold F_laws_FnExactAzimuthalInverse
  refine Run.q (e := vPj) (gv := vB) (ok_laws_toProjection _) fun r1 _ => ?_
  refine Run.q (e := vPn) (gv := vB) (ok_laws_toPlanar _) fun r2 _ => ?_
  refine Run.q (e := vT_Iv_Iv_I) (gv := vB) (ok_spec_AzimuthalInverse _ _) fun r3 _ => ?_
  refine Run.q (e := vPj) (gv := vB) (ok_laws_toProjection _) fun r4 _ => ?_
  refine Run.q (e := vPn) (gv := vB) (ok_laws_toPlanar _) fun r5 _ => ?_
  refine Run.q (e := vT_Iv_Iv_I) (gv := vB) (ok_impl_AzimuthalInverse _ _) fun r6 _ => ?_
  refine Run.q (e := vB) (gv := vB) (ok_laws_eqInterval _ _) fun r7 _ => ?_
  refine Run.y (gv := vB) (fun _ => ?_) (fun _ => ?_)
  · refine Run.z [true, true, true, true, true, true, true, true, true] ?_
    exact Run.x 0
  · refine Run.z [false, false] ?_
    refine Run.q (e := vB) (gv := vB) (ok_laws_eqInterval _ _) fun r8 _ => ?_
    refine Run.z [false, false] ?_
    refine Run.y (gv := vB) (fun _ => ?_) (fun _ => ?_)
    · refine Run.z [true, true, true, true] ?_
      exact Run.x 0
    · refine Run.z [false, false, false] ?_
      refine Run.y (gv := vB) (fun _ => ?_) (fun _ => ?_)
      · exact Run.x 0
      · exact Run.x 0

theorem ok_laws_toEllipsoid (a0 : El) : Fun Tryz.prog 21 [] #[vEl a0] (vEl (F_laws_toEllipsoid a0)) [] := by
  refine Fun.ofH 400 E_ok mixed Tryz.func21 (by kernel_rfl) (by kernel_rfl) ?_
  unfold F_laws_toEllipsoid
  exact Run.x 0

theorem ok_laws_toShift (a0 : Sf) : Fun Tryz.prog 22 [] #[vSf a0] (vSf (F_laws_toShift a0)) [] := by
  refine Fun.ofH 400 E_ok mixed Tryz.func22 (by kernel_rfl) (by kernel_rfl) ?_
  unfold F_laws_toShift
  exact Run.x 0

theorem ok_laws_toPlace (a0 : Pl) : Fun Tryz.prog 23 [] #[vPl a0] (vPl (F_laws_toPlace a0)) [] := by
  refine Fun.ofH 400 E_ok mixed Tryz.func23 (by kernel_rfl) (by kernel_rfl) ?_
  unfold F_laws_toPlace
  refine Run.q (e := vPt) (gv := vPl) (ok_laws_toPoint _) fun r1 _ => ?_
  exact Run.x 0

theorem ok_spec_l12Ok (a0 : El) : Fun Tryz.prog 175 [] #[vEl a0] (vB (F_spec_l12Ok a0)) [] := by
  refine Fun.ofH 400 E_ok mixed Tryz.func175 (by kernel_rfl) (by kernel_rfl) ?_
  unfold F_spec_l12Ok
  refine Run.q (e := vB) (gv := vB) (ok_spec_l00In _ _ _) fun r1 _ => ?_
  refine Run.y (gv := vB) (fun _ => ?_) (fun _ => ?_)
  · refine Run.z [true, true] ?_
    refine Run.q (e := vB) (gv := vB) (ok_spec_l00In _ _ _) fun r2 _ => ?_
    refine Run.z [true] ?_
    refine Run.y (gv := vB) (fun _ => ?_) (fun _ => ?_)
    · refine Run.z [true, true, true] ?_
      refine Run.y (gv := vB) (fun _ => ?_) (fun _ => ?_)
      · refine Run.z [true, true, true, true, true, true, true] ?_
        exact Run.x 0
      · refine Run.z [false, false, false, false, false, false] ?_
        exact Run.x 0
    · refine Run.z [false, false, false, false, false, false, false, false, false, false] ?_
      exact Run.x 0
  · refine Run.z [false, false, false, false, false, false, false, false, false, false, false, false, false, false] ?_
    exact Run.x 0

end Go.Proofs.YtclbkeejhnmeoaaGreat.Abs
