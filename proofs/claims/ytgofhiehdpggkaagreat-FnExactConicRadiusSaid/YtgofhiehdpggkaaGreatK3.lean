/- The program's functions are these; part 3 (written by w.py). -/
import Derived.Test.YtgofhiehdpggkaaGreatK2
import Derived.Test.YtgofhiehdpggkaaGreatF5
set_option linter.unusedVariables false
set_option linter.unusedSimpArgs false
namespace Go.Proofs.YtgofhiehdpggkaaGreat.Abs
open Go Go.RowKit

theorem ok_impl_TanI (a0 : Iv) : Fun Tryz.prog 190 [] #[vIv a0] (vIv (F_impl_TanI a0)) [] := by
  refine Fun.ofH 400 E_ok mixed Tryz.func190 (by kernel_rfl) (by kernel_rfl) ?_
  unfold F_impl_TanI
  refine Run.q (e := vB) (gv := vIv) (ok_impl_areAngles _) fun r1 hr1 => ?_
  refine Run.y (gv := vIv) (fun h2 => ?_) (fun h2 => ?_)
  · refine Run.q (e := vIv) (gv := vIv) (ok_impl_Whole) fun r3 hr3 => ?_
    exact Run.x 0
  · refine Run.bl (gv := vIv) (by kernel_rfl) (by kernel_rfl) (ok_impl_turnsIn _) (by kernel_rfl) (fun r4 hr4 nr4 => ?_) (fun r4 hr4 cp_r4 pd_r4 => ?_)
    · subst nr4
      have e0 : F_impl_TanI_L0 (((([] : List I64).length : Nat) : Int).toNat + 1) ([] : List I64) a0 (c64 0) (⟨(c64 0), (c64 0)⟩ : Iv) = bindP (F_impl_SinAt a0.lo) fun r15 => bindP (F_impl_CosAt a0.lo) fun r16 => bindP (F_impl_DivI r15 r16) fun r17 => bindP (F_impl_SinAt a0.hi) fun r18 => bindP (F_impl_CosAt a0.hi) fun r19 => bindP (F_impl_DivI r18 r19) fun r20 => bindP (F_impl_HullI r17 r20) fun r21 => r21 := by rw [F_impl_TanI_L0]; exact cond_false _ _
      show Run _ _ (RvH [] (vIv (F_impl_TanI_L0 (((([] : List I64).length : Nat) : Int).toNat + 1) ([] : List I64) a0 (c64 0) (⟨(c64 0), (c64 0)⟩ : Iv)))) _
      rw [e0]
      refine Run.u 400 E_ok mixed Tryz.func190 ?_
      refine Run.z [false] ?_
      refine Run.q (e := vIv) (gv := vIv) (ok_impl_SinAt _) fun r15 hr15 => ?_
      refine Run.q (e := vIv) (gv := vIv) (ok_impl_CosAt _) fun r16 hr16 => ?_
      refine Run.q (e := vIv) (gv := vIv) (ok_impl_DivI _ _) fun r17 hr17 => ?_
      refine Run.q (e := vIv) (gv := vIv) (ok_impl_SinAt _) fun r18 hr18 => ?_
      refine Run.q (e := vIv) (gv := vIv) (ok_impl_CosAt _) fun r19 hr19 => ?_
      refine Run.q (e := vIv) (gv := vIv) (ok_impl_DivI _ _) fun r20 hr20 => ?_
      refine Run.q (e := vIv) (gv := vIv) (ok_impl_HullI _ _) fun r21 hr21 => ?_
      exact Run.x 0
    · have hl_r4 : ((r4.length : Nat) : Int) ≤ 4000 := by rw [hr4]; exact Int.ofNat_le.2 (len_impl_turnsIn _)
      exact Run.l (by kernel_rfl) (by kernel_rfl) (by kernel_rfl) (by kernel_rfl) (ok_impl_TanI_L0 (((r4.length : Nat) : Int).toNat + 1) cp_r4 pd_r4 r4 a0 (c64 0) (⟨(c64 0), (c64 0)⟩ : Iv) (by first | omega | (simp only [w64_val, wu64_val, c64_val, cu64_val, decide_eq_true_eq, decide_eq_false_iff_not, cond_true, cond_false] at *; omega)) (by first | omega | (simp only [w64_val, wu64_val, c64_val, cu64_val, decide_eq_true_eq, decide_eq_false_iff_not, cond_true, cond_false] at *; omega)) (by first | omega | (simp only [w64_val, wu64_val, c64_val, cu64_val, decide_eq_true_eq, decide_eq_false_iff_not, cond_true, cond_false] at *; omega)))

theorem ok_impl_odd (g : FuncId) : Fun Tryz.prog 157 [] #[.func (.func g) #[] #[]] (.func (.func 222) #[] #[.pointer (some ⟨0, 0, none⟩)]) [(#[.func (.func g) #[] #[]], 56)] := by
  refine FunR.fo rfl (FunR.of 400 E_ok mixed Tryz.func157 (by kernel_rfl) ?_)
  exact Run.r (by kernel_rfl) ⟨0, rfl, by kernel_rfl⟩

theorem ok_impl_WideSqrt_L0 : ∀ (fu : Nat) (a0 : Wd) (x_root : U64) (x_i : I64) (q0 : x_i.val ≤ 63) (hm : (x_i.val + 1).toNat < fu) (t : Array Value) (ht : maskA t [0, 6, 7, 8, 9, 10, 11, 12, 13, 14, 15, 16, 17, 18, 19, 20, 21, 22, 23, 24, 25, 26, 27, 28, 29, 30, 31, 32, 33, 34, 35, 36, 37, 38, 39, 40, 41, 42, 43, 44, 45] = #[undef, .pointer (some ⟨0, 0, none⟩), .int .u64 0, .bool false, .int .u64 x_root.val, .int .i64 x_i.val, undef, undef, undef, undef, undef, undef, undef, undef, undef, undef, undef, undef, undef, undef, undef, undef, undef, undef, undef, undef, undef, undef, undef, undef, undef, undef, undef, undef, undef, undef, undef, undef, undef, undef, undef, undef, undef, undef, undef, undef]), Cfg Tryz.prog 279 (loopAt Tryz.f279 0) t [(#[.int .i64 a0.hi.val, .int .u64 a0.lo.val], 117)] (RvH [] (vT_U_B (F_impl_WideSqrt_L0 fu a0 x_root x_i))) := by
  intro fu
  induction fu with
  | zero => intro a0 x_root x_i q0 hm; exact absurd hm (Nat.not_lt_zero _)
  | succ fu ih =>
    intro a0 x_root x_i q0 hm t ht
    refine Cfg.round E_ok mixed Tryz.func279 ht fun g => ?_
    unfold F_impl_WideSqrt_L0
    refine Run.y (gv := vT_U_B) (fun h2 => ?_) (fun h2 => ?_)
    · refine Run.k (c := (decide (0 ≤ x_i.val))) (by kernel_rfl) (by simp only [w64_val, wu64_val, c64_val, cu64_val, decide_eq_true_eq] at *; omega) ?_
      refine Run.q (e := vT_U_U) (gv := vT_U_B) (ok_bits_Mul64 _ _) fun r3 hr3 => ?_
      refine Run.y (gv := vT_U_B) (fun h4 => ?_) (fun h4 => ?_)
      · refine Run.z [true, true, true, true, true, true, true, true] ?_
        exact Run.l (by kernel_rfl) (by kernel_rfl) (by kernel_rfl) (by kernel_rfl) (ih a0 (ior .u64 x_root.val (ishl .u64 1 x_i.val).val) (w64 (x_i.val - 1)) (by have q1 := x_i.lo; simp only [w64_val, wu64_val, c64_val, cu64_val, decide_eq_true_eq] at *; omega) (by have q1 := x_i.lo; simp only [w64_val, wu64_val, c64_val, cu64_val, decide_eq_true_eq] at *; omega))
      · refine Run.z [false, false, false, false, false] ?_
        refine Run.y (gv := vT_U_B) (fun h5 => ?_) (fun h5 => ?_)
        · refine Run.z [true, true, true, false, true, false] ?_
          refine Run.y (gv := vT_U_B) (fun h6 => ?_) (fun h6 => ?_)
          · exact Run.l (by kernel_rfl) (by kernel_rfl) (by kernel_rfl) (by kernel_rfl) (ih a0 (ior .u64 x_root.val (ishl .u64 1 x_i.val).val) (w64 (x_i.val - 1)) (by have q1 := x_i.lo; simp only [w64_val, wu64_val, c64_val, cu64_val, decide_eq_true_eq] at *; omega) (by have q1 := x_i.lo; simp only [w64_val, wu64_val, c64_val, cu64_val, decide_eq_true_eq] at *; omega))
          · exact Run.l (by kernel_rfl) (by kernel_rfl) (by kernel_rfl) (by kernel_rfl) (ih a0 x_root (w64 (x_i.val - 1)) (by have q1 := x_i.lo; simp only [w64_val, wu64_val, c64_val, cu64_val, decide_eq_true_eq] at *; omega) (by have q1 := x_i.lo; simp only [w64_val, wu64_val, c64_val, cu64_val, decide_eq_true_eq] at *; omega))
        · refine Run.z [false, false, false, false, false, false, false] ?_
          exact Run.l (by kernel_rfl) (by kernel_rfl) (by kernel_rfl) (by kernel_rfl) (ih a0 x_root (w64 (x_i.val - 1)) (by have q1 := x_i.lo; simp only [w64_val, wu64_val, c64_val, cu64_val, decide_eq_true_eq] at *; omega) (by have q1 := x_i.lo; simp only [w64_val, wu64_val, c64_val, cu64_val, decide_eq_true_eq] at *; omega))
    · exact Run.x 0

theorem ok_impl_WideSqrt (a0 : Wd) : Fun Tryz.prog 279 [] #[vWd a0] (vT_U_B (F_impl_WideSqrt a0)) [] := by
  refine Fun.ofH 400 E_ok mixed Tryz.func279 (by kernel_rfl) (by kernel_rfl) ?_
  unfold F_impl_WideSqrt
  refine Run.y (gv := vT_U_B) (fun h1 => ?_) (fun h1 => ?_)
  · exact Run.x 0
  · exact Run.l (by kernel_rfl) (by kernel_rfl) (by kernel_rfl) (by kernel_rfl) (ok_impl_WideSqrt_L0 65 a0 (cu64 0) (c64 63) (by decide) (by decide))

theorem ok_impl_SqrtFloor (a0 : I64) (a1 : I64) : Fun Tryz.prog 244 [] #[vI a0, vI a1] (vT_I_B (F_impl_SqrtFloor a0 a1)) [] := by
  refine Fun.ofH 400 E_ok mixed Tryz.func244 (by kernel_rfl) (by kernel_rfl) ?_
  unfold F_impl_SqrtFloor
  refine Run.y (gv := vT_I_B) (fun _ => ?_) (fun _ => ?_)
  · refine Run.z [true, true, true] ?_
    exact Run.x 0
  · refine Run.z [false, false] ?_
    refine Run.y (gv := vT_I_B) (fun _ => ?_) (fun _ => ?_)
    · exact Run.x 0
    · refine Run.q (e := vWd) (gv := vT_I_B) (ok_impl_WideMul _ _) fun r1 _ => ?_
      refine Run.q (e := vT_U_B) (gv := vT_I_B) (ok_impl_WideSqrt _) fun r2 _ => ?_
      exact Run.x 0

theorem ok_impl_SqrtDown (a0 : I64) : Fun Tryz.prog 187 [] #[vI a0] (vT_I_B (F_impl_SqrtDown a0)) [] := by
  refine Fun.ofH 400 E_ok mixed Tryz.func187 (by kernel_rfl) (by kernel_rfl) ?_
  unfold F_impl_SqrtDown
  refine Run.q (e := vB) (gv := vT_I_B) (ok_impl_ValidFix _) fun r1 _ => ?_
  refine Run.y (gv := vT_I_B) (fun _ => ?_) (fun _ => ?_)
  · exact Run.x 0
  · refine Run.q (e := vT_I_B) (gv := vT_I_B) (ok_impl_SqrtFloor _ _) fun r2 _ => ?_
    refine Run.q (e := vT_I_B) (gv := vT_I_B) (ok_impl_fixed _ _) fun r3 _ => ?_
    exact Run.x 0

theorem ok_impl_SqrtUp (a0 : I64) : Fun Tryz.prog 188 [] #[vI a0] (vT_I_B (F_impl_SqrtUp a0)) [] := by
  refine Fun.ofH 400 E_ok mixed Tryz.func188 (by kernel_rfl) (by kernel_rfl) ?_
  unfold F_impl_SqrtUp
  refine Run.q (e := vT_I_B) (gv := vT_I_B) (ok_impl_SqrtDown _) fun r1 _ => ?_
  refine Run.y (gv := vT_I_B) (fun _ => ?_) (fun _ => ?_)
  · refine Run.z [true, true] ?_
    refine Run.q (e := vWd) (gv := vT_I_B) (ok_impl_WideMul _ _) fun r2 _ => ?_
    refine Run.z [true, true] ?_
    refine Run.q (e := vWd) (gv := vT_I_B) (ok_impl_WideMul _ _) fun r3 _ => ?_
    refine Run.z [true, true] ?_
    refine Run.y (gv := vT_I_B) (fun _ => ?_) (fun _ => ?_)
    · refine Run.q (e := vT_I_B) (gv := vT_I_B) (ok_impl_fixed _ _) fun r4 _ => ?_
      exact Run.x 0
    · refine Run.q (e := vT_I_B) (gv := vT_I_B) (ok_impl_fixed _ _) fun r5 _ => ?_
      exact Run.x 0
  · refine Run.z [false, false, false, false, false, false, false] ?_
    refine Run.q (e := vT_I_B) (gv := vT_I_B) (ok_impl_fixed _ _) fun r6 _ => ?_
    exact Run.x 0

theorem ok_impl_SqrtI (a0 : Iv) : Fun Tryz.prog 105 [] #[vIv a0] (vIv (F_impl_SqrtI a0)) [] := by
  refine Fun.ofH 400 E_ok mixed Tryz.func105 (by kernel_rfl) (by kernel_rfl) ?_
  unfold F_impl_SqrtI
  refine Run.q (e := vB) (gv := vIv) (ok_impl_IsWhole _) fun r1 _ => ?_
  refine Run.y (gv := vIv) (fun _ => ?_) (fun _ => ?_)
  · refine Run.z [true, true, true, true] ?_
    refine Run.q (e := vIv) (gv := vIv) (ok_impl_Whole) fun r2 _ => ?_
    exact Run.x 0
  · refine Run.z [false, false, false] ?_
    refine Run.y (gv := vIv) (fun _ => ?_) (fun _ => ?_)
    · refine Run.q (e := vIv) (gv := vIv) (ok_impl_Whole) fun r3 _ => ?_
      exact Run.x 0
    · refine Run.q (e := vT_I_B) (gv := vIv) (ok_impl_SqrtDown _) fun r4 _ => ?_
      refine Run.q (e := vT_I_B) (gv := vIv) (ok_impl_SqrtUp _) fun r5 _ => ?_
      refine Run.y (gv := vIv) (fun _ => ?_) (fun _ => ?_)
      · refine Run.z [true] ?_
        refine Run.q (e := vIv) (gv := vIv) (ok_impl_bounded _ _ _) fun r6 _ => ?_
        exact Run.x 0
      · refine Run.z [false] ?_
        refine Run.q (e := vIv) (gv := vIv) (ok_impl_bounded _ _ _) fun r7 _ => ?_
        exact Run.x 0

theorem ok_impl_AsinhI_1 (a0 : I64) : Fun Tryz.prog 245 [] #[vI a0] (vIv (F_impl_AsinhI_1 a0)) [] := by
  refine Fun.ofH 400 E_ok mixed Tryz.func245 (by kernel_rfl) (by kernel_rfl) ?_
  unfold F_impl_AsinhI_1
  refine Run.y (gv := vIv) (fun _ => ?_) (fun _ => ?_)
  · refine Run.q (e := vIv) (gv := vIv) (ok_impl_at _) fun r1 _ => ?_
    refine Run.q (e := vIv) (gv := vIv) (ok_impl_at _) fun r2 _ => ?_
    refine Run.q (e := vIv) (gv := vIv) (ok_impl_SqrI _) fun r3 _ => ?_
    refine Run.q (e := vIv) (gv := vIv) (ok_impl_Integer _) fun r4 _ => ?_
    refine Run.q (e := vIv) (gv := vIv) (ok_impl_AddI _ _) fun r5 _ => ?_
    refine Run.q (e := vIv) (gv := vIv) (ok_impl_SqrtI _) fun r6 _ => ?_
    refine Run.q (e := vIv) (gv := vIv) (ok_impl_AddI _ _) fun r7 _ => ?_
    refine Run.q (e := vIv) (gv := vIv) (ok_impl_LogI _) fun r8 _ => ?_
    exact Run.x 0
  · refine Run.q (e := vIv) (gv := vIv) (ok_impl_LogTwoI _) fun r9 _ => ?_
    refine Run.q (e := vIv) (gv := vIv) (ok_impl_LogAt _) fun r10 _ => ?_
    refine Run.q (e := vIv) (gv := vIv) (ok_impl_AddI _ _) fun r11 _ => ?_
    refine Run.q (e := vIv) (gv := vIv) (ok_impl_AddI _ _) fun r12 _ => ?_
    exact Run.x 0

theorem ok_impl_odd_1__p_impl_AsinhI_1 (a0 : I64) : Fun Tryz.prog 222 [(#[.func (.func 245) #[] #[]], 56)] #[vI a0, .pointer (some ⟨0, 0, none⟩)] (vIv (F_impl_odd_1__p_impl_AsinhI_1 a0)) [(#[.func (.func 245) #[] #[]], 56)] := by
  refine Fun.ofH 400 E_ok mixed Tryz.func222 (by kernel_rfl) (by kernel_rfl) ?_
  unfold F_impl_odd_1__p_impl_AsinhI_1
  refine Run.y (gv := vIv) (fun _ => ?_) (fun _ => ?_)
  · refine Run.q (e := vIv) (gv := vIv) (ok_impl_AsinhI_1 _) fun r1 _ => ?_
    refine Run.q (e := vIv) (gv := vIv) (ok_impl_NegI _) fun r2 _ => ?_
    exact Run.x 1
  · refine Run.q (e := vIv) (gv := vIv) (ok_impl_AsinhI_1 _) fun r3 _ => ?_
    exact Run.x 1

theorem ok_impl_monotonic__impl_odd_1_p_impl_AsinhI_1 (a0 : Iv) : Fun Tryz.prog 138 [(#[.func (.func 245) #[] #[]], 56)] #[vIv a0, .func (.func 222) #[] #[.pointer (some ⟨0, 0, none⟩)]] (vIv (F_impl_monotonic__impl_odd_1_p_impl_AsinhI_1 a0)) [(#[.func (.func 245) #[] #[]], 56)] := by
  refine Fun.ofH 400 E_ok mixed Tryz.func138 (by kernel_rfl) (by kernel_rfl) ?_
  unfold F_impl_monotonic__impl_odd_1_p_impl_AsinhI_1
  refine Run.q (e := vB) (gv := vIv) (ok_impl_IsWhole _) fun r1 _ => ?_
  refine Run.y (gv := vIv) (fun _ => ?_) (fun _ => ?_)
  · refine Run.q (e := vIv) (gv := vIv) (ok_impl_Whole) fun r2 _ => ?_
    exact Run.x 1
  · refine Run.w (e := vIv) (gv := vIv) [0] (ok_impl_odd_1__p_impl_AsinhI_1 _) fun r3 _ => ?_
    refine Run.w (e := vIv) (gv := vIv) [0] (ok_impl_odd_1__p_impl_AsinhI_1 _) fun r4 _ => ?_
    refine Run.q (e := vB) (gv := vIv) (ok_impl_areBounded _ _) fun r5 _ => ?_
    refine Run.y (gv := vIv) (fun _ => ?_) (fun _ => ?_)
    · refine Run.q (e := vIv) (gv := vIv) (ok_impl_Whole) fun r6 _ => ?_
      exact Run.x 1
    · refine Run.q (e := vIv) (gv := vIv) (ok_impl_bounded _ _ _) fun r7 _ => ?_
      exact Run.x 1

theorem ok_impl_AsinhI (a0 : Iv) : Fun Tryz.prog 189 [] #[vIv a0] (vIv (F_impl_AsinhI a0)) [] := by
  refine Fun.ofH 400 E_ok mixed Tryz.func189 (by kernel_rfl) (by kernel_rfl) ?_
  unfold F_impl_AsinhI
  refine Run.o (by kernel_rfl) ?_ ?_
  · refine Run.m (by kernel_rfl) (by kernel_rfl) (ok_impl_odd 245) (by kernel_rfl) (by kernel_rfl) (by kernel_rfl) ?_
    refine Run.w (e := vIv) (gv := vIv) [2] (ok_impl_monotonic__impl_odd_1_p_impl_AsinhI_1 _) fun r1 hr1 => ?_
    exact Run.x 0
  · refine Run.m (by kernel_rfl) (by kernel_rfl) (ok_impl_odd 245) (by kernel_rfl) (by kernel_rfl) (by kernel_rfl) ?_
    refine Run.w (e := vIv) (gv := vIv) [2] (ok_impl_monotonic__impl_odd_1_p_impl_AsinhI_1 _) fun r2 hr2 => ?_
    exact Run.x 0

theorem ok_impl_isometricSphere (a0 : Iv) : Fun Tryz.prog 109 [] #[vIv a0] (vIv (F_impl_isometricSphere a0)) [] := by
  refine Fun.ofH 400 E_ok mixed Tryz.func109 (by kernel_rfl) (by kernel_rfl) ?_
  unfold F_impl_isometricSphere
  refine Run.q (e := vIv) (gv := vIv) (ok_impl_TanI _) fun r1 _ => ?_
  refine Run.q (e := vIv) (gv := vIv) (ok_impl_AsinhI _) fun r2 _ => ?_
  exact Run.x 0

theorem ok_impl_conic_cone__pCn (b0 : Cn) : Fun Tryz.prog 96 [(#[.int .i64 b0.p.kind.val, .int .i64 b0.p.lat0.val, .int .i64 b0.p.lon0.val, .int .i64 b0.p.lat1.val, .int .i64 b0.p.lat2.val, .int .i64 b0.a.lo.val, .int .i64 b0.a.hi.val, .int .i64 b0.b.lo.val, .int .i64 b0.b.hi.val, .int .i64 b0.o.lo.val, .int .i64 b0.o.hi.val, .int .i64 b0.n.lo.val, .int .i64 b0.n.hi.val, .int .i64 b0.g.lo.val, .int .i64 b0.g.hi.val], 62)] #[.pointer (some ⟨0, 0, none⟩)] (vIv (F_impl_conic_cone__pCn b0)) [(#[.int .i64 b0.p.kind.val, .int .i64 b0.p.lat0.val, .int .i64 b0.p.lon0.val, .int .i64 b0.p.lat1.val, .int .i64 b0.p.lat2.val, .int .i64 b0.a.lo.val, .int .i64 b0.a.hi.val, .int .i64 b0.b.lo.val, .int .i64 b0.b.hi.val, .int .i64 b0.o.lo.val, .int .i64 b0.o.hi.val, .int .i64 b0.n.lo.val, .int .i64 b0.n.hi.val, .int .i64 b0.g.lo.val, .int .i64 b0.g.hi.val], 62)] := by
  refine Fun.ofH 400 E_ok mixed Tryz.func96 (by kernel_rfl) (by kernel_rfl) ?_
  unfold F_impl_conic_cone__pCn
  refine Run.y (gv := vIv) (fun _ => ?_) (fun _ => ?_)
  · refine Run.q (e := vIv) (gv := vIv) (ok_impl_SinI _) fun r1 _ => ?_
    refine Run.q (e := vIv) (gv := vIv) (ok_impl_SinI _) fun r2 _ => ?_
    refine Run.q (e := vIv) (gv := vIv) (ok_impl_AddI _ _) fun r3 _ => ?_
    refine Run.q (e := vIv) (gv := vIv) (ok_impl_HalfI _) fun r4 _ => ?_
    exact Run.x 1
  · refine Run.y (gv := vIv) (fun _ => ?_) (fun _ => ?_)
    · refine Run.q (e := vIv) (gv := vIv) (ok_impl_SinI _) fun r5 _ => ?_
      exact Run.x 1
    · refine Run.y (gv := vIv) (fun _ => ?_) (fun _ => ?_)
      · refine Run.q (e := vIv) (gv := vIv) (ok_impl_CosI _) fun r6 _ => ?_
        refine Run.q (e := vIv) (gv := vIv) (ok_impl_LogI _) fun r7 _ => ?_
        refine Run.q (e := vIv) (gv := vIv) (ok_impl_CosI _) fun r8 _ => ?_
        refine Run.q (e := vIv) (gv := vIv) (ok_impl_LogI _) fun r9 _ => ?_
        refine Run.q (e := vIv) (gv := vIv) (ok_impl_SubI _ _) fun r10 _ => ?_
        refine Run.q (e := vIv) (gv := vIv) (ok_impl_isometricSphere _) fun r11 _ => ?_
        refine Run.q (e := vIv) (gv := vIv) (ok_impl_isometricSphere _) fun r12 _ => ?_
        refine Run.q (e := vIv) (gv := vIv) (ok_impl_SubI _ _) fun r13 _ => ?_
        refine Run.q (e := vIv) (gv := vIv) (ok_impl_DivI _ _) fun r14 _ => ?_
        exact Run.x 1
      · refine Run.q (e := vIv) (gv := vIv) (ok_impl_CosI _) fun r15 _ => ?_
        refine Run.q (e := vIv) (gv := vIv) (ok_impl_CosI _) fun r16 _ => ?_
        refine Run.q (e := vIv) (gv := vIv) (ok_impl_SubI _ _) fun r17 _ => ?_
        refine Run.q (e := vIv) (gv := vIv) (ok_impl_SubI _ _) fun r18 _ => ?_
        refine Run.q (e := vIv) (gv := vIv) (ok_impl_DivI _ _) fun r19 _ => ?_
        exact Run.x 1

theorem ok_impl_times (a0 : I64) (a1 : Iv) : Fun Tryz.prog 106 [] #[vI a0, vIv a1] (vIv (F_impl_times a0 a1)) [] := by
  refine Fun.ofH 400 E_ok mixed Tryz.func106 (by kernel_rfl) (by kernel_rfl) ?_
  unfold F_impl_times
  refine Run.q (e := vIv) (gv := vIv) (ok_impl_Integer _) fun r1 _ => ?_
  refine Run.q (e := vIv) (gv := vIv) (ok_impl_MulI _ _) fun r2 _ => ?_
  exact Run.x 0

theorem ok_impl_DoubleI (a0 : Iv) : Fun Tryz.prog 215 [] #[vIv a0] (vIv (F_impl_DoubleI a0)) [] := by
  refine Fun.ofH 400 E_ok mixed Tryz.func215 (by kernel_rfl) (by kernel_rfl) ?_
  unfold F_impl_DoubleI
  refine Run.q (e := vIv) (gv := vIv) (ok_impl_AddI _ _) fun r1 _ => ?_
  exact Run.x 0

theorem ok_impl_scaled_L0 : ∀ (fu : Nat) (x_k : I64) (y_0 : Iv) (q0 : -100 ≤ x_k.val) (q1 : x_k.val ≤ 100) (hm : x_k.val.toNat < fu) (t : Array Value) (ht : maskA t [0, 3, 5, 6, 7, 8, 9, 10, 11, 12, 13, 14, 15, 16, 17, 18, 19, 20, 21, 22, 23, 24, 25, 26] = #[undef, .int .i64 x_k.val, .pointer (some ⟨0, 0, none⟩), undef, .pointer (some ⟨1, 0, none⟩), undef, undef, undef, undef, undef, undef, undef, undef, undef, undef, undef, undef, undef, undef, undef, undef, undef, undef, undef, undef, undef, undef]), Cfg Tryz.prog 213 (loopAt Tryz.f213 0) t [(#[.int .i64 y_0.lo.val, .int .i64 y_0.hi.val], 25), (#[.int .i64 0, .int .i64 0], 25)] (RvH [] (vIv (F_impl_scaled_L0 fu x_k y_0))) := by
  intro fu
  induction fu with
  | zero => intro x_k y_0 q0 q1 hm; exact absurd hm (Nat.not_lt_zero _)
  | succ fu ih =>
    intro x_k y_0 q0 q1 hm t ht
    refine Cfg.round E_ok mixed Tryz.func213 ht fun g => ?_
    unfold F_impl_scaled_L0
    refine Run.y (gv := vIv) (fun h1 => ?_) (fun h1 => ?_)
    · refine Run.q (e := vIv) (gv := vIv) (ok_impl_DoubleI _) fun r2 hr2 => ?_
      exact Run.l (by kernel_rfl) (by kernel_rfl) (by kernel_rfl) (by kernel_rfl) (ih (w64 (x_k.val - 1)) r2 (by first | omega | (simp only [w64_val, wu64_val, c64_val, cu64_val, decide_eq_true_eq, decide_eq_false_iff_not, cond_true, cond_false] at *; omega)) (by first | omega | (simp only [w64_val, wu64_val, c64_val, cu64_val, decide_eq_true_eq, decide_eq_false_iff_not, cond_true, cond_false] at *; omega)) (by first | omega | (simp only [w64_val, wu64_val, c64_val, cu64_val, decide_eq_true_eq, decide_eq_false_iff_not, cond_true, cond_false] at *; omega)))
    · refine Run.q (e := vB) (gv := vIv) (ok_impl_IsWhole _) fun r3 hr3 => ?_
      refine Run.y (gv := vIv) (fun h4 => ?_) (fun h4 => ?_)
      · refine Run.q (e := vIv) (gv := vIv) (ok_impl_Whole) fun r5 hr5 => ?_
        exact Run.x 0
      · refine Run.k (c := (decide (0 ≤ (w64 (0 - x_k.val)).val))) (by kernel_rfl) (by simp only [w64_val, wu64_val, c64_val, cu64_val, decide_eq_true_eq, decide_eq_false_iff_not, cond_true, cond_false] at *; omega) ?_
        refine Run.k (c := (decide (0 ≤ (w64 (0 - x_k.val)).val))) (by kernel_rfl) (by simp only [w64_val, wu64_val, c64_val, cu64_val, decide_eq_true_eq, decide_eq_false_iff_not, cond_true, cond_false] at *; omega) ?_
        exact Run.x 0

theorem ok_impl_scaled (a0 : Iv) (a1 : I64) (p0 : -100 ≤ a1.val) (p1 : a1.val ≤ 100) : Fun Tryz.prog 213 [] #[vIv a0, vI a1] (vIv (F_impl_scaled a0 a1)) [] := by
  refine Fun.ofH 400 E_ok mixed Tryz.func213 (by kernel_rfl) (by kernel_rfl) ?_
  unfold F_impl_scaled
  exact Run.l (by kernel_rfl) (by kernel_rfl) (by kernel_rfl) (by kernel_rfl) (ok_impl_scaled_L0 (a1.val.toNat + 1) a1 a0 (by first | omega | (simp only [w64_val, wu64_val, c64_val, cu64_val, decide_eq_true_eq, decide_eq_false_iff_not, cond_true, cond_false] at *; omega)) (by first | omega | (simp only [w64_val, wu64_val, c64_val, cu64_val, decide_eq_true_eq, decide_eq_false_iff_not, cond_true, cond_false] at *; omega)) (by first | omega | (simp only [w64_val, wu64_val, c64_val, cu64_val, decide_eq_true_eq, decide_eq_false_iff_not, cond_true, cond_false] at *; omega)))

theorem ok_impl_ExpAt (a0 : I64) : Fun Tryz.prog 142 [] #[vI a0] (vIv (F_impl_ExpAt a0)) [] := by
  refine Fun.ofH 400 E_ok mixed Tryz.func142 (by kernel_rfl) (by kernel_rfl) ?_
  unfold F_impl_ExpAt
  refine Run.q (e := vB) (gv := vIv) (ok_impl_ValidFix _) fun r1 hr1 => ?_
  refine Run.y (gv := vIv) (fun h2 => ?_) (fun h2 => ?_)
  · refine Run.z [true, true, true] ?_
    refine Run.q (e := vIv) (gv := vIv) (ok_impl_Whole) fun r3 hr3 => ?_
    exact Run.x 0
  · refine Run.z [false, false] ?_
    refine Run.y (gv := vIv) (fun h4 => ?_) (fun h4 => ?_)
    · refine Run.q (e := vIv) (gv := vIv) (ok_impl_Whole) fun r5 hr5 => ?_
      exact Run.x 0
    · refine Run.y (gv := vIv) (fun h6 => ?_) (fun h6 => ?_)
      · exact Run.x 0
      · refine Run.z [true] ?_
        refine Run.y (gv := vIv) (fun h7 => ?_) (fun h7 => ?_)
        · refine Run.q (e := vIv) (gv := vIv) (ok_impl_at _) fun r8 hr8 => ?_
          refine Run.q (e := vIv) (gv := vIv) (ok_impl_LogTwoI _) fun r9 hr9 => ?_
          refine Run.q (e := vIv) (gv := vIv) (ok_impl_SubI _ _) fun r10 hr10 => ?_
          refine Run.q (e := vIv) (gv := vIv) (ok_impl_Integer _) fun r11 hr11 => ?_
          refine Run.u 400 E_ok mixed Tryz.func142 ?_
          refine Run.z [true] ?_
          refine Run.q (e := vIv) (gv := vIv) (ok_impl_Integer _) fun r12 hr12 => ?_
          refine Run.q (e := vIv) (gv := vIv) (ok_impl_MulI _ _) fun r13 hr13 => ?_
          refine Run.q (e := vIv) (gv := vIv) (ok_impl_Integer _) fun r14 hr14 => ?_
          refine Run.q (e := vIv) (gv := vIv) (ok_impl_DivI _ _) fun r15 hr15 => ?_
          refine Run.q (e := vIv) (gv := vIv) (ok_impl_AddI _ _) fun r16 hr16 => ?_
          refine Run.u 400 E_ok mixed Tryz.func142 ?_
          refine Run.z [true] ?_
          refine Run.q (e := vIv) (gv := vIv) (ok_impl_Integer _) fun r17 hr17 => ?_
          refine Run.q (e := vIv) (gv := vIv) (ok_impl_MulI _ _) fun r18 hr18 => ?_
          refine Run.q (e := vIv) (gv := vIv) (ok_impl_Integer _) fun r19 hr19 => ?_
          refine Run.q (e := vIv) (gv := vIv) (ok_impl_DivI _ _) fun r20 hr20 => ?_
          refine Run.q (e := vIv) (gv := vIv) (ok_impl_AddI _ _) fun r21 hr21 => ?_
          refine Run.u 400 E_ok mixed Tryz.func142 ?_
          refine Run.z [true] ?_
          refine Run.q (e := vIv) (gv := vIv) (ok_impl_Integer _) fun r22 hr22 => ?_
          refine Run.q (e := vIv) (gv := vIv) (ok_impl_MulI _ _) fun r23 hr23 => ?_
          refine Run.q (e := vIv) (gv := vIv) (ok_impl_Integer _) fun r24 hr24 => ?_
          refine Run.q (e := vIv) (gv := vIv) (ok_impl_DivI _ _) fun r25 hr25 => ?_
          refine Run.q (e := vIv) (gv := vIv) (ok_impl_AddI _ _) fun r26 hr26 => ?_
          refine Run.u 400 E_ok mixed Tryz.func142 ?_
          refine Run.z [true] ?_
          refine Run.q (e := vIv) (gv := vIv) (ok_impl_Integer _) fun r27 hr27 => ?_
          refine Run.q (e := vIv) (gv := vIv) (ok_impl_MulI _ _) fun r28 hr28 => ?_
          refine Run.q (e := vIv) (gv := vIv) (ok_impl_Integer _) fun r29 hr29 => ?_
          refine Run.q (e := vIv) (gv := vIv) (ok_impl_DivI _ _) fun r30 hr30 => ?_
          refine Run.q (e := vIv) (gv := vIv) (ok_impl_AddI _ _) fun r31 hr31 => ?_
          refine Run.u 400 E_ok mixed Tryz.func142 ?_
          refine Run.z [true] ?_
          refine Run.q (e := vIv) (gv := vIv) (ok_impl_Integer _) fun r32 hr32 => ?_
          refine Run.q (e := vIv) (gv := vIv) (ok_impl_MulI _ _) fun r33 hr33 => ?_
          refine Run.q (e := vIv) (gv := vIv) (ok_impl_Integer _) fun r34 hr34 => ?_
          refine Run.q (e := vIv) (gv := vIv) (ok_impl_DivI _ _) fun r35 hr35 => ?_
          refine Run.q (e := vIv) (gv := vIv) (ok_impl_AddI _ _) fun r36 hr36 => ?_
          refine Run.u 400 E_ok mixed Tryz.func142 ?_
          refine Run.z [true] ?_
          refine Run.q (e := vIv) (gv := vIv) (ok_impl_Integer _) fun r37 hr37 => ?_
          refine Run.q (e := vIv) (gv := vIv) (ok_impl_MulI _ _) fun r38 hr38 => ?_
          refine Run.q (e := vIv) (gv := vIv) (ok_impl_Integer _) fun r39 hr39 => ?_
          refine Run.q (e := vIv) (gv := vIv) (ok_impl_DivI _ _) fun r40 hr40 => ?_
          refine Run.q (e := vIv) (gv := vIv) (ok_impl_AddI _ _) fun r41 hr41 => ?_
          refine Run.u 400 E_ok mixed Tryz.func142 ?_
          refine Run.z [true] ?_
          refine Run.q (e := vIv) (gv := vIv) (ok_impl_Integer _) fun r42 hr42 => ?_
          refine Run.q (e := vIv) (gv := vIv) (ok_impl_MulI _ _) fun r43 hr43 => ?_
          refine Run.q (e := vIv) (gv := vIv) (ok_impl_Integer _) fun r44 hr44 => ?_
          refine Run.q (e := vIv) (gv := vIv) (ok_impl_DivI _ _) fun r45 hr45 => ?_
          refine Run.q (e := vIv) (gv := vIv) (ok_impl_AddI _ _) fun r46 hr46 => ?_
          refine Run.u 400 E_ok mixed Tryz.func142 ?_
          refine Run.z [true] ?_
          refine Run.q (e := vIv) (gv := vIv) (ok_impl_Integer _) fun r47 hr47 => ?_
          refine Run.q (e := vIv) (gv := vIv) (ok_impl_MulI _ _) fun r48 hr48 => ?_
          refine Run.q (e := vIv) (gv := vIv) (ok_impl_Integer _) fun r49 hr49 => ?_
          refine Run.q (e := vIv) (gv := vIv) (ok_impl_DivI _ _) fun r50 hr50 => ?_
          refine Run.q (e := vIv) (gv := vIv) (ok_impl_AddI _ _) fun r51 hr51 => ?_
          refine Run.u 400 E_ok mixed Tryz.func142 ?_
          refine Run.z [true] ?_
          refine Run.q (e := vIv) (gv := vIv) (ok_impl_Integer _) fun r52 hr52 => ?_
          refine Run.q (e := vIv) (gv := vIv) (ok_impl_MulI _ _) fun r53 hr53 => ?_
          refine Run.q (e := vIv) (gv := vIv) (ok_impl_Integer _) fun r54 hr54 => ?_
          refine Run.q (e := vIv) (gv := vIv) (ok_impl_DivI _ _) fun r55 hr55 => ?_
          refine Run.q (e := vIv) (gv := vIv) (ok_impl_AddI _ _) fun r56 hr56 => ?_
          refine Run.u 400 E_ok mixed Tryz.func142 ?_
          refine Run.z [false] ?_
          refine Run.q (e := vIv) (gv := vIv) (ok_impl_widened _ _) fun r57 hr57 => ?_
          refine Run.q (e := vIv) (gv := vIv) (ok_impl_scaled _ _ (by have z := expk_range a0 h6 h4; first | exact z.1 | exact z.2.1 | exact z.2.2.1 | exact z.2.2.2) (by have z := expk_range a0 h6 h4; first | exact z.1 | exact z.2.1 | exact z.2.2.1 | exact z.2.2.2)) fun r58 hr58 => ?_
          exact Run.x 0
        · refine Run.q (e := vIv) (gv := vIv) (ok_impl_at _) fun r59 hr59 => ?_
          refine Run.q (e := vIv) (gv := vIv) (ok_impl_LogTwoI _) fun r60 hr60 => ?_
          refine Run.q (e := vIv) (gv := vIv) (ok_impl_SubI _ _) fun r61 hr61 => ?_
          refine Run.q (e := vIv) (gv := vIv) (ok_impl_Integer _) fun r62 hr62 => ?_
          refine Run.u 400 E_ok mixed Tryz.func142 ?_
          refine Run.z [true] ?_
          refine Run.q (e := vIv) (gv := vIv) (ok_impl_Integer _) fun r63 hr63 => ?_
          refine Run.q (e := vIv) (gv := vIv) (ok_impl_MulI _ _) fun r64 hr64 => ?_
          refine Run.q (e := vIv) (gv := vIv) (ok_impl_Integer _) fun r65 hr65 => ?_
          refine Run.q (e := vIv) (gv := vIv) (ok_impl_DivI _ _) fun r66 hr66 => ?_
          refine Run.q (e := vIv) (gv := vIv) (ok_impl_AddI _ _) fun r67 hr67 => ?_
          refine Run.u 400 E_ok mixed Tryz.func142 ?_
          refine Run.z [true] ?_
          refine Run.q (e := vIv) (gv := vIv) (ok_impl_Integer _) fun r68 hr68 => ?_
          refine Run.q (e := vIv) (gv := vIv) (ok_impl_MulI _ _) fun r69 hr69 => ?_
          refine Run.q (e := vIv) (gv := vIv) (ok_impl_Integer _) fun r70 hr70 => ?_
          refine Run.q (e := vIv) (gv := vIv) (ok_impl_DivI _ _) fun r71 hr71 => ?_
          refine Run.q (e := vIv) (gv := vIv) (ok_impl_AddI _ _) fun r72 hr72 => ?_
          refine Run.u 400 E_ok mixed Tryz.func142 ?_
          refine Run.z [true] ?_
          refine Run.q (e := vIv) (gv := vIv) (ok_impl_Integer _) fun r73 hr73 => ?_
          refine Run.q (e := vIv) (gv := vIv) (ok_impl_MulI _ _) fun r74 hr74 => ?_
          refine Run.q (e := vIv) (gv := vIv) (ok_impl_Integer _) fun r75 hr75 => ?_
          refine Run.q (e := vIv) (gv := vIv) (ok_impl_DivI _ _) fun r76 hr76 => ?_
          refine Run.q (e := vIv) (gv := vIv) (ok_impl_AddI _ _) fun r77 hr77 => ?_
          refine Run.u 400 E_ok mixed Tryz.func142 ?_
          refine Run.z [true] ?_
          refine Run.q (e := vIv) (gv := vIv) (ok_impl_Integer _) fun r78 hr78 => ?_
          refine Run.q (e := vIv) (gv := vIv) (ok_impl_MulI _ _) fun r79 hr79 => ?_
          refine Run.q (e := vIv) (gv := vIv) (ok_impl_Integer _) fun r80 hr80 => ?_
          refine Run.q (e := vIv) (gv := vIv) (ok_impl_DivI _ _) fun r81 hr81 => ?_
          refine Run.q (e := vIv) (gv := vIv) (ok_impl_AddI _ _) fun r82 hr82 => ?_
          refine Run.u 400 E_ok mixed Tryz.func142 ?_
          refine Run.z [true] ?_
          refine Run.q (e := vIv) (gv := vIv) (ok_impl_Integer _) fun r83 hr83 => ?_
          refine Run.q (e := vIv) (gv := vIv) (ok_impl_MulI _ _) fun r84 hr84 => ?_
          refine Run.q (e := vIv) (gv := vIv) (ok_impl_Integer _) fun r85 hr85 => ?_
          refine Run.q (e := vIv) (gv := vIv) (ok_impl_DivI _ _) fun r86 hr86 => ?_
          refine Run.q (e := vIv) (gv := vIv) (ok_impl_AddI _ _) fun r87 hr87 => ?_
          refine Run.u 400 E_ok mixed Tryz.func142 ?_
          refine Run.z [true] ?_
          refine Run.q (e := vIv) (gv := vIv) (ok_impl_Integer _) fun r88 hr88 => ?_
          refine Run.q (e := vIv) (gv := vIv) (ok_impl_MulI _ _) fun r89 hr89 => ?_
          refine Run.q (e := vIv) (gv := vIv) (ok_impl_Integer _) fun r90 hr90 => ?_
          refine Run.q (e := vIv) (gv := vIv) (ok_impl_DivI _ _) fun r91 hr91 => ?_
          refine Run.q (e := vIv) (gv := vIv) (ok_impl_AddI _ _) fun r92 hr92 => ?_
          refine Run.u 400 E_ok mixed Tryz.func142 ?_
          refine Run.z [true] ?_
          refine Run.q (e := vIv) (gv := vIv) (ok_impl_Integer _) fun r93 hr93 => ?_
          refine Run.q (e := vIv) (gv := vIv) (ok_impl_MulI _ _) fun r94 hr94 => ?_
          refine Run.q (e := vIv) (gv := vIv) (ok_impl_Integer _) fun r95 hr95 => ?_
          refine Run.q (e := vIv) (gv := vIv) (ok_impl_DivI _ _) fun r96 hr96 => ?_
          refine Run.q (e := vIv) (gv := vIv) (ok_impl_AddI _ _) fun r97 hr97 => ?_
          refine Run.u 400 E_ok mixed Tryz.func142 ?_
          refine Run.z [true] ?_
          refine Run.q (e := vIv) (gv := vIv) (ok_impl_Integer _) fun r98 hr98 => ?_
          refine Run.q (e := vIv) (gv := vIv) (ok_impl_MulI _ _) fun r99 hr99 => ?_
          refine Run.q (e := vIv) (gv := vIv) (ok_impl_Integer _) fun r100 hr100 => ?_
          refine Run.q (e := vIv) (gv := vIv) (ok_impl_DivI _ _) fun r101 hr101 => ?_
          refine Run.q (e := vIv) (gv := vIv) (ok_impl_AddI _ _) fun r102 hr102 => ?_
          refine Run.u 400 E_ok mixed Tryz.func142 ?_
          refine Run.z [true] ?_
          refine Run.q (e := vIv) (gv := vIv) (ok_impl_Integer _) fun r103 hr103 => ?_
          refine Run.q (e := vIv) (gv := vIv) (ok_impl_MulI _ _) fun r104 hr104 => ?_
          refine Run.q (e := vIv) (gv := vIv) (ok_impl_Integer _) fun r105 hr105 => ?_
          refine Run.q (e := vIv) (gv := vIv) (ok_impl_DivI _ _) fun r106 hr106 => ?_
          refine Run.q (e := vIv) (gv := vIv) (ok_impl_AddI _ _) fun r107 hr107 => ?_
          refine Run.u 400 E_ok mixed Tryz.func142 ?_
          refine Run.z [false] ?_
          refine Run.q (e := vIv) (gv := vIv) (ok_impl_widened _ _) fun r108 hr108 => ?_
          refine Run.q (e := vIv) (gv := vIv) (ok_impl_scaled _ _ (by have z := expk_range a0 h6 h4; first | exact z.1 | exact z.2.1 | exact z.2.2.1 | exact z.2.2.2) (by have z := expk_range a0 h6 h4; first | exact z.1 | exact z.2.1 | exact z.2.2.1 | exact z.2.2.2)) fun r109 hr109 => ?_
          exact Run.x 0

theorem ok_impl_monotonic__impl_ExpAt (a0 : Iv) : Fun Tryz.prog 138 [] #[vIv a0, .func (.func 142) #[] #[]] (vIv (F_impl_monotonic__impl_ExpAt a0)) [] := by
  refine Fun.ofH 400 E_ok mixed Tryz.func138 (by kernel_rfl) (by kernel_rfl) ?_
  unfold F_impl_monotonic__impl_ExpAt
  refine Run.q (e := vB) (gv := vIv) (ok_impl_IsWhole _) fun r1 _ => ?_
  refine Run.y (gv := vIv) (fun _ => ?_) (fun _ => ?_)
  · refine Run.q (e := vIv) (gv := vIv) (ok_impl_Whole) fun r2 _ => ?_
    exact Run.x 0
  · refine Run.q (e := vIv) (gv := vIv) (ok_impl_ExpAt _) fun r3 _ => ?_
    refine Run.q (e := vIv) (gv := vIv) (ok_impl_ExpAt _) fun r4 _ => ?_
    refine Run.q (e := vB) (gv := vIv) (ok_impl_areBounded _ _) fun r5 _ => ?_
    refine Run.y (gv := vIv) (fun _ => ?_) (fun _ => ?_)
    · refine Run.q (e := vIv) (gv := vIv) (ok_impl_Whole) fun r6 _ => ?_
      exact Run.x 0
    · refine Run.q (e := vIv) (gv := vIv) (ok_impl_bounded _ _ _) fun r7 _ => ?_
      exact Run.x 0

theorem ok_impl_ExpI (a0 : Iv) : Fun Tryz.prog 107 [] #[vIv a0] (vIv (F_impl_ExpI a0)) [] := by
  refine Fun.ofH 400 E_ok mixed Tryz.func107 (by kernel_rfl) (by kernel_rfl) ?_
  unfold F_impl_ExpI
  refine Run.q (e := vIv) (gv := vIv) (ok_impl_monotonic__impl_ExpAt _) fun r1 _ => ?_
  exact Run.x 0

theorem ok_impl_conic_constant__pCn (b0 : Cn) : Fun Tryz.prog 97 [(#[.int .i64 b0.p.kind.val, .int .i64 b0.p.lat0.val, .int .i64 b0.p.lon0.val, .int .i64 b0.p.lat1.val, .int .i64 b0.p.lat2.val, .int .i64 b0.a.lo.val, .int .i64 b0.a.hi.val, .int .i64 b0.b.lo.val, .int .i64 b0.b.hi.val, .int .i64 b0.o.lo.val, .int .i64 b0.o.hi.val, .int .i64 b0.n.lo.val, .int .i64 b0.n.hi.val, .int .i64 b0.g.lo.val, .int .i64 b0.g.hi.val], 62)] #[.pointer (some ⟨0, 0, none⟩)] (vIv (F_impl_conic_constant__pCn b0)) [(#[.int .i64 b0.p.kind.val, .int .i64 b0.p.lat0.val, .int .i64 b0.p.lon0.val, .int .i64 b0.p.lat1.val, .int .i64 b0.p.lat2.val, .int .i64 b0.a.lo.val, .int .i64 b0.a.hi.val, .int .i64 b0.b.lo.val, .int .i64 b0.b.hi.val, .int .i64 b0.o.lo.val, .int .i64 b0.o.hi.val, .int .i64 b0.n.lo.val, .int .i64 b0.n.hi.val, .int .i64 b0.g.lo.val, .int .i64 b0.g.hi.val], 62)] := by
  refine Fun.ofH 400 E_ok mixed Tryz.func97 (by kernel_rfl) (by kernel_rfl) ?_
  unfold F_impl_conic_constant__pCn
  refine Run.y (gv := vIv) (fun _ => ?_) (fun _ => ?_)
  · refine Run.q (e := vIv) (gv := vIv) (ok_impl_CosI _) fun r1 _ => ?_
    refine Run.q (e := vIv) (gv := vIv) (ok_impl_SqrI _) fun r2 _ => ?_
    refine Run.q (e := vIv) (gv := vIv) (ok_impl_times _ _) fun r3 _ => ?_
    refine Run.q (e := vIv) (gv := vIv) (ok_impl_SinI _) fun r4 _ => ?_
    refine Run.q (e := vIv) (gv := vIv) (ok_impl_MulI _ _) fun r5 _ => ?_
    refine Run.q (e := vIv) (gv := vIv) (ok_impl_AddI _ _) fun r6 _ => ?_
    exact Run.x 1
  · refine Run.y (gv := vIv) (fun _ => ?_) (fun _ => ?_)
    · refine Run.q (e := vIv) (gv := vIv) (ok_impl_CosI _) fun r7 _ => ?_
      refine Run.q (e := vIv) (gv := vIv) (ok_impl_isometricSphere _) fun r8 _ => ?_
      refine Run.q (e := vIv) (gv := vIv) (ok_impl_MulI _ _) fun r9 _ => ?_
      refine Run.q (e := vIv) (gv := vIv) (ok_impl_ExpI _) fun r10 _ => ?_
      refine Run.q (e := vIv) (gv := vIv) (ok_impl_MulI _ _) fun r11 _ => ?_
      refine Run.q (e := vIv) (gv := vIv) (ok_impl_DivI _ _) fun r12 _ => ?_
      exact Run.x 1
    · refine Run.q (e := vIv) (gv := vIv) (ok_impl_CosI _) fun r13 _ => ?_
      refine Run.q (e := vIv) (gv := vIv) (ok_impl_DivI _ _) fun r14 _ => ?_
      refine Run.q (e := vIv) (gv := vIv) (ok_impl_AddI _ _) fun r15 _ => ?_
      exact Run.x 1

def R_impl_newConic (r : Cn × I64) : Value → List Blk → Prop := MB 62 (r.2.val != 0) (vCn r.1).cells
theorem ok_impl_newConic (a0 : Pj) : FunR Tryz.prog 31 [] #[vPj a0] (MBx 62 ((F_impl_newConic a0).2.val != 0) (vCn (F_impl_newConic a0).1).cells) := by
  refine FunR.mb (by kernel_rfl) (FunR.of 400 E_ok mixed Tryz.func31 (by kernel_rfl) ?_)
  show Run _ _ (R_impl_newConic (F_impl_newConic a0)) _
  unfold F_impl_newConic
  refine Run.gq (Rg := R_impl_newConic) (e := vB) (ok_impl_ValidProjection _) fun r1 hr1 => ?_
  refine Run.gy (Rg := R_impl_newConic) (fun h2 => ?_) (fun h2 => ?_)
  · refine Run.z [true, true, true, true, true] ?_
    exact Run.mbn (by kernel_rfl) (by kernel_rfl)
  · refine Run.z [false, false] ?_
    refine Run.gq (Rg := R_impl_newConic) (e := vB) (ok_impl_isConic _) fun r3 hr3 => ?_
    refine Run.z [false, false] ?_
    refine Run.gy (Rg := R_impl_newConic) (fun h4 => ?_) (fun h4 => ?_)
    · exact Run.mbn (by kernel_rfl) (by kernel_rfl)
    · refine Run.gq (Rg := R_impl_newConic) (e := vIv) (ok_impl_RadiansOf _) fun r5 hr5 => ?_
      refine Run.gq (Rg := R_impl_newConic) (e := vIv) (ok_impl_RadiansOf _) fun r6 hr6 => ?_
      refine Run.gq (Rg := R_impl_newConic) (e := vIv) (ok_impl_RadiansOf _) fun r7 hr7 => ?_
      refine Run.gw (Rg := R_impl_newConic) (e := vIv) [1] (ok_impl_conic_cone__pCn _) fun r8 hr8 => ?_
      refine Run.gw (Rg := R_impl_newConic) (e := vIv) [1] (ok_impl_conic_constant__pCn _) fun r9 hr9 => ?_
      exact Run.mbp 1 (by kernel_rfl) (by kernel_rfl) (by kernel_rfl)

theorem ok_impl_conic_radius__pCn (b0 : Cn) (a0 : Iv) : Fun Tryz.prog 39 [(#[.int .i64 b0.p.kind.val, .int .i64 b0.p.lat0.val, .int .i64 b0.p.lon0.val, .int .i64 b0.p.lat1.val, .int .i64 b0.p.lat2.val, .int .i64 b0.a.lo.val, .int .i64 b0.a.hi.val, .int .i64 b0.b.lo.val, .int .i64 b0.b.hi.val, .int .i64 b0.o.lo.val, .int .i64 b0.o.hi.val, .int .i64 b0.n.lo.val, .int .i64 b0.n.hi.val, .int .i64 b0.g.lo.val, .int .i64 b0.g.hi.val], 62)] #[.pointer (some ⟨0, 0, none⟩), vIv a0] (vIv (F_impl_conic_radius__pCn b0 a0)) [(#[.int .i64 b0.p.kind.val, .int .i64 b0.p.lat0.val, .int .i64 b0.p.lon0.val, .int .i64 b0.p.lat1.val, .int .i64 b0.p.lat2.val, .int .i64 b0.a.lo.val, .int .i64 b0.a.hi.val, .int .i64 b0.b.lo.val, .int .i64 b0.b.hi.val, .int .i64 b0.o.lo.val, .int .i64 b0.o.hi.val, .int .i64 b0.n.lo.val, .int .i64 b0.n.hi.val, .int .i64 b0.g.lo.val, .int .i64 b0.g.hi.val], 62)] := by
  refine Fun.ofH 400 E_ok mixed Tryz.func39 (by kernel_rfl) (by kernel_rfl) ?_
  unfold F_impl_conic_radius__pCn
  refine Run.y (gv := vIv) (fun _ => ?_) (fun _ => ?_)
  · refine Run.q (e := vIv) (gv := vIv) (ok_impl_times _ _) fun r1 _ => ?_
    refine Run.q (e := vIv) (gv := vIv) (ok_impl_SinI _) fun r2 _ => ?_
    refine Run.q (e := vIv) (gv := vIv) (ok_impl_MulI _ _) fun r3 _ => ?_
    refine Run.q (e := vIv) (gv := vIv) (ok_impl_SubI _ _) fun r4 _ => ?_
    refine Run.q (e := vIv) (gv := vIv) (ok_impl_SqrtI _) fun r5 _ => ?_
    refine Run.q (e := vIv) (gv := vIv) (ok_impl_DivI _ _) fun r6 _ => ?_
    exact Run.x 1
  · refine Run.y (gv := vIv) (fun _ => ?_) (fun _ => ?_)
    · refine Run.q (e := vIv) (gv := vIv) (ok_impl_isometricSphere _) fun r7 _ => ?_
      refine Run.q (e := vIv) (gv := vIv) (ok_impl_MulI _ _) fun r8 _ => ?_
      refine Run.q (e := vIv) (gv := vIv) (ok_impl_NegI _) fun r9 _ => ?_
      refine Run.q (e := vIv) (gv := vIv) (ok_impl_ExpI _) fun r10 _ => ?_
      refine Run.q (e := vIv) (gv := vIv) (ok_impl_MulI _ _) fun r11 _ => ?_
      exact Run.x 1
    · refine Run.q (e := vIv) (gv := vIv) (ok_impl_SubI _ _) fun r12 _ => ?_
      exact Run.x 1

theorem ok_impl_conic_scale__pCn (b0 : Cn) (a0 : Iv) : Fun Tryz.prog 33 [(#[.int .i64 b0.p.kind.val, .int .i64 b0.p.lat0.val, .int .i64 b0.p.lon0.val, .int .i64 b0.p.lat1.val, .int .i64 b0.p.lat2.val, .int .i64 b0.a.lo.val, .int .i64 b0.a.hi.val, .int .i64 b0.b.lo.val, .int .i64 b0.b.hi.val, .int .i64 b0.o.lo.val, .int .i64 b0.o.hi.val, .int .i64 b0.n.lo.val, .int .i64 b0.n.hi.val, .int .i64 b0.g.lo.val, .int .i64 b0.g.hi.val], 62)] #[.pointer (some ⟨0, 0, none⟩), vIv a0] (vIv (F_impl_conic_scale__pCn b0 a0)) [(#[.int .i64 b0.p.kind.val, .int .i64 b0.p.lat0.val, .int .i64 b0.p.lon0.val, .int .i64 b0.p.lat1.val, .int .i64 b0.p.lat2.val, .int .i64 b0.a.lo.val, .int .i64 b0.a.hi.val, .int .i64 b0.b.lo.val, .int .i64 b0.b.hi.val, .int .i64 b0.o.lo.val, .int .i64 b0.o.hi.val, .int .i64 b0.n.lo.val, .int .i64 b0.n.hi.val, .int .i64 b0.g.lo.val, .int .i64 b0.g.hi.val], 62)] := by
  refine Fun.ofH 400 E_ok mixed Tryz.func33 (by kernel_rfl) (by kernel_rfl) ?_
  unfold F_impl_conic_scale__pCn
  refine Run.w (e := vIv) (gv := vIv) [0] (ok_impl_conic_radius__pCn _ _) fun r1 _ => ?_
  refine Run.q (e := vIv) (gv := vIv) (ok_impl_MulI _ _) fun r2 _ => ?_
  refine Run.q (e := vIv) (gv := vIv) (ok_impl_CosI _) fun r3 _ => ?_
  refine Run.q (e := vIv) (gv := vIv) (ok_impl_DivI _ _) fun r4 _ => ?_
  exact Run.x 1

theorem ok_impl_pair (a0 : Iv) (a1 : Iv) : Fun Tryz.prog 32 [] #[vIv a0, vIv a1] (vT_Iv_Iv_I (F_impl_pair a0 a1)) [] := by
  refine Fun.ofH 400 E_ok mixed Tryz.func32 (by kernel_rfl) (by kernel_rfl) ?_
  unfold F_impl_pair
  refine Run.q (e := vB) (gv := vT_Iv_Iv_I) (ok_impl_areBounded _ _) fun r1 _ => ?_
  refine Run.y (gv := vT_Iv_Iv_I) (fun _ => ?_) (fun _ => ?_)
  · exact Run.x 0
  · exact Run.x 0

theorem ok_impl_StandardScales (a0 : Pj) : Fun Tryz.prog 11 [] #[vPj a0] (vT_Iv_Iv_I (F_impl_StandardScales a0)) [] := by
  refine Fun.ofH 400 E_ok mixed Tryz.func11 (by kernel_rfl) (by kernel_rfl) ?_
  unfold F_impl_StandardScales
  refine Run.bmb (nn := fun r : Cn × I64 => (r.2.val != 0)) (cl := fun r : Cn × I64 => (vCn r.1).cells) (gv := vT_Iv_Iv_I) (by kernel_rfl) (by kernel_rfl) (ok_impl_newConic _) (by kernel_rfl) (fun _ => rfl) (fun r1 hr1 => ?_) (fun r1 hr1 => ?_)
  · refine Run.z [true] ?_
    exact Run.x 0
  · refine Run.z [false] ?_
    refine Run.w (e := vIv) (gv := vT_Iv_Iv_I) [3] (ok_impl_conic_scale__pCn _ _) fun r2 hr2 => ?_
    refine Run.w (e := vIv) (gv := vT_Iv_Iv_I) [3] (ok_impl_conic_scale__pCn _ _) fun r3 hr3 => ?_
    refine Run.q (e := vT_Iv_Iv_I) (gv := vT_Iv_Iv_I) (ok_impl_pair _ _) fun r4 hr4 => ?_
    exact Run.x 0

theorem ok_laws_eqInterval (a0 : Iv) (a1 : Iv) : Fun Tryz.prog 12 [] #[vIv a0, vIv a1] (vB (F_laws_eqInterval a0 a1)) [] := by
  refine Fun.ofH 400 E_ok mixed Tryz.func12 (by kernel_rfl) (by kernel_rfl) ?_
  unfold F_laws_eqInterval
  refine Run.y (gv := vB) (fun _ => ?_) (fun _ => ?_)
  · exact Run.x 0
  · refine Run.y (gv := vB) (fun _ => ?_) (fun _ => ?_)
    · exact Run.x 0
    · exact Run.x 0

theorem ok_laws_FnExactStandardScales (a0 : Pj) : Fun Tryz.prog 3 [] #[vPj a0] (vB (F_laws_FnExactStandardScales a0)) [] := by
  refine Fun.ofH 400 E_ok mixed Tryz.func3 (by kernel_rfl) (by kernel_rfl) ?_
  unfold F_laws_FnExactStandardScales
  refine Run.q (e := vPj) (gv := vB) (ok_laws_toProjection _) fun r1 _ => ?_
  refine Run.q (e := vT_Iv_Iv_I) (gv := vB) (ok_spec_StandardScales _) fun r2 _ => ?_
  refine Run.q (e := vPj) (gv := vB) (ok_laws_toProjection _) fun r3 _ => ?_
  refine Run.q (e := vT_Iv_Iv_I) (gv := vB) (ok_impl_StandardScales _) fun r4 _ => ?_
  refine Run.q (e := vB) (gv := vB) (ok_laws_eqInterval _ _) fun r5 _ => ?_
  refine Run.y (gv := vB) (fun _ => ?_) (fun _ => ?_)
  · refine Run.z [true, true, true, true, true, true, true, true, true] ?_
    exact Run.x 0
  · refine Run.z [false, false] ?_
    refine Run.q (e := vB) (gv := vB) (ok_laws_eqInterval _ _) fun r6 _ => ?_
    refine Run.z [false, false] ?_
    refine Run.y (gv := vB) (fun _ => ?_) (fun _ => ?_)
    · refine Run.z [true, true, true, true] ?_
      exact Run.x 0
    · refine Run.z [false, false, false] ?_
      refine Run.y (gv := vB) (fun _ => ?_) (fun _ => ?_)
      · exact Run.x 0
      · exact Run.x 0

theorem ok_laws_toInterval (a0 : Iv) : Fun Tryz.prog 14 [] #[vIv a0] (vIv (F_laws_toInterval a0)) [] := by
  refine Fun.ofH 400 E_ok mixed Tryz.func14 (by kernel_rfl) (by kernel_rfl) ?_
  unfold F_laws_toInterval
  exact Run.x 0

theorem ok_spec_l19Known (a0 : Iv) : Fun Tryz.prog 35 [] #[vIv a0] (vT_Iv_I (F_spec_l19Known a0)) [] := by
  refine Fun.ofH 400 E_ok mixed Tryz.func35 (by kernel_rfl) (by kernel_rfl) ?_
  unfold F_spec_l19Known
  refine Run.q (e := vB) (gv := vT_Iv_I) (ok_spec_l04Ok _) fun r1 _ => ?_
  refine Run.y (gv := vT_Iv_I) (fun _ => ?_) (fun _ => ?_)
  · exact Run.x 0
  · exact Run.x 0

theorem ok_spec_ConicRadius (a0 : Pj) (a1 : Iv) : Fun Tryz.prog 13 [] #[vPj a0, vIv a1] (vT_Iv_I (F_spec_ConicRadius a0 a1)) [] := by
  refine Fun.ofH 400 E_ok mixed Tryz.func13 (by kernel_rfl) (by kernel_rfl) ?_
  unfold F_spec_ConicRadius
  refine Run.q (e := vB) (gv := vT_Iv_I) (ok_spec_l19Ok _) fun r1 _ => ?_
  refine Run.y (gv := vT_Iv_I) (fun _ => ?_) (fun _ => ?_)
  · exact Run.x 0
  · refine Run.q (e := vIv) (gv := vT_Iv_I) (ok_spec_l19Cone _) fun r2 _ => ?_
    refine Run.q (e := vIv) (gv := vT_Iv_I) (ok_spec_l19Constant _ _) fun r3 _ => ?_
    refine Run.q (e := vIv) (gv := vT_Iv_I) (ok_spec_l19Radius _ _ _ _) fun r4 _ => ?_
    refine Run.q (e := vT_Iv_I) (gv := vT_Iv_I) (ok_spec_l19Known _) fun r5 _ => ?_
    exact Run.x 0

theorem ok_impl_knownI (a0 : Iv) : Fun Tryz.prog 38 [] #[vIv a0] (vT_Iv_I (F_impl_knownI a0)) [] := by
  refine Fun.ofH 400 E_ok mixed Tryz.func38 (by kernel_rfl) (by kernel_rfl) ?_
  unfold F_impl_knownI
  refine Run.q (e := vB) (gv := vT_Iv_I) (ok_impl_IsWhole _) fun r1 _ => ?_
  refine Run.y (gv := vT_Iv_I) (fun _ => ?_) (fun _ => ?_)
  · exact Run.x 0
  · exact Run.x 0

theorem ok_impl_ConicRadius (a0 : Pj) (a1 : Iv) : Fun Tryz.prog 15 [] #[vPj a0, vIv a1] (vT_Iv_I (F_impl_ConicRadius a0 a1)) [] := by
  refine Fun.ofH 400 E_ok mixed Tryz.func15 (by kernel_rfl) (by kernel_rfl) ?_
  unfold F_impl_ConicRadius
  refine Run.bmb (nn := fun r : Cn × I64 => (r.2.val != 0)) (cl := fun r : Cn × I64 => (vCn r.1).cells) (gv := vT_Iv_I) (by kernel_rfl) (by kernel_rfl) (ok_impl_newConic _) (by kernel_rfl) (fun _ => rfl) (fun r1 hr1 => ?_) (fun r1 hr1 => ?_)
  · refine Run.z [true] ?_
    exact Run.x 0
  · refine Run.z [false] ?_
    refine Run.w (e := vIv) (gv := vT_Iv_I) [3] (ok_impl_conic_radius__pCn _ _) fun r2 hr2 => ?_
    refine Run.q (e := vT_Iv_I) (gv := vT_Iv_I) (ok_impl_knownI _) fun r3 hr3 => ?_
    exact Run.x 0

theorem ok_laws_FnExactConicRadius (a0 : Pj) (a1 : Iv) : Fun Tryz.prog 4 [] #[vPj a0, vIv a1] (vB (F_laws_FnExactConicRadius a0 a1)) [] := by
  refine Fun.ofH 400 E_ok mixed Tryz.func4 (by kernel_rfl) (by kernel_rfl) ?_
  unfold F_laws_FnExactConicRadius
  refine Run.q (e := vPj) (gv := vB) (ok_laws_toProjection _) fun r1 _ => ?_
  refine Run.q (e := vIv) (gv := vB) (ok_laws_toInterval _) fun r2 _ => ?_
  refine Run.q (e := vT_Iv_I) (gv := vB) (ok_spec_ConicRadius _ _) fun r3 _ => ?_
  refine Run.q (e := vPj) (gv := vB) (ok_laws_toProjection _) fun r4 _ => ?_
  refine Run.q (e := vIv) (gv := vB) (ok_laws_toInterval _) fun r5 _ => ?_
  refine Run.q (e := vT_Iv_I) (gv := vB) (ok_impl_ConicRadius _ _) fun r6 _ => ?_
  refine Run.q (e := vB) (gv := vB) (ok_laws_eqInterval _ _) fun r7 _ => ?_
  refine Run.y (gv := vB) (fun _ => ?_) (fun _ => ?_)
  · refine Run.z [true, true, true, true] ?_
    exact Run.x 0
  · refine Run.z [false, false, false] ?_
    refine Run.y (gv := vB) (fun _ => ?_) (fun _ => ?_)
    · exact Run.x 0
    · exact Run.x 0

theorem ok_laws_toPlanar (a0 : Pn) : Fun Tryz.prog 17 [] #[vPn a0] (vPn (F_laws_toPlanar a0)) [] := by
  refine Fun.ofH 400 E_ok mixed Tryz.func17 (by kernel_rfl) (by kernel_rfl) ?_
  unfold F_laws_toPlanar
  refine Run.q (e := vIv) (gv := vPn) (ok_laws_toInterval _) fun r1 _ => ?_
  refine Run.q (e := vIv) (gv := vPn) (ok_laws_toInterval _) fun r2 _ => ?_
  exact Run.x 0

theorem ok_spec_ValidProjection (a0 : Pj) : Fun Tryz.prog 110 [] #[vPj a0] (vB (F_spec_ValidProjection a0)) [] := by
  refine Fun.ofH 400 E_ok mixed Tryz.func110 (by kernel_rfl) (by kernel_rfl) ?_
  unfold F_spec_ValidProjection
  refine Run.q (e := vB) (gv := vB) (ok_spec_l17Ok _) fun r1 _ => ?_
  exact Run.x 0

theorem ok_spec_l21Ok__pPj (b0 : Pj) : Fun Tryz.prog 40 [(#[.int .i64 b0.kind.val, .int .i64 b0.lat0.val, .int .i64 b0.lon0.val, .int .i64 b0.lat1.val, .int .i64 b0.lat2.val], 28)] #[.pointer (some ⟨0, 0, none⟩)] (vB (F_spec_l21Ok__pPj b0)) [(#[.int .i64 b0.kind.val, .int .i64 b0.lat0.val, .int .i64 b0.lon0.val, .int .i64 b0.lat1.val, .int .i64 b0.lat2.val], 28)] := by
  refine Fun.ofH 400 E_ok mixed Tryz.func40 (by kernel_rfl) (by kernel_rfl) ?_
  unfold F_spec_l21Ok__pPj
  refine Run.y (gv := vB) (fun _ => ?_) (fun _ => ?_)
  · refine Run.z [true, true, true] ?_
    refine Run.q (e := vB) (gv := vB) (ok_spec_ValidProjection _) fun r1 _ => ?_
    refine Run.z [true] ?_
    exact Run.x 1
  · refine Run.z [false, false, false, false] ?_
    exact Run.x 1

theorem ok_spec_AbsI (a0 : Iv) : Fun Tryz.prog 119 [] #[vIv a0] (vIv (F_spec_AbsI a0)) [] := by
  refine Fun.ofH 400 E_ok mixed Tryz.func119 (by kernel_rfl) (by kernel_rfl) ?_
  unfold F_spec_AbsI
  refine Run.q (e := vB) (gv := vIv) (ok_spec_l04Ok _) fun r1 _ => ?_
  refine Run.y (gv := vIv) (fun _ => ?_) (fun _ => ?_)
  · refine Run.q (e := vIv) (gv := vIv) (ok_spec_l04Whole) fun r2 _ => ?_
    exact Run.x 0
  · refine Run.q (e := vT_I_I) (gv := vIv) (ok_spec_l04Ends _) fun r3 _ => ?_
    refine Run.q (e := vIv) (gv := vIv) (ok_spec_l04Make _ _) fun r4 _ => ?_
    exact Run.x 0

theorem ok_spec_l08Cosh (a0 : I64) : Fun Tryz.prog 121 [] #[vI a0] (vIv (F_spec_l08Cosh a0)) [] := by
  refine Fun.ofH 400 E_ok mixed Tryz.func121 (by kernel_rfl) (by kernel_rfl) ?_
  unfold F_spec_l08Cosh
  refine Run.q (e := vIv) (gv := vIv) (ok_spec_ExpAt _) fun r1 _ => ?_
  refine Run.q (e := vIv) (gv := vIv) (ok_spec_ExpAt _) fun r2 _ => ?_
  refine Run.q (e := vIv) (gv := vIv) (ok_spec_AddI _ _) fun r3 _ => ?_
  refine Run.q (e := vIv) (gv := vIv) (ok_spec_HalfI _) fun r4 _ => ?_
  exact Run.x 0

theorem ok_spec_CoshI (a0 : Iv) : Fun Tryz.prog 44 [] #[vIv a0] (vIv (F_spec_CoshI a0)) [] := by
  refine Fun.ofH 400 E_ok mixed Tryz.func44 (by kernel_rfl) (by kernel_rfl) ?_
  unfold F_spec_CoshI
  refine Run.q (e := vB) (gv := vIv) (ok_spec_l04Ok _) fun r1 _ => ?_
  refine Run.y (gv := vIv) (fun _ => ?_) (fun _ => ?_)
  · refine Run.q (e := vIv) (gv := vIv) (ok_spec_l04Whole) fun r2 _ => ?_
    exact Run.x 0
  · refine Run.q (e := vIv) (gv := vIv) (ok_spec_AbsI _) fun r3 _ => ?_
    refine Run.q (e := vIv) (gv := vIv) (ok_spec_l08Cosh _) fun r4 _ => ?_
    refine Run.q (e := vIv) (gv := vIv) (ok_spec_l08Cosh _) fun r5 _ => ?_
    refine Run.q (e := vIv) (gv := vIv) (ok_spec_l08Ends _ _) fun r6 _ => ?_
    exact Run.x 0

theorem ok_spec_WideMul (a0 : I64) (a1 : I64) : Fun Tryz.prog 256 [] #[vI a0, vI a1] (vWd (F_spec_WideMul a0 a1)) [] := by
  refine Fun.ofH 400 E_ok mixed Tryz.func256 (by kernel_rfl) (by kernel_rfl) ?_
  unfold F_spec_WideMul
  refine Run.q (e := vWd) (gv := vWd) (ok_spec_l02Mul _ _) fun r1 _ => ?_
  exact Run.x 0

theorem ok_spec_CircleAt (a0 : I64) : Fun Tryz.prog 201 [] #[vI a0] (vIv (F_spec_CircleAt a0)) [] := by
  refine Fun.ofH 400 E_ok mixed Tryz.func201 (by kernel_rfl) (by kernel_rfl) ?_
  unfold F_spec_CircleAt
  refine Run.q (e := vB) (gv := vIv) (ok_spec_l00In _ _ _) fun r1 _ => ?_
  refine Run.y (gv := vIv) (fun _ => ?_) (fun _ => ?_)
  · refine Run.q (e := vIv) (gv := vIv) (ok_spec_Whole) fun r2 _ => ?_
    exact Run.x 0
  · refine Run.q (e := vT_I_B) (gv := vIv) (ok_spec_SqrtFloor _ _) fun r3 _ => ?_
    refine Run.q (e := vWd) (gv := vIv) (ok_spec_WideMul _ _) fun r4 _ => ?_
    refine Run.q (e := vWd) (gv := vIv) (ok_spec_WideMul _ _) fun r5 _ => ?_
    refine Run.y (gv := vIv) (fun _ => ?_) (fun _ => ?_)
    · exact Run.x 0
    · exact Run.x 0

theorem ok_spec_IsWhole (a0 : Iv) : Fun Tryz.prog 46 [] #[vIv a0] (vB (F_spec_IsWhole a0)) [] := by
  refine Fun.ofH 400 E_ok mixed Tryz.func46 (by kernel_rfl) (by kernel_rfl) ?_
  unfold F_spec_IsWhole
  refine Run.q (e := vB) (gv := vB) (ok_spec_l04Ok _) fun r1 _ => ?_
  exact Run.x 0

theorem ok_spec_l07Quarter : Fun Tryz.prog 202 [] #[] (vIv (F_spec_l07Quarter)) [] := by
  refine Fun.ofH 400 E_ok mixed Tryz.func202 (by kernel_rfl) (by kernel_rfl) ?_
  unfold F_spec_l07Quarter
  refine Run.q (e := vIv) (gv := vIv) (ok_spec_l05Turn _ (by simp only [w64_val, wu64_val, c64_val, cu64_val, decide_eq_true_eq, decide_eq_false_iff_not, cond_true, cond_false] at *; omega)) fun r1 hr1 => ?_
  refine Run.q (e := vIv) (gv := vIv) (ok_spec_l05Turn _ (by simp only [w64_val, wu64_val, c64_val, cu64_val, decide_eq_true_eq, decide_eq_false_iff_not, cond_true, cond_false] at *; omega)) fun r2 hr2 => ?_
  exact Run.x 0

theorem ok_spec_l07Fix (a0 : I64) : Fun Tryz.prog 203 [] #[vI a0] (vB (F_spec_l07Fix a0)) [] := by
  refine Fun.ofH 400 E_ok mixed Tryz.func203 (by kernel_rfl) (by kernel_rfl) ?_
  unfold F_spec_l07Fix
  refine Run.y (gv := vB) (fun _ => ?_) (fun _ => ?_)
  · refine Run.z [true, true] ?_
    exact Run.x 0
  · refine Run.z [false, false] ?_
    exact Run.x 0

theorem ok_spec_l07Halve (a0 : Iv) : Fun Tryz.prog 294 [] #[vIv a0] (vIv (F_spec_l07Halve a0)) [] := by
  refine Fun.ofH 400 E_ok mixed Tryz.func294 (by kernel_rfl) (by kernel_rfl) ?_
  unfold F_spec_l07Halve
  refine Run.q (e := vIv) (gv := vIv) (ok_spec_Integer _) fun r1 _ => ?_
  refine Run.q (e := vIv) (gv := vIv) (ok_spec_Integer _) fun r2 _ => ?_
  refine Run.q (e := vIv) (gv := vIv) (ok_spec_SqrI _) fun r3 _ => ?_
  refine Run.q (e := vIv) (gv := vIv) (ok_spec_AddI _ _) fun r4 _ => ?_
  refine Run.q (e := vIv) (gv := vIv) (ok_spec_SqrtI _) fun r5 _ => ?_
  refine Run.q (e := vIv) (gv := vIv) (ok_spec_AddI _ _) fun r6 _ => ?_
  refine Run.q (e := vIv) (gv := vIv) (ok_spec_DivI _ _) fun r7 _ => ?_
  exact Run.x 0

theorem ok_spec_ArcSeries (a0 : Iv) : Fun Tryz.prog 293 [] #[vIv a0] (vIv (F_spec_ArcSeries a0)) [] := by
  refine Fun.ofH 400 E_ok mixed Tryz.func293 (by kernel_rfl) (by kernel_rfl) ?_
  unfold F_spec_ArcSeries
  refine Run.q (e := vB) (gv := vIv) (ok_spec_InsideI _ _) fun r1 _ => ?_
  refine Run.y (gv := vIv) (fun _ => ?_) (fun _ => ?_)
  · refine Run.q (e := vIv) (gv := vIv) (ok_spec_Whole) fun r2 _ => ?_
    exact Run.x 0
  · refine Run.q (e := vIv) (gv := vIv) (ok_spec_SqrI _) fun r3 _ => ?_
    refine Run.q (e := vIv) (gv := vIv) (ok_spec_Quotient _ _) fun r4 _ => ?_
    refine Run.u 400 E_ok mixed Tryz.func293 ?_
    refine Run.z [true] ?_
    refine Run.q (e := vIv) (gv := vIv) (ok_spec_Quotient _ _) fun r5 _ => ?_
    refine Run.q (e := vIv) (gv := vIv) (ok_spec_MulI _ _) fun r6 _ => ?_
    refine Run.q (e := vIv) (gv := vIv) (ok_spec_SubI _ _) fun r7 _ => ?_
    refine Run.u 400 E_ok mixed Tryz.func293 ?_
    refine Run.z [true] ?_
    refine Run.q (e := vIv) (gv := vIv) (ok_spec_Quotient _ _) fun r8 _ => ?_
    refine Run.q (e := vIv) (gv := vIv) (ok_spec_MulI _ _) fun r9 _ => ?_
    refine Run.q (e := vIv) (gv := vIv) (ok_spec_SubI _ _) fun r10 _ => ?_
    refine Run.u 400 E_ok mixed Tryz.func293 ?_
    refine Run.z [true] ?_
    refine Run.q (e := vIv) (gv := vIv) (ok_spec_Quotient _ _) fun r11 _ => ?_
    refine Run.q (e := vIv) (gv := vIv) (ok_spec_MulI _ _) fun r12 _ => ?_
    refine Run.q (e := vIv) (gv := vIv) (ok_spec_SubI _ _) fun r13 _ => ?_
    refine Run.u 400 E_ok mixed Tryz.func293 ?_
    refine Run.z [true] ?_
    refine Run.q (e := vIv) (gv := vIv) (ok_spec_Quotient _ _) fun r14 _ => ?_
    refine Run.q (e := vIv) (gv := vIv) (ok_spec_MulI _ _) fun r15 _ => ?_
    refine Run.q (e := vIv) (gv := vIv) (ok_spec_SubI _ _) fun r16 _ => ?_
    refine Run.u 400 E_ok mixed Tryz.func293 ?_
    refine Run.z [true] ?_
    refine Run.q (e := vIv) (gv := vIv) (ok_spec_Quotient _ _) fun r17 _ => ?_
    refine Run.q (e := vIv) (gv := vIv) (ok_spec_MulI _ _) fun r18 _ => ?_
    refine Run.q (e := vIv) (gv := vIv) (ok_spec_SubI _ _) fun r19 _ => ?_
    refine Run.u 400 E_ok mixed Tryz.func293 ?_
    refine Run.z [true] ?_
    refine Run.q (e := vIv) (gv := vIv) (ok_spec_Quotient _ _) fun r20 _ => ?_
    refine Run.q (e := vIv) (gv := vIv) (ok_spec_MulI _ _) fun r21 _ => ?_
    refine Run.q (e := vIv) (gv := vIv) (ok_spec_SubI _ _) fun r22 _ => ?_
    refine Run.u 400 E_ok mixed Tryz.func293 ?_
    refine Run.z [true] ?_
    refine Run.q (e := vIv) (gv := vIv) (ok_spec_Quotient _ _) fun r23 _ => ?_
    refine Run.q (e := vIv) (gv := vIv) (ok_spec_MulI _ _) fun r24 _ => ?_
    refine Run.q (e := vIv) (gv := vIv) (ok_spec_SubI _ _) fun r25 _ => ?_
    refine Run.u 400 E_ok mixed Tryz.func293 ?_
    refine Run.z [true] ?_
    refine Run.q (e := vIv) (gv := vIv) (ok_spec_Quotient _ _) fun r26 _ => ?_
    refine Run.q (e := vIv) (gv := vIv) (ok_spec_MulI _ _) fun r27 _ => ?_
    refine Run.q (e := vIv) (gv := vIv) (ok_spec_SubI _ _) fun r28 _ => ?_
    refine Run.u 400 E_ok mixed Tryz.func293 ?_
    refine Run.z [true] ?_
    refine Run.q (e := vIv) (gv := vIv) (ok_spec_Quotient _ _) fun r29 _ => ?_
    refine Run.q (e := vIv) (gv := vIv) (ok_spec_MulI _ _) fun r30 _ => ?_
    refine Run.q (e := vIv) (gv := vIv) (ok_spec_SubI _ _) fun r31 _ => ?_
    refine Run.u 400 E_ok mixed Tryz.func293 ?_
    refine Run.z [true] ?_
    refine Run.q (e := vIv) (gv := vIv) (ok_spec_Quotient _ _) fun r32 _ => ?_
    refine Run.q (e := vIv) (gv := vIv) (ok_spec_MulI _ _) fun r33 _ => ?_
    refine Run.q (e := vIv) (gv := vIv) (ok_spec_SubI _ _) fun r34 _ => ?_
    refine Run.u 400 E_ok mixed Tryz.func293 ?_
    refine Run.z [false] ?_
    refine Run.q (e := vIv) (gv := vIv) (ok_spec_MulI _ _) fun r35 _ => ?_
    refine Run.q (e := vIv) (gv := vIv) (ok_spec_l06Tiny) fun r36 _ => ?_
    refine Run.q (e := vIv) (gv := vIv) (ok_spec_AddI _ _) fun r37 _ => ?_
    exact Run.x 0

theorem ok_spec_DoubleI (a0 : Iv) : Fun Tryz.prog 198 [] #[vIv a0] (vIv (F_spec_DoubleI a0)) [] := by
  refine Fun.ofH 400 E_ok mixed Tryz.func198 (by kernel_rfl) (by kernel_rfl) ?_
  unfold F_spec_DoubleI
  refine Run.q (e := vB) (gv := vIv) (ok_spec_l04Ok _) fun r1 _ => ?_
  refine Run.y (gv := vIv) (fun _ => ?_) (fun _ => ?_)
  · refine Run.q (e := vIv) (gv := vIv) (ok_spec_l04Whole) fun r2 _ => ?_
    exact Run.x 0
  · refine Run.q (e := vIv) (gv := vIv) (ok_spec_l04Make _ _) fun r3 _ => ?_
    exact Run.x 0

theorem ok_spec_l07Core (a0 : Iv) : Fun Tryz.prog 283 [] #[vIv a0] (vIv (F_spec_l07Core a0)) [] := by
  refine Fun.ofH 400 E_ok mixed Tryz.func283 (by kernel_rfl) (by kernel_rfl) ?_
  unfold F_spec_l07Core
  refine Run.q (e := vIv) (gv := vIv) (ok_spec_l07Halve _) fun r1 _ => ?_
  refine Run.q (e := vIv) (gv := vIv) (ok_spec_l07Halve _) fun r2 _ => ?_
  refine Run.q (e := vIv) (gv := vIv) (ok_spec_ArcSeries _) fun r3 _ => ?_
  refine Run.q (e := vIv) (gv := vIv) (ok_spec_DoubleI _) fun r4 _ => ?_
  refine Run.q (e := vIv) (gv := vIv) (ok_spec_DoubleI _) fun r5 _ => ?_
  exact Run.x 0

theorem ok_spec_AtanAt_r : ∀ (fu : Nat) (a0 : I64) (hm : min (0 - a0.val).toNat 1 < fu), Fun Tryz.prog 255 [] #[vI a0] (vIv (F_spec_AtanAt_r fu a0)) [] := by
  intro fu
  induction fu with
  | zero => intro a0 hm; exact absurd hm (Nat.not_lt_zero _)
  | succ fu ih =>
    intro a0 hm
    refine Fun.ofH 400 E_ok mixed Tryz.func255 (by kernel_rfl) (by kernel_rfl) ?_
    unfold F_spec_AtanAt_r
    unfold F_spec_AtanAt_b
    refine Run.q (e := vB) (gv := vIv) (ok_spec_l07Fix _) fun r1 hr1 => ?_
    refine Run.y (gv := vIv) (fun h2 => ?_) (fun h2 => ?_)
    · refine Run.q (e := vIv) (gv := vIv) (ok_spec_l07Quarter) fun r3 hr3 => ?_
      exact Run.x 0
    · refine Run.y (gv := vIv) (fun h4 => ?_) (fun h4 => ?_)
      · refine Run.q (e := vIv) (gv := vIv) (ih (w64 (0 - a0.val)) (by rw [hr1] at h2; simp [F_spec_l07Fix, c64_val] at h2; simp only [w64_val, decide_eq_true_eq, decide_eq_false_iff_not] at *; omega)) fun r5 hr5 => ?_
        refine Run.q (e := vIv) (gv := vIv) (ok_spec_NegI _) fun r6 hr6 => ?_
        exact Run.x 0
      · refine Run.y (gv := vIv) (fun h7 => ?_) (fun h7 => ?_)
        · refine Run.q (e := vIv) (gv := vIv) (ok_spec_TurnI _) fun r8 hr8 => ?_
          refine Run.q (e := vIv) (gv := vIv) (ok_spec_Integer _) fun r9 hr9 => ?_
          refine Run.q (e := vIv) (gv := vIv) (ok_spec_l05At _) fun r10 hr10 => ?_
          refine Run.q (e := vIv) (gv := vIv) (ok_spec_DivI _ _) fun r11 hr11 => ?_
          refine Run.q (e := vIv) (gv := vIv) (ok_spec_l07Core _) fun r12 hr12 => ?_
          refine Run.q (e := vIv) (gv := vIv) (ok_spec_SubI _ _) fun r13 hr13 => ?_
          exact Run.x 0
        · refine Run.q (e := vIv) (gv := vIv) (ok_spec_l05At _) fun r14 hr14 => ?_
          refine Run.q (e := vIv) (gv := vIv) (ok_spec_l07Core _) fun r15 hr15 => ?_
          exact Run.x 0
theorem ok_spec_AtanAt (a0 : I64) : Fun Tryz.prog 255 [] #[vI a0] (vIv (F_spec_AtanAt a0)) [] := ok_spec_AtanAt_r 2 a0 (by omega)

theorem ok_spec_AtanI (a0 : Iv) : Fun Tryz.prog 199 [] #[vIv a0] (vIv (F_spec_AtanI a0)) [] := by
  refine Fun.ofH 400 E_ok mixed Tryz.func199 (by kernel_rfl) (by kernel_rfl) ?_
  unfold F_spec_AtanI
  refine Run.q (e := vB) (gv := vIv) (ok_spec_IsWhole _) fun r1 _ => ?_
  refine Run.y (gv := vIv) (fun _ => ?_) (fun _ => ?_)
  · refine Run.q (e := vIv) (gv := vIv) (ok_spec_l07Quarter) fun r2 _ => ?_
    exact Run.x 0
  · refine Run.q (e := vIv) (gv := vIv) (ok_spec_AtanAt _) fun r3 _ => ?_
    refine Run.q (e := vIv) (gv := vIv) (ok_spec_AtanAt _) fun r4 _ => ?_
    refine Run.q (e := vIv) (gv := vIv) (ok_spec_HullI _ _) fun r5 _ => ?_
    exact Run.x 0

theorem ok_spec_AsinAt (a0 : I64) : Fun Tryz.prog 125 [] #[vI a0] (vIv (F_spec_AsinAt a0)) [] := by
  refine Fun.ofH 400 E_ok mixed Tryz.func125 (by kernel_rfl) (by kernel_rfl) ?_
  unfold F_spec_AsinAt
  refine Run.q (e := vB) (gv := vIv) (ok_spec_l00In _ _ _) fun r1 _ => ?_
  refine Run.y (gv := vIv) (fun _ => ?_) (fun _ => ?_)
  · refine Run.q (e := vIv) (gv := vIv) (ok_spec_Whole) fun r2 _ => ?_
    exact Run.x 0
  · refine Run.q (e := vIv) (gv := vIv) (ok_spec_l05At _) fun r3 _ => ?_
    refine Run.q (e := vIv) (gv := vIv) (ok_spec_Integer _) fun r4 _ => ?_
    refine Run.q (e := vIv) (gv := vIv) (ok_spec_CircleAt _) fun r5 _ => ?_
    refine Run.q (e := vIv) (gv := vIv) (ok_spec_AddI _ _) fun r6 _ => ?_
    refine Run.q (e := vIv) (gv := vIv) (ok_spec_DivI _ _) fun r7 _ => ?_
    refine Run.q (e := vIv) (gv := vIv) (ok_spec_AtanI _) fun r8 _ => ?_
    refine Run.q (e := vIv) (gv := vIv) (ok_spec_DoubleI _) fun r9 _ => ?_
    refine Run.q (e := vIv) (gv := vIv) (ok_spec_l07Quarter) fun r10 _ => ?_
    refine Run.q (e := vT_Iv_B) (gv := vIv) (ok_spec_MeetI _ _) fun r11 _ => ?_
    exact Run.x 0

theorem ok_spec_AsinI (a0 : Iv) : Fun Tryz.prog 45 [] #[vIv a0] (vIv (F_spec_AsinI a0)) [] := by
  refine Fun.ofH 400 E_ok mixed Tryz.func45 (by kernel_rfl) (by kernel_rfl) ?_
  unfold F_spec_AsinI
  refine Run.q (e := vIv) (gv := vIv) (ok_spec_l06Ring) fun r1 _ => ?_
  refine Run.q (e := vT_Iv_B) (gv := vIv) (ok_spec_MeetI _ _) fun r2 _ => ?_
  refine Run.y (gv := vIv) (fun _ => ?_) (fun _ => ?_)
  · refine Run.q (e := vIv) (gv := vIv) (ok_spec_Whole) fun r3 _ => ?_
    exact Run.x 0
  · refine Run.q (e := vIv) (gv := vIv) (ok_spec_AsinAt _) fun r4 _ => ?_
    refine Run.q (e := vIv) (gv := vIv) (ok_spec_AsinAt _) fun r5 _ => ?_
    refine Run.q (e := vIv) (gv := vIv) (ok_spec_HullI _ _) fun r6 _ => ?_
    exact Run.x 0

theorem ok_spec_l08Sinh (a0 : I64) : Fun Tryz.prog 128 [] #[vI a0] (vIv (F_spec_l08Sinh a0)) [] := by
  refine Fun.ofH 400 E_ok mixed Tryz.func128 (by kernel_rfl) (by kernel_rfl) ?_
  unfold F_spec_l08Sinh
  refine Run.q (e := vIv) (gv := vIv) (ok_spec_ExpAt _) fun r1 _ => ?_
  refine Run.q (e := vIv) (gv := vIv) (ok_spec_ExpAt _) fun r2 _ => ?_
  refine Run.q (e := vIv) (gv := vIv) (ok_spec_SubI _ _) fun r3 _ => ?_
  refine Run.q (e := vIv) (gv := vIv) (ok_spec_HalfI _) fun r4 _ => ?_
  exact Run.x 0

theorem ok_spec_SinhI (a0 : Iv) : Fun Tryz.prog 48 [] #[vIv a0] (vIv (F_spec_SinhI a0)) [] := by
  refine Fun.ofH 400 E_ok mixed Tryz.func48 (by kernel_rfl) (by kernel_rfl) ?_
  unfold F_spec_SinhI
  refine Run.q (e := vB) (gv := vIv) (ok_spec_l04Ok _) fun r1 _ => ?_
  refine Run.y (gv := vIv) (fun _ => ?_) (fun _ => ?_)
  · refine Run.q (e := vIv) (gv := vIv) (ok_spec_l04Whole) fun r2 _ => ?_
    exact Run.x 0
  · refine Run.q (e := vIv) (gv := vIv) (ok_spec_l08Sinh _) fun r3 _ => ?_
    refine Run.q (e := vIv) (gv := vIv) (ok_spec_l08Sinh _) fun r4 _ => ?_
    refine Run.q (e := vIv) (gv := vIv) (ok_spec_l08Ends _ _) fun r5 _ => ?_
    exact Run.x 0

theorem ok_spec_HasI (a0 : Iv) (a1 : I64) : Fun Tryz.prog 126 [] #[vIv a0, vI a1] (vB (F_spec_HasI a0 a1)) [] := by
  refine Fun.ofH 400 E_ok mixed Tryz.func126 (by kernel_rfl) (by kernel_rfl) ?_
  unfold F_spec_HasI
  refine Run.q (e := vB) (gv := vB) (ok_spec_l04Ok _) fun r1 _ => ?_
  refine Run.y (gv := vB) (fun _ => ?_) (fun _ => ?_)
  · refine Run.z [true, true, true] ?_
    exact Run.x 0
  · refine Run.z [false, false] ?_
    refine Run.q (e := vB) (gv := vB) (ok_spec_l04Has _ _) fun r2 _ => ?_
    refine Run.z [false] ?_
    exact Run.x 0

theorem ok_spec_DirectionAt (a0 : I64) (a1 : I64) : Fun Tryz.prog 127 [] #[vI a0, vI a1] (vIv (F_spec_DirectionAt a0 a1)) [] := by
  refine Fun.ofH 400 E_ok mixed Tryz.func127 (by kernel_rfl) (by kernel_rfl) ?_
  unfold F_spec_DirectionAt
  refine Run.q (e := vB) (gv := vIv) (ok_spec_l07Fix _) fun r1 _ => ?_
  refine Run.y (gv := vIv) (fun _ => ?_) (fun _ => ?_)
  · refine Run.z [true, true, true, true, true, true, true, true, true] ?_
    refine Run.q (e := vIv) (gv := vIv) (ok_spec_Whole) fun r2 _ => ?_
    exact Run.x 0
  · refine Run.z [false] ?_
    refine Run.q (e := vB) (gv := vIv) (ok_spec_l07Fix _) fun r3 _ => ?_
    refine Run.z [false, false] ?_
    refine Run.y (gv := vIv) (fun _ => ?_) (fun _ => ?_)
    · refine Run.z [true, true, true, true, true] ?_
      refine Run.q (e := vIv) (gv := vIv) (ok_spec_Whole) fun r4 _ => ?_
      exact Run.x 0
    · refine Run.z [false, false] ?_
      refine Run.y (gv := vIv) (fun _ => ?_) (fun _ => ?_)
      · refine Run.z [true, false, true, false] ?_
        refine Run.y (gv := vIv) (fun _ => ?_) (fun _ => ?_)
        · refine Run.q (e := vIv) (gv := vIv) (ok_spec_Whole) fun r5 _ => ?_
          exact Run.x 0
        · refine Run.y (gv := vIv) (fun _ => ?_) (fun _ => ?_)
          · refine Run.y (gv := vIv) (fun _ => ?_) (fun _ => ?_)
            · refine Run.z [true, true, true, true] ?_
              refine Run.y (gv := vIv) (fun _ => ?_) (fun _ => ?_)
              · refine Run.y (gv := vIv) (fun _ => ?_) (fun _ => ?_)
                · refine Run.q (e := vIv) (gv := vIv) (ok_spec_TurnI _) fun r6 _ => ?_
                  refine Run.q (e := vIv) (gv := vIv) (ok_spec_l05At _) fun r7 _ => ?_
                  refine Run.q (e := vIv) (gv := vIv) (ok_spec_l05At _) fun r8 _ => ?_
                  refine Run.q (e := vIv) (gv := vIv) (ok_spec_DivI _ _) fun r9 _ => ?_
                  refine Run.q (e := vIv) (gv := vIv) (ok_spec_AtanI _) fun r10 _ => ?_
                  refine Run.q (e := vIv) (gv := vIv) (ok_spec_SubI _ _) fun r11 _ => ?_
                  exact Run.x 0
                · refine Run.q (e := vIv) (gv := vIv) (ok_spec_TurnI _) fun r12 _ => ?_
                  refine Run.q (e := vIv) (gv := vIv) (ok_spec_l05At _) fun r13 _ => ?_
                  refine Run.q (e := vIv) (gv := vIv) (ok_spec_l05At _) fun r14 _ => ?_
                  refine Run.q (e := vIv) (gv := vIv) (ok_spec_DivI _ _) fun r15 _ => ?_
                  refine Run.q (e := vIv) (gv := vIv) (ok_spec_AtanI _) fun r16 _ => ?_
                  refine Run.q (e := vIv) (gv := vIv) (ok_spec_SubI _ _) fun r17 _ => ?_
                  exact Run.x 0
              · refine Run.y (gv := vIv) (fun _ => ?_) (fun _ => ?_)
                · refine Run.q (e := vIv) (gv := vIv) (ok_spec_l05At _) fun r18 _ => ?_
                  refine Run.q (e := vIv) (gv := vIv) (ok_spec_l05At _) fun r19 _ => ?_
                  refine Run.q (e := vIv) (gv := vIv) (ok_spec_DivI _ _) fun r20 _ => ?_
                  refine Run.q (e := vIv) (gv := vIv) (ok_spec_AtanI _) fun r21 _ => ?_
                  exact Run.x 0
                · refine Run.y (gv := vIv) (fun _ => ?_) (fun _ => ?_)
                  · refine Run.q (e := vIv) (gv := vIv) (ok_spec_l05At _) fun r22 _ => ?_
                    refine Run.q (e := vIv) (gv := vIv) (ok_spec_l05At _) fun r23 _ => ?_
                    refine Run.q (e := vIv) (gv := vIv) (ok_spec_DivI _ _) fun r24 _ => ?_
                    refine Run.q (e := vIv) (gv := vIv) (ok_spec_AtanI _) fun r25 _ => ?_
                    refine Run.q (e := vIv) (gv := vIv) (ok_spec_TurnI _) fun r26 _ => ?_
                    refine Run.q (e := vIv) (gv := vIv) (ok_spec_AddI _ _) fun r27 _ => ?_
                    exact Run.x 0
                  · refine Run.q (e := vIv) (gv := vIv) (ok_spec_l05At _) fun r28 _ => ?_
                    refine Run.q (e := vIv) (gv := vIv) (ok_spec_l05At _) fun r29 _ => ?_
                    refine Run.q (e := vIv) (gv := vIv) (ok_spec_DivI _ _) fun r30 _ => ?_
                    refine Run.q (e := vIv) (gv := vIv) (ok_spec_AtanI _) fun r31 _ => ?_
                    refine Run.q (e := vIv) (gv := vIv) (ok_spec_TurnI _) fun r32 _ => ?_
                    refine Run.q (e := vIv) (gv := vIv) (ok_spec_AddI _ _) fun r33 _ => ?_
                    exact Run.x 0
            · refine Run.z [false, false, false, false, false] ?_
              refine Run.y (gv := vIv) (fun _ => ?_) (fun _ => ?_)
              · refine Run.q (e := vIv) (gv := vIv) (ok_spec_l05At _) fun r34 _ => ?_
                refine Run.q (e := vIv) (gv := vIv) (ok_spec_l05At _) fun r35 _ => ?_
                refine Run.q (e := vIv) (gv := vIv) (ok_spec_DivI _ _) fun r36 _ => ?_
                refine Run.q (e := vIv) (gv := vIv) (ok_spec_AtanI _) fun r37 _ => ?_
                exact Run.x 0
              · refine Run.y (gv := vIv) (fun _ => ?_) (fun _ => ?_)
                · refine Run.q (e := vIv) (gv := vIv) (ok_spec_l05At _) fun r38 _ => ?_
                  refine Run.q (e := vIv) (gv := vIv) (ok_spec_l05At _) fun r39 _ => ?_
                  refine Run.q (e := vIv) (gv := vIv) (ok_spec_DivI _ _) fun r40 _ => ?_
                  refine Run.q (e := vIv) (gv := vIv) (ok_spec_AtanI _) fun r41 _ => ?_
                  refine Run.q (e := vIv) (gv := vIv) (ok_spec_TurnI _) fun r42 _ => ?_
                  refine Run.q (e := vIv) (gv := vIv) (ok_spec_AddI _ _) fun r43 _ => ?_
                  exact Run.x 0
                · refine Run.q (e := vIv) (gv := vIv) (ok_spec_l05At _) fun r44 _ => ?_
                  refine Run.q (e := vIv) (gv := vIv) (ok_spec_l05At _) fun r45 _ => ?_
                  refine Run.q (e := vIv) (gv := vIv) (ok_spec_DivI _ _) fun r46 _ => ?_
                  refine Run.q (e := vIv) (gv := vIv) (ok_spec_AtanI _) fun r47 _ => ?_
                  refine Run.q (e := vIv) (gv := vIv) (ok_spec_TurnI _) fun r48 _ => ?_
                  refine Run.q (e := vIv) (gv := vIv) (ok_spec_AddI _ _) fun r49 _ => ?_
                  exact Run.x 0
          · refine Run.y (gv := vIv) (fun _ => ?_) (fun _ => ?_)
            · refine Run.z [true, true, true, true] ?_
              refine Run.y (gv := vIv) (fun _ => ?_) (fun _ => ?_)
              · refine Run.y (gv := vIv) (fun _ => ?_) (fun _ => ?_)
                · refine Run.q (e := vIv) (gv := vIv) (ok_spec_TurnI _) fun r50 _ => ?_
                  refine Run.q (e := vIv) (gv := vIv) (ok_spec_l05At _) fun r51 _ => ?_
                  refine Run.q (e := vIv) (gv := vIv) (ok_spec_l05At _) fun r52 _ => ?_
                  refine Run.q (e := vIv) (gv := vIv) (ok_spec_DivI _ _) fun r53 _ => ?_
                  refine Run.q (e := vIv) (gv := vIv) (ok_spec_AtanI _) fun r54 _ => ?_
                  refine Run.q (e := vIv) (gv := vIv) (ok_spec_SubI _ _) fun r55 _ => ?_
                  exact Run.x 0
                · refine Run.q (e := vIv) (gv := vIv) (ok_spec_TurnI _) fun r56 _ => ?_
                  refine Run.q (e := vIv) (gv := vIv) (ok_spec_l05At _) fun r57 _ => ?_
                  refine Run.q (e := vIv) (gv := vIv) (ok_spec_l05At _) fun r58 _ => ?_
                  refine Run.q (e := vIv) (gv := vIv) (ok_spec_DivI _ _) fun r59 _ => ?_
                  refine Run.q (e := vIv) (gv := vIv) (ok_spec_AtanI _) fun r60 _ => ?_
                  refine Run.q (e := vIv) (gv := vIv) (ok_spec_SubI _ _) fun r61 _ => ?_
                  exact Run.x 0
              · refine Run.y (gv := vIv) (fun _ => ?_) (fun _ => ?_)
                · refine Run.q (e := vIv) (gv := vIv) (ok_spec_l05At _) fun r62 _ => ?_
                  refine Run.q (e := vIv) (gv := vIv) (ok_spec_l05At _) fun r63 _ => ?_
                  refine Run.q (e := vIv) (gv := vIv) (ok_spec_DivI _ _) fun r64 _ => ?_
                  refine Run.q (e := vIv) (gv := vIv) (ok_spec_AtanI _) fun r65 _ => ?_
                  exact Run.x 0
                · refine Run.y (gv := vIv) (fun _ => ?_) (fun _ => ?_)
                  · refine Run.q (e := vIv) (gv := vIv) (ok_spec_l05At _) fun r66 _ => ?_
                    refine Run.q (e := vIv) (gv := vIv) (ok_spec_l05At _) fun r67 _ => ?_
                    refine Run.q (e := vIv) (gv := vIv) (ok_spec_DivI _ _) fun r68 _ => ?_
                    refine Run.q (e := vIv) (gv := vIv) (ok_spec_AtanI _) fun r69 _ => ?_
                    refine Run.q (e := vIv) (gv := vIv) (ok_spec_TurnI _) fun r70 _ => ?_
                    refine Run.q (e := vIv) (gv := vIv) (ok_spec_AddI _ _) fun r71 _ => ?_
                    exact Run.x 0
                  · refine Run.q (e := vIv) (gv := vIv) (ok_spec_l05At _) fun r72 _ => ?_
                    refine Run.q (e := vIv) (gv := vIv) (ok_spec_l05At _) fun r73 _ => ?_
                    refine Run.q (e := vIv) (gv := vIv) (ok_spec_DivI _ _) fun r74 _ => ?_
                    refine Run.q (e := vIv) (gv := vIv) (ok_spec_AtanI _) fun r75 _ => ?_
                    refine Run.q (e := vIv) (gv := vIv) (ok_spec_TurnI _) fun r76 _ => ?_
                    refine Run.q (e := vIv) (gv := vIv) (ok_spec_AddI _ _) fun r77 _ => ?_
                    exact Run.x 0
            · refine Run.z [false, false, false, false, false] ?_
              refine Run.y (gv := vIv) (fun _ => ?_) (fun _ => ?_)
              · refine Run.q (e := vIv) (gv := vIv) (ok_spec_l05At _) fun r78 _ => ?_
                refine Run.q (e := vIv) (gv := vIv) (ok_spec_l05At _) fun r79 _ => ?_
                refine Run.q (e := vIv) (gv := vIv) (ok_spec_DivI _ _) fun r80 _ => ?_
                refine Run.q (e := vIv) (gv := vIv) (ok_spec_AtanI _) fun r81 _ => ?_
                exact Run.x 0
              · refine Run.y (gv := vIv) (fun _ => ?_) (fun _ => ?_)
                · refine Run.q (e := vIv) (gv := vIv) (ok_spec_l05At _) fun r82 _ => ?_
                  refine Run.q (e := vIv) (gv := vIv) (ok_spec_l05At _) fun r83 _ => ?_
                  refine Run.q (e := vIv) (gv := vIv) (ok_spec_DivI _ _) fun r84 _ => ?_
                  refine Run.q (e := vIv) (gv := vIv) (ok_spec_AtanI _) fun r85 _ => ?_
                  refine Run.q (e := vIv) (gv := vIv) (ok_spec_TurnI _) fun r86 _ => ?_
                  refine Run.q (e := vIv) (gv := vIv) (ok_spec_AddI _ _) fun r87 _ => ?_
                  exact Run.x 0
                · refine Run.q (e := vIv) (gv := vIv) (ok_spec_l05At _) fun r88 _ => ?_
                  refine Run.q (e := vIv) (gv := vIv) (ok_spec_l05At _) fun r89 _ => ?_
                  refine Run.q (e := vIv) (gv := vIv) (ok_spec_DivI _ _) fun r90 _ => ?_
                  refine Run.q (e := vIv) (gv := vIv) (ok_spec_AtanI _) fun r91 _ => ?_
                  refine Run.q (e := vIv) (gv := vIv) (ok_spec_TurnI _) fun r92 _ => ?_
                  refine Run.q (e := vIv) (gv := vIv) (ok_spec_AddI _ _) fun r93 _ => ?_
                  exact Run.x 0
      · refine Run.z [false, false, false, false, false] ?_
        refine Run.y (gv := vIv) (fun _ => ?_) (fun _ => ?_)
        · refine Run.y (gv := vIv) (fun _ => ?_) (fun _ => ?_)
          · refine Run.z [true, true, true, true] ?_
            refine Run.y (gv := vIv) (fun _ => ?_) (fun _ => ?_)
            · refine Run.y (gv := vIv) (fun _ => ?_) (fun _ => ?_)
              · refine Run.q (e := vIv) (gv := vIv) (ok_spec_TurnI _) fun r94 _ => ?_
                refine Run.q (e := vIv) (gv := vIv) (ok_spec_l05At _) fun r95 _ => ?_
                refine Run.q (e := vIv) (gv := vIv) (ok_spec_l05At _) fun r96 _ => ?_
                refine Run.q (e := vIv) (gv := vIv) (ok_spec_DivI _ _) fun r97 _ => ?_
                refine Run.q (e := vIv) (gv := vIv) (ok_spec_AtanI _) fun r98 _ => ?_
                refine Run.q (e := vIv) (gv := vIv) (ok_spec_SubI _ _) fun r99 _ => ?_
                exact Run.x 0
              · refine Run.q (e := vIv) (gv := vIv) (ok_spec_TurnI _) fun r100 _ => ?_
                refine Run.q (e := vIv) (gv := vIv) (ok_spec_l05At _) fun r101 _ => ?_
                refine Run.q (e := vIv) (gv := vIv) (ok_spec_l05At _) fun r102 _ => ?_
                refine Run.q (e := vIv) (gv := vIv) (ok_spec_DivI _ _) fun r103 _ => ?_
                refine Run.q (e := vIv) (gv := vIv) (ok_spec_AtanI _) fun r104 _ => ?_
                refine Run.q (e := vIv) (gv := vIv) (ok_spec_SubI _ _) fun r105 _ => ?_
                exact Run.x 0
            · refine Run.y (gv := vIv) (fun _ => ?_) (fun _ => ?_)
              · refine Run.q (e := vIv) (gv := vIv) (ok_spec_l05At _) fun r106 _ => ?_
                refine Run.q (e := vIv) (gv := vIv) (ok_spec_l05At _) fun r107 _ => ?_
                refine Run.q (e := vIv) (gv := vIv) (ok_spec_DivI _ _) fun r108 _ => ?_
                refine Run.q (e := vIv) (gv := vIv) (ok_spec_AtanI _) fun r109 _ => ?_
                exact Run.x 0
              · refine Run.y (gv := vIv) (fun _ => ?_) (fun _ => ?_)
                · refine Run.q (e := vIv) (gv := vIv) (ok_spec_l05At _) fun r110 _ => ?_
                  refine Run.q (e := vIv) (gv := vIv) (ok_spec_l05At _) fun r111 _ => ?_
                  refine Run.q (e := vIv) (gv := vIv) (ok_spec_DivI _ _) fun r112 _ => ?_
                  refine Run.q (e := vIv) (gv := vIv) (ok_spec_AtanI _) fun r113 _ => ?_
                  refine Run.q (e := vIv) (gv := vIv) (ok_spec_TurnI _) fun r114 _ => ?_
                  refine Run.q (e := vIv) (gv := vIv) (ok_spec_AddI _ _) fun r115 _ => ?_
                  exact Run.x 0
                · refine Run.q (e := vIv) (gv := vIv) (ok_spec_l05At _) fun r116 _ => ?_
                  refine Run.q (e := vIv) (gv := vIv) (ok_spec_l05At _) fun r117 _ => ?_
                  refine Run.q (e := vIv) (gv := vIv) (ok_spec_DivI _ _) fun r118 _ => ?_
                  refine Run.q (e := vIv) (gv := vIv) (ok_spec_AtanI _) fun r119 _ => ?_
                  refine Run.q (e := vIv) (gv := vIv) (ok_spec_TurnI _) fun r120 _ => ?_
                  refine Run.q (e := vIv) (gv := vIv) (ok_spec_AddI _ _) fun r121 _ => ?_
                  exact Run.x 0
          · refine Run.z [false, false, false, false, false] ?_
            refine Run.y (gv := vIv) (fun _ => ?_) (fun _ => ?_)
            · refine Run.q (e := vIv) (gv := vIv) (ok_spec_l05At _) fun r122 _ => ?_
              refine Run.q (e := vIv) (gv := vIv) (ok_spec_l05At _) fun r123 _ => ?_
              refine Run.q (e := vIv) (gv := vIv) (ok_spec_DivI _ _) fun r124 _ => ?_
              refine Run.q (e := vIv) (gv := vIv) (ok_spec_AtanI _) fun r125 _ => ?_
              exact Run.x 0
            · refine Run.y (gv := vIv) (fun _ => ?_) (fun _ => ?_)
              · refine Run.q (e := vIv) (gv := vIv) (ok_spec_l05At _) fun r126 _ => ?_
                refine Run.q (e := vIv) (gv := vIv) (ok_spec_l05At _) fun r127 _ => ?_
                refine Run.q (e := vIv) (gv := vIv) (ok_spec_DivI _ _) fun r128 _ => ?_
                refine Run.q (e := vIv) (gv := vIv) (ok_spec_AtanI _) fun r129 _ => ?_
                refine Run.q (e := vIv) (gv := vIv) (ok_spec_TurnI _) fun r130 _ => ?_
                refine Run.q (e := vIv) (gv := vIv) (ok_spec_AddI _ _) fun r131 _ => ?_
                exact Run.x 0
              · refine Run.q (e := vIv) (gv := vIv) (ok_spec_l05At _) fun r132 _ => ?_
                refine Run.q (e := vIv) (gv := vIv) (ok_spec_l05At _) fun r133 _ => ?_
                refine Run.q (e := vIv) (gv := vIv) (ok_spec_DivI _ _) fun r134 _ => ?_
                refine Run.q (e := vIv) (gv := vIv) (ok_spec_AtanI _) fun r135 _ => ?_
                refine Run.q (e := vIv) (gv := vIv) (ok_spec_TurnI _) fun r136 _ => ?_
                refine Run.q (e := vIv) (gv := vIv) (ok_spec_AddI _ _) fun r137 _ => ?_
                exact Run.x 0
        · refine Run.y (gv := vIv) (fun _ => ?_) (fun _ => ?_)
          · refine Run.z [true, true, true, true] ?_
            refine Run.y (gv := vIv) (fun _ => ?_) (fun _ => ?_)
            · refine Run.y (gv := vIv) (fun _ => ?_) (fun _ => ?_)
              · refine Run.q (e := vIv) (gv := vIv) (ok_spec_TurnI _) fun r138 _ => ?_
                refine Run.q (e := vIv) (gv := vIv) (ok_spec_l05At _) fun r139 _ => ?_
                refine Run.q (e := vIv) (gv := vIv) (ok_spec_l05At _) fun r140 _ => ?_
                refine Run.q (e := vIv) (gv := vIv) (ok_spec_DivI _ _) fun r141 _ => ?_
                refine Run.q (e := vIv) (gv := vIv) (ok_spec_AtanI _) fun r142 _ => ?_
                refine Run.q (e := vIv) (gv := vIv) (ok_spec_SubI _ _) fun r143 _ => ?_
                exact Run.x 0
              · refine Run.q (e := vIv) (gv := vIv) (ok_spec_TurnI _) fun r144 _ => ?_
                refine Run.q (e := vIv) (gv := vIv) (ok_spec_l05At _) fun r145 _ => ?_
                refine Run.q (e := vIv) (gv := vIv) (ok_spec_l05At _) fun r146 _ => ?_
                refine Run.q (e := vIv) (gv := vIv) (ok_spec_DivI _ _) fun r147 _ => ?_
                refine Run.q (e := vIv) (gv := vIv) (ok_spec_AtanI _) fun r148 _ => ?_
                refine Run.q (e := vIv) (gv := vIv) (ok_spec_SubI _ _) fun r149 _ => ?_
                exact Run.x 0
            · refine Run.y (gv := vIv) (fun _ => ?_) (fun _ => ?_)
              · refine Run.q (e := vIv) (gv := vIv) (ok_spec_l05At _) fun r150 _ => ?_
                refine Run.q (e := vIv) (gv := vIv) (ok_spec_l05At _) fun r151 _ => ?_
                refine Run.q (e := vIv) (gv := vIv) (ok_spec_DivI _ _) fun r152 _ => ?_
                refine Run.q (e := vIv) (gv := vIv) (ok_spec_AtanI _) fun r153 _ => ?_
                exact Run.x 0
              · refine Run.y (gv := vIv) (fun _ => ?_) (fun _ => ?_)
                · refine Run.q (e := vIv) (gv := vIv) (ok_spec_l05At _) fun r154 _ => ?_
                  refine Run.q (e := vIv) (gv := vIv) (ok_spec_l05At _) fun r155 _ => ?_
                  refine Run.q (e := vIv) (gv := vIv) (ok_spec_DivI _ _) fun r156 _ => ?_
                  refine Run.q (e := vIv) (gv := vIv) (ok_spec_AtanI _) fun r157 _ => ?_
                  refine Run.q (e := vIv) (gv := vIv) (ok_spec_TurnI _) fun r158 _ => ?_
                  refine Run.q (e := vIv) (gv := vIv) (ok_spec_AddI _ _) fun r159 _ => ?_
                  exact Run.x 0
                · refine Run.q (e := vIv) (gv := vIv) (ok_spec_l05At _) fun r160 _ => ?_
                  refine Run.q (e := vIv) (gv := vIv) (ok_spec_l05At _) fun r161 _ => ?_
                  refine Run.q (e := vIv) (gv := vIv) (ok_spec_DivI _ _) fun r162 _ => ?_
                  refine Run.q (e := vIv) (gv := vIv) (ok_spec_AtanI _) fun r163 _ => ?_
                  refine Run.q (e := vIv) (gv := vIv) (ok_spec_TurnI _) fun r164 _ => ?_
                  refine Run.q (e := vIv) (gv := vIv) (ok_spec_AddI _ _) fun r165 _ => ?_
                  exact Run.x 0
          · refine Run.z [false, false, false, false, false] ?_
            refine Run.y (gv := vIv) (fun _ => ?_) (fun _ => ?_)
            · refine Run.q (e := vIv) (gv := vIv) (ok_spec_l05At _) fun r166 _ => ?_
              refine Run.q (e := vIv) (gv := vIv) (ok_spec_l05At _) fun r167 _ => ?_
              refine Run.q (e := vIv) (gv := vIv) (ok_spec_DivI _ _) fun r168 _ => ?_
              refine Run.q (e := vIv) (gv := vIv) (ok_spec_AtanI _) fun r169 _ => ?_
              exact Run.x 0
            · refine Run.y (gv := vIv) (fun _ => ?_) (fun _ => ?_)
              · refine Run.q (e := vIv) (gv := vIv) (ok_spec_l05At _) fun r170 _ => ?_
                refine Run.q (e := vIv) (gv := vIv) (ok_spec_l05At _) fun r171 _ => ?_
                refine Run.q (e := vIv) (gv := vIv) (ok_spec_DivI _ _) fun r172 _ => ?_
                refine Run.q (e := vIv) (gv := vIv) (ok_spec_AtanI _) fun r173 _ => ?_
                refine Run.q (e := vIv) (gv := vIv) (ok_spec_TurnI _) fun r174 _ => ?_
                refine Run.q (e := vIv) (gv := vIv) (ok_spec_AddI _ _) fun r175 _ => ?_
                exact Run.x 0
              · refine Run.q (e := vIv) (gv := vIv) (ok_spec_l05At _) fun r176 _ => ?_
                refine Run.q (e := vIv) (gv := vIv) (ok_spec_l05At _) fun r177 _ => ?_
                refine Run.q (e := vIv) (gv := vIv) (ok_spec_DivI _ _) fun r178 _ => ?_
                refine Run.q (e := vIv) (gv := vIv) (ok_spec_AtanI _) fun r179 _ => ?_
                refine Run.q (e := vIv) (gv := vIv) (ok_spec_TurnI _) fun r180 _ => ?_
                refine Run.q (e := vIv) (gv := vIv) (ok_spec_AddI _ _) fun r181 _ => ?_
                exact Run.x 0

theorem ok_spec_DirectionI (a0 : Iv) (a1 : Iv) : Fun Tryz.prog 47 [] #[vIv a0, vIv a1] (vIv (F_spec_DirectionI a0 a1)) [] := by
  refine Fun.ofH 400 E_ok mixed Tryz.func47 (by kernel_rfl) (by kernel_rfl) ?_
  unfold F_spec_DirectionI
  refine Run.q (e := vB) (gv := vIv) (ok_spec_IsWhole _) fun r1 _ => ?_
  refine Run.y (gv := vIv) (fun _ => ?_) (fun _ => ?_)
  · refine Run.z [true, true, true, true, true, true, true, true, true, true, true, true, true, true, true, true] ?_
    refine Run.q (e := vIv) (gv := vIv) (ok_spec_Whole) fun r2 _ => ?_
    exact Run.x 0
  · refine Run.z [false] ?_
    refine Run.q (e := vB) (gv := vIv) (ok_spec_IsWhole _) fun r3 _ => ?_
    refine Run.z [false] ?_
    refine Run.y (gv := vIv) (fun _ => ?_) (fun _ => ?_)
    · refine Run.z [true, true, true, true, true, true, true, true, true, true, true, true, true] ?_
      refine Run.q (e := vIv) (gv := vIv) (ok_spec_Whole) fun r4 _ => ?_
      exact Run.x 0
    · refine Run.z [false] ?_
      refine Run.q (e := vB) (gv := vIv) (ok_spec_HasI _ _) fun r5 _ => ?_
      refine Run.z [false] ?_
      refine Run.y (gv := vIv) (fun _ => ?_) (fun _ => ?_)
      · refine Run.z [true] ?_
        refine Run.q (e := vB) (gv := vIv) (ok_spec_HasI _ _) fun r6 _ => ?_
        refine Run.z [false, true, false] ?_
        refine Run.y (gv := vIv) (fun _ => ?_) (fun _ => ?_)
        · refine Run.z [true, true, true, true, true, true, true, true] ?_
          refine Run.q (e := vIv) (gv := vIv) (ok_spec_Whole) fun r7 _ => ?_
          exact Run.x 0
        · refine Run.z [false, false, false] ?_
          refine Run.y (gv := vIv) (fun _ => ?_) (fun _ => ?_)
          · refine Run.z [true, true, false, true, false] ?_
            refine Run.y (gv := vIv) (fun _ => ?_) (fun _ => ?_)
            · refine Run.z [true, true, false, true, false] ?_
              refine Run.y (gv := vIv) (fun _ => ?_) (fun _ => ?_)
              · refine Run.q (e := vIv) (gv := vIv) (ok_spec_Whole) fun r8 _ => ?_
                exact Run.x 0
              · refine Run.q (e := vIv) (gv := vIv) (ok_spec_DirectionAt _ _) fun r9 _ => ?_
                refine Run.q (e := vIv) (gv := vIv) (ok_spec_DirectionAt _ _) fun r10 _ => ?_
                refine Run.q (e := vIv) (gv := vIv) (ok_spec_HullI _ _) fun r11 _ => ?_
                refine Run.q (e := vIv) (gv := vIv) (ok_spec_DirectionAt _ _) fun r12 _ => ?_
                refine Run.q (e := vIv) (gv := vIv) (ok_spec_DirectionAt _ _) fun r13 _ => ?_
                refine Run.q (e := vIv) (gv := vIv) (ok_spec_HullI _ _) fun r14 _ => ?_
                refine Run.q (e := vIv) (gv := vIv) (ok_spec_HullI _ _) fun r15 _ => ?_
                exact Run.x 0
            · refine Run.z [false, false, false, false, false, false] ?_
              refine Run.q (e := vIv) (gv := vIv) (ok_spec_DirectionAt _ _) fun r16 _ => ?_
              refine Run.q (e := vIv) (gv := vIv) (ok_spec_DirectionAt _ _) fun r17 _ => ?_
              refine Run.q (e := vIv) (gv := vIv) (ok_spec_HullI _ _) fun r18 _ => ?_
              refine Run.q (e := vIv) (gv := vIv) (ok_spec_DirectionAt _ _) fun r19 _ => ?_
              refine Run.q (e := vIv) (gv := vIv) (ok_spec_DirectionAt _ _) fun r20 _ => ?_
              refine Run.q (e := vIv) (gv := vIv) (ok_spec_HullI _ _) fun r21 _ => ?_
              refine Run.q (e := vIv) (gv := vIv) (ok_spec_HullI _ _) fun r22 _ => ?_
              exact Run.x 0
          · refine Run.z [false, false, false, false, false, false, false, false, false, false, false, false] ?_
            refine Run.q (e := vIv) (gv := vIv) (ok_spec_DirectionAt _ _) fun r23 _ => ?_
            refine Run.q (e := vIv) (gv := vIv) (ok_spec_DirectionAt _ _) fun r24 _ => ?_
            refine Run.q (e := vIv) (gv := vIv) (ok_spec_HullI _ _) fun r25 _ => ?_
            refine Run.q (e := vIv) (gv := vIv) (ok_spec_DirectionAt _ _) fun r26 _ => ?_
            refine Run.q (e := vIv) (gv := vIv) (ok_spec_DirectionAt _ _) fun r27 _ => ?_
            refine Run.q (e := vIv) (gv := vIv) (ok_spec_HullI _ _) fun r28 _ => ?_
            refine Run.q (e := vIv) (gv := vIv) (ok_spec_HullI _ _) fun r29 _ => ?_
            exact Run.x 0
      · refine Run.z [false, false, false, false, false, false, false, false] ?_
        refine Run.y (gv := vIv) (fun _ => ?_) (fun _ => ?_)
        · refine Run.z [true, true, false, true, false] ?_
          refine Run.y (gv := vIv) (fun _ => ?_) (fun _ => ?_)
          · refine Run.z [true, true, false, true, false] ?_
            refine Run.y (gv := vIv) (fun _ => ?_) (fun _ => ?_)
            · refine Run.q (e := vIv) (gv := vIv) (ok_spec_Whole) fun r30 _ => ?_
              exact Run.x 0
            · refine Run.q (e := vIv) (gv := vIv) (ok_spec_DirectionAt _ _) fun r31 _ => ?_
              refine Run.q (e := vIv) (gv := vIv) (ok_spec_DirectionAt _ _) fun r32 _ => ?_
              refine Run.q (e := vIv) (gv := vIv) (ok_spec_HullI _ _) fun r33 _ => ?_
              refine Run.q (e := vIv) (gv := vIv) (ok_spec_DirectionAt _ _) fun r34 _ => ?_
              refine Run.q (e := vIv) (gv := vIv) (ok_spec_DirectionAt _ _) fun r35 _ => ?_
              refine Run.q (e := vIv) (gv := vIv) (ok_spec_HullI _ _) fun r36 _ => ?_
              refine Run.q (e := vIv) (gv := vIv) (ok_spec_HullI _ _) fun r37 _ => ?_
              exact Run.x 0
          · refine Run.z [false, false, false, false, false, false] ?_
            refine Run.q (e := vIv) (gv := vIv) (ok_spec_DirectionAt _ _) fun r38 _ => ?_
            refine Run.q (e := vIv) (gv := vIv) (ok_spec_DirectionAt _ _) fun r39 _ => ?_
            refine Run.q (e := vIv) (gv := vIv) (ok_spec_HullI _ _) fun r40 _ => ?_
            refine Run.q (e := vIv) (gv := vIv) (ok_spec_DirectionAt _ _) fun r41 _ => ?_
            refine Run.q (e := vIv) (gv := vIv) (ok_spec_DirectionAt _ _) fun r42 _ => ?_
            refine Run.q (e := vIv) (gv := vIv) (ok_spec_HullI _ _) fun r43 _ => ?_
            refine Run.q (e := vIv) (gv := vIv) (ok_spec_HullI _ _) fun r44 _ => ?_
            exact Run.x 0
        · refine Run.z [false, false, false, false, false, false, false, false, false, false, false, false] ?_
          refine Run.q (e := vIv) (gv := vIv) (ok_spec_DirectionAt _ _) fun r45 _ => ?_
          refine Run.q (e := vIv) (gv := vIv) (ok_spec_DirectionAt _ _) fun r46 _ => ?_
          refine Run.q (e := vIv) (gv := vIv) (ok_spec_HullI _ _) fun r47 _ => ?_
          refine Run.q (e := vIv) (gv := vIv) (ok_spec_DirectionAt _ _) fun r48 _ => ?_
          refine Run.q (e := vIv) (gv := vIv) (ok_spec_DirectionAt _ _) fun r49 _ => ?_
          refine Run.q (e := vIv) (gv := vIv) (ok_spec_HullI _ _) fun r50 _ => ?_
          refine Run.q (e := vIv) (gv := vIv) (ok_spec_HullI _ _) fun r51 _ => ?_
          exact Run.x 0

theorem ok_spec_TransverseInverse (a0 : Pj) (a1 : Pn) : Fun Tryz.prog 16 [] #[vPj a0, vPn a1] (vT_Iv_Iv_I (F_spec_TransverseInverse a0 a1)) [] := by
  refine Fun.ofH 400 E_ok mixed Tryz.func16 (by kernel_rfl) (by kernel_rfl) ?_
  unfold F_spec_TransverseInverse
  refine Run.w (e := vB) (gv := vT_Iv_Iv_I) [0] (ok_spec_l21Ok__pPj _) fun r1 _ => ?_
  refine Run.y (gv := vT_Iv_Iv_I) (fun _ => ?_) (fun _ => ?_)
  · exact Run.x 0
  · refine Run.q (e := vIv) (gv := vT_Iv_Iv_I) (ok_spec_RadiansOf _) fun r2 _ => ?_
    refine Run.q (e := vIv) (gv := vT_Iv_Iv_I) (ok_spec_AddI _ _) fun r3 _ => ?_
    refine Run.q (e := vIv) (gv := vT_Iv_Iv_I) (ok_spec_SinI _) fun r4 _ => ?_
    refine Run.q (e := vIv) (gv := vT_Iv_Iv_I) (ok_spec_CoshI _) fun r5 _ => ?_
    refine Run.q (e := vIv) (gv := vT_Iv_Iv_I) (ok_spec_DivI _ _) fun r6 _ => ?_
    refine Run.q (e := vIv) (gv := vT_Iv_Iv_I) (ok_spec_AsinI _) fun r7 _ => ?_
    refine Run.q (e := vB) (gv := vT_Iv_Iv_I) (ok_spec_IsWhole _) fun r8 _ => ?_
    refine Run.y (gv := vT_Iv_Iv_I) (fun _ => ?_) (fun _ => ?_)
    · refine Run.z [true, true, true, true, true, true] ?_
      exact Run.x 0
    · refine Run.z [false] ?_
      refine Run.q (e := vB) (gv := vT_Iv_Iv_I) (ok_spec_IsWhole _) fun r9 _ => ?_
      refine Run.z [false] ?_
      refine Run.y (gv := vT_Iv_Iv_I) (fun _ => ?_) (fun _ => ?_)
      · refine Run.z [true, true, true] ?_
        exact Run.x 0
      · refine Run.z [false] ?_
        refine Run.q (e := vB) (gv := vT_Iv_Iv_I) (ok_spec_IsWhole _) fun r10 _ => ?_
        refine Run.z [false] ?_
        refine Run.y (gv := vT_Iv_Iv_I) (fun _ => ?_) (fun _ => ?_)
        · exact Run.x 0
        · refine Run.q (e := vIv) (gv := vT_Iv_Iv_I) (ok_spec_RadiansOf _) fun r11 _ => ?_
          refine Run.q (e := vIv) (gv := vT_Iv_Iv_I) (ok_spec_SinhI _) fun r12 _ => ?_
          refine Run.q (e := vIv) (gv := vT_Iv_Iv_I) (ok_spec_CosI _) fun r13 _ => ?_
          refine Run.q (e := vIv) (gv := vT_Iv_Iv_I) (ok_spec_DirectionI _ _) fun r14 _ => ?_
          refine Run.q (e := vIv) (gv := vT_Iv_Iv_I) (ok_spec_AddI _ _) fun r15 _ => ?_
          exact Run.x 0

end Go.Proofs.YtgofhiehdpggkaaGreat.Abs
