/- The program's functions are these; part 3 (written by w.py). -/
import Derived.Test.YtebaobmmnkebaaaGreatK2
import Derived.Test.YtebaobmmnkebaaaGreatF3
set_option linter.unusedVariables false
set_option linter.unusedSimpArgs false
namespace Go.Proofs.YtebaobmmnkebaaaGreat.Abs
open Go Go.RowKit

theorem ok_impl_SqrtUp (a0 : I64) : Fun Tryz.prog 230 [] #[vI a0] (vT_I_B (F_impl_SqrtUp a0)) [] := by
  refine Fun.ofH 400 E_ok mixed Tryz.func230 (by kernel_rfl) (by kernel_rfl) ?_
  unfold F_impl_SqrtUp
  refine Run.bH (e := vT_I_B) (gv := vT_I_B) (by kernel_rfl) (by kernel_rfl) (ok_impl_SqrtDown _) (fun _ => rfl) fun r1 => ?_
  refine Run.jH (gv := vT_I_B) (by kernel_rfl) (?_) (?_)
  · refine Run.p [true, true] (by kernel_rfl) ?_
    refine Run.bH (e := vWd) (gv := vT_I_B) (by kernel_rfl) (by kernel_rfl) (ok_impl_WideMul _ _) (fun _ => rfl) fun r2 => ?_
    refine Run.p [true, true] (by kernel_rfl) ?_
    refine Run.bH (e := vWd) (gv := vT_I_B) (by kernel_rfl) (by kernel_rfl) (ok_impl_WideMul _ _) (fun _ => rfl) fun r3 => ?_
    refine Run.p [true, true] (by kernel_rfl) ?_
    refine Run.jH (gv := vT_I_B) (by kernel_rfl) (?_) (?_)
    · refine Run.bH (e := vT_I_B) (gv := vT_I_B) (by kernel_rfl) (by kernel_rfl) (ok_impl_fixed _ _) (fun _ => rfl) fun r4 => ?_
      exact Run.rh (k := 0) (by kernel_rfl) (by kernel_rfl)
    · refine Run.bH (e := vT_I_B) (gv := vT_I_B) (by kernel_rfl) (by kernel_rfl) (ok_impl_fixed _ _) (fun _ => rfl) fun r5 => ?_
      exact Run.rh (k := 0) (by kernel_rfl) (by kernel_rfl)
  · refine Run.p [false, false, false, false, false, false, false] (by kernel_rfl) ?_
    refine Run.bH (e := vT_I_B) (gv := vT_I_B) (by kernel_rfl) (by kernel_rfl) (ok_impl_fixed _ _) (fun _ => rfl) fun r6 => ?_
    exact Run.rh (k := 0) (by kernel_rfl) (by kernel_rfl)

theorem ok_impl_SqrtI (a0 : Iv) : Fun Tryz.prog 184 [] #[vIv a0] (vIv (F_impl_SqrtI a0)) [] := by
  refine Fun.ofH 400 E_ok mixed Tryz.func184 (by kernel_rfl) (by kernel_rfl) ?_
  unfold F_impl_SqrtI
  refine Run.bH (e := vB) (gv := vIv) (by kernel_rfl) (by kernel_rfl) (ok_impl_IsWhole _) (fun _ => rfl) fun r1 => ?_
  refine Run.jH (gv := vIv) (by kernel_rfl) (?_) (?_)
  · refine Run.p [true, true, true, true] (by kernel_rfl) ?_
    refine Run.bH (e := vIv) (gv := vIv) (by kernel_rfl) (by kernel_rfl) (ok_impl_Whole) (fun _ => rfl) fun r2 => ?_
    exact Run.rh (k := 0) (by kernel_rfl) (by kernel_rfl)
  · refine Run.p [false, false, false] (by kernel_rfl) ?_
    refine Run.jH (gv := vIv) (by kernel_rfl) (?_) (?_)
    · refine Run.bH (e := vIv) (gv := vIv) (by kernel_rfl) (by kernel_rfl) (ok_impl_Whole) (fun _ => rfl) fun r3 => ?_
      exact Run.rh (k := 0) (by kernel_rfl) (by kernel_rfl)
    · refine Run.bH (e := vT_I_B) (gv := vIv) (by kernel_rfl) (by kernel_rfl) (ok_impl_SqrtDown _) (fun _ => rfl) fun r4 => ?_
      refine Run.bH (e := vT_I_B) (gv := vIv) (by kernel_rfl) (by kernel_rfl) (ok_impl_SqrtUp _) (fun _ => rfl) fun r5 => ?_
      refine Run.jH (gv := vIv) (by kernel_rfl) (?_) (?_)
      · refine Run.p [true] (by kernel_rfl) ?_
        refine Run.bH (e := vIv) (gv := vIv) (by kernel_rfl) (by kernel_rfl) (ok_impl_bounded _ _ _) (fun _ => rfl) fun r6 => ?_
        exact Run.rh (k := 0) (by kernel_rfl) (by kernel_rfl)
      · refine Run.p [false] (by kernel_rfl) ?_
        refine Run.bH (e := vIv) (gv := vIv) (by kernel_rfl) (by kernel_rfl) (ok_impl_bounded _ _ _) (fun _ => rfl) fun r7 => ?_
        exact Run.rh (k := 0) (by kernel_rfl) (by kernel_rfl)

theorem ok_impl_AsinhI_1 (a0 : I64) : Fun Tryz.prog 277 [] #[vI a0] (vIv (F_impl_AsinhI_1 a0)) [] := by
  refine Fun.ofH 400 E_ok mixed Tryz.func277 (by kernel_rfl) (by kernel_rfl) ?_
  unfold F_impl_AsinhI_1
  refine Run.jH (gv := vIv) (by kernel_rfl) (?_) (?_)
  · refine Run.bH (e := vIv) (gv := vIv) (by kernel_rfl) (by kernel_rfl) (ok_impl_at _) (fun _ => rfl) fun r1 => ?_
    refine Run.bH (e := vIv) (gv := vIv) (by kernel_rfl) (by kernel_rfl) (ok_impl_at _) (fun _ => rfl) fun r2 => ?_
    refine Run.bH (e := vIv) (gv := vIv) (by kernel_rfl) (by kernel_rfl) (ok_impl_SqrI _) (fun _ => rfl) fun r3 => ?_
    refine Run.bH (e := vIv) (gv := vIv) (by kernel_rfl) (by kernel_rfl) (ok_impl_Integer _) (fun _ => rfl) fun r4 => ?_
    refine Run.bH (e := vIv) (gv := vIv) (by kernel_rfl) (by kernel_rfl) (ok_impl_AddI _ _) (fun _ => rfl) fun r5 => ?_
    refine Run.bH (e := vIv) (gv := vIv) (by kernel_rfl) (by kernel_rfl) (ok_impl_SqrtI _) (fun _ => rfl) fun r6 => ?_
    refine Run.bH (e := vIv) (gv := vIv) (by kernel_rfl) (by kernel_rfl) (ok_impl_AddI _ _) (fun _ => rfl) fun r7 => ?_
    refine Run.bH (e := vIv) (gv := vIv) (by kernel_rfl) (by kernel_rfl) (ok_impl_LogI _) (fun _ => rfl) fun r8 => ?_
    exact Run.rh (k := 0) (by kernel_rfl) (by kernel_rfl)
  · refine Run.bH (e := vIv) (gv := vIv) (by kernel_rfl) (by kernel_rfl) (ok_impl_LogTwoI _) (fun _ => rfl) fun r9 => ?_
    refine Run.bH (e := vIv) (gv := vIv) (by kernel_rfl) (by kernel_rfl) (ok_impl_LogAt _) (fun _ => rfl) fun r10 => ?_
    refine Run.bH (e := vIv) (gv := vIv) (by kernel_rfl) (by kernel_rfl) (ok_impl_AddI _ _) (fun _ => rfl) fun r11 => ?_
    refine Run.bH (e := vIv) (gv := vIv) (by kernel_rfl) (by kernel_rfl) (ok_impl_AddI _ _) (fun _ => rfl) fun r12 => ?_
    exact Run.rh (k := 0) (by kernel_rfl) (by kernel_rfl)

theorem ok_impl_odd_1__p_impl_AsinhI_1 (a0 : I64) : Fun Tryz.prog 288 [(#[.func (.func 277) #[] #[]], 64)] #[vI a0, .pointer (some ⟨0, 0, none⟩)] (vIv (F_impl_odd_1__p_impl_AsinhI_1 a0)) [(#[.func (.func 277) #[] #[]], 64)] := by
  refine Fun.ofH 400 E_ok mixed Tryz.func288 (by kernel_rfl) (by kernel_rfl) ?_
  unfold F_impl_odd_1__p_impl_AsinhI_1
  refine Run.jH (gv := vIv) (by kernel_rfl) (?_) (?_)
  · refine Run.bH (e := vIv) (gv := vIv) (by kernel_rfl) (by kernel_rfl) (ok_impl_AsinhI_1 _) (fun _ => rfl) fun r1 => ?_
    refine Run.bH (e := vIv) (gv := vIv) (by kernel_rfl) (by kernel_rfl) (ok_impl_NegI _) (fun _ => rfl) fun r2 => ?_
    exact Run.rh (k := 1) (by kernel_rfl) (by kernel_rfl)
  · refine Run.bH (e := vIv) (gv := vIv) (by kernel_rfl) (by kernel_rfl) (ok_impl_AsinhI_1 _) (fun _ => rfl) fun r3 => ?_
    exact Run.rh (k := 1) (by kernel_rfl) (by kernel_rfl)

theorem ok_impl_monotonic__impl_odd_1_p_impl_AsinhI_1 (a0 : Iv) : Fun Tryz.prog 248 [(#[.func (.func 277) #[] #[]], 64)] #[vIv a0, .func (.func 288) #[] #[.pointer (some ⟨0, 0, none⟩)]] (vIv (F_impl_monotonic__impl_odd_1_p_impl_AsinhI_1 a0)) [(#[.func (.func 277) #[] #[]], 64)] := by
  refine Fun.ofH 400 E_ok mixed Tryz.func248 (by kernel_rfl) (by kernel_rfl) ?_
  unfold F_impl_monotonic__impl_odd_1_p_impl_AsinhI_1
  refine Run.bH (e := vB) (gv := vIv) (by kernel_rfl) (by kernel_rfl) (ok_impl_IsWhole _) (fun _ => rfl) fun r1 => ?_
  refine Run.jH (gv := vIv) (by kernel_rfl) (?_) (?_)
  · refine Run.bH (e := vIv) (gv := vIv) (by kernel_rfl) (by kernel_rfl) (ok_impl_Whole) (fun _ => rfl) fun r2 => ?_
    exact Run.rh (k := 1) (by kernel_rfl) (by kernel_rfl)
  · refine Run.sb (e := vIv) (gv := vIv) [0] (by kernel_rfl) (by kernel_rfl) (by kernel_rfl) (by decide) (by kernel_rfl) (ok_impl_odd_1__p_impl_AsinhI_1 _) (fun _ => rfl) fun r3 => ?_
    refine Run.sb (e := vIv) (gv := vIv) [0] (by kernel_rfl) (by kernel_rfl) (by kernel_rfl) (by decide) (by kernel_rfl) (ok_impl_odd_1__p_impl_AsinhI_1 _) (fun _ => rfl) fun r4 => ?_
    refine Run.bH (e := vB) (gv := vIv) (by kernel_rfl) (by kernel_rfl) (ok_impl_areBounded _ _) (fun _ => rfl) fun r5 => ?_
    refine Run.jH (gv := vIv) (by kernel_rfl) (?_) (?_)
    · refine Run.bH (e := vIv) (gv := vIv) (by kernel_rfl) (by kernel_rfl) (ok_impl_Whole) (fun _ => rfl) fun r6 => ?_
      exact Run.rh (k := 1) (by kernel_rfl) (by kernel_rfl)
    · refine Run.bH (e := vIv) (gv := vIv) (by kernel_rfl) (by kernel_rfl) (ok_impl_bounded _ _ _) (fun _ => rfl) fun r7 => ?_
      exact Run.rh (k := 1) (by kernel_rfl) (by kernel_rfl)

theorem ok_impl_AsinhI (a0 : Iv) : Fun Tryz.prog 250 [] #[vIv a0] (vIv (F_impl_AsinhI a0)) [] := by
  refine Fun.ofH 400 E_ok mixed Tryz.func250 (by kernel_rfl) (by kernel_rfl) ?_
  unfold F_impl_AsinhI
  refine Run.o (by kernel_rfl) ?_ ?_
  · refine Run.m (by kernel_rfl) (by kernel_rfl) (ok_impl_odd 277) (by kernel_rfl) (by kernel_rfl) (by kernel_rfl) ?_
    refine Run.sk (e := vIv) (gv := vIv) [2] (by kernel_rfl) (by kernel_rfl) (by kernel_rfl) (by decide) (by kernel_rfl) (ok_impl_monotonic__impl_odd_1_p_impl_AsinhI_1 _) (fun _ => rfl) fun r1 hr1 => ?_
    exact Run.rh (k := 0) (by kernel_rfl) (by kernel_rfl)
  · refine Run.m (by kernel_rfl) (by kernel_rfl) (ok_impl_odd 277) (by kernel_rfl) (by kernel_rfl) (by kernel_rfl) ?_
    refine Run.sk (e := vIv) (gv := vIv) [2] (by kernel_rfl) (by kernel_rfl) (by kernel_rfl) (by decide) (by kernel_rfl) (ok_impl_monotonic__impl_odd_1_p_impl_AsinhI_1 _) (fun _ => rfl) fun r2 hr2 => ?_
    exact Run.rh (k := 0) (by kernel_rfl) (by kernel_rfl)

theorem ok_impl_isometricSphere (a0 : Iv) : Fun Tryz.prog 198 [] #[vIv a0] (vIv (F_impl_isometricSphere a0)) [] := by
  refine Fun.ofH 400 E_ok mixed Tryz.func198 (by kernel_rfl) (by kernel_rfl) ?_
  unfold F_impl_isometricSphere
  refine Run.bH (e := vIv) (gv := vIv) (by kernel_rfl) (by kernel_rfl) (ok_impl_TanI _) (fun _ => rfl) fun r1 => ?_
  refine Run.bH (e := vIv) (gv := vIv) (by kernel_rfl) (by kernel_rfl) (ok_impl_AsinhI _) (fun _ => rfl) fun r2 => ?_
  exact Run.rh (k := 0) (by kernel_rfl) (by kernel_rfl)

theorem ok_impl_conic_cone__pCn (b0 : Cn) : Fun Tryz.prog 142 [(#[.int .i64 b0.p.kind.val, .int .i64 b0.p.lat0.val, .int .i64 b0.p.lon0.val, .int .i64 b0.p.lat1.val, .int .i64 b0.p.lat2.val, .int .i64 b0.a.lo.val, .int .i64 b0.a.hi.val, .int .i64 b0.b.lo.val, .int .i64 b0.b.hi.val, .int .i64 b0.o.lo.val, .int .i64 b0.o.hi.val, .int .i64 b0.n.lo.val, .int .i64 b0.n.hi.val, .int .i64 b0.g.lo.val, .int .i64 b0.g.hi.val], 84)] #[.pointer (some ⟨0, 0, none⟩)] (vIv (F_impl_conic_cone__pCn b0)) [(#[.int .i64 b0.p.kind.val, .int .i64 b0.p.lat0.val, .int .i64 b0.p.lon0.val, .int .i64 b0.p.lat1.val, .int .i64 b0.p.lat2.val, .int .i64 b0.a.lo.val, .int .i64 b0.a.hi.val, .int .i64 b0.b.lo.val, .int .i64 b0.b.hi.val, .int .i64 b0.o.lo.val, .int .i64 b0.o.hi.val, .int .i64 b0.n.lo.val, .int .i64 b0.n.hi.val, .int .i64 b0.g.lo.val, .int .i64 b0.g.hi.val], 84)] := by
  refine Fun.ofH 400 E_ok mixed Tryz.func142 (by kernel_rfl) (by kernel_rfl) ?_
  unfold F_impl_conic_cone__pCn
  refine Run.jH (gv := vIv) (by kernel_rfl) (?_) (?_)
  · refine Run.bH (e := vIv) (gv := vIv) (by kernel_rfl) (by kernel_rfl) (ok_impl_SinI _) (fun _ => rfl) fun r1 => ?_
    refine Run.bH (e := vIv) (gv := vIv) (by kernel_rfl) (by kernel_rfl) (ok_impl_SinI _) (fun _ => rfl) fun r2 => ?_
    refine Run.bH (e := vIv) (gv := vIv) (by kernel_rfl) (by kernel_rfl) (ok_impl_AddI _ _) (fun _ => rfl) fun r3 => ?_
    refine Run.bH (e := vIv) (gv := vIv) (by kernel_rfl) (by kernel_rfl) (ok_impl_HalfI _) (fun _ => rfl) fun r4 => ?_
    exact Run.rh (k := 1) (by kernel_rfl) (by kernel_rfl)
  · refine Run.jH (gv := vIv) (by kernel_rfl) (?_) (?_)
    · refine Run.bH (e := vIv) (gv := vIv) (by kernel_rfl) (by kernel_rfl) (ok_impl_SinI _) (fun _ => rfl) fun r5 => ?_
      exact Run.rh (k := 1) (by kernel_rfl) (by kernel_rfl)
    · refine Run.jH (gv := vIv) (by kernel_rfl) (?_) (?_)
      · refine Run.bH (e := vIv) (gv := vIv) (by kernel_rfl) (by kernel_rfl) (ok_impl_CosI _) (fun _ => rfl) fun r6 => ?_
        refine Run.bH (e := vIv) (gv := vIv) (by kernel_rfl) (by kernel_rfl) (ok_impl_LogI _) (fun _ => rfl) fun r7 => ?_
        refine Run.bH (e := vIv) (gv := vIv) (by kernel_rfl) (by kernel_rfl) (ok_impl_CosI _) (fun _ => rfl) fun r8 => ?_
        refine Run.bH (e := vIv) (gv := vIv) (by kernel_rfl) (by kernel_rfl) (ok_impl_LogI _) (fun _ => rfl) fun r9 => ?_
        refine Run.bH (e := vIv) (gv := vIv) (by kernel_rfl) (by kernel_rfl) (ok_impl_SubI _ _) (fun _ => rfl) fun r10 => ?_
        refine Run.bH (e := vIv) (gv := vIv) (by kernel_rfl) (by kernel_rfl) (ok_impl_isometricSphere _) (fun _ => rfl) fun r11 => ?_
        refine Run.bH (e := vIv) (gv := vIv) (by kernel_rfl) (by kernel_rfl) (ok_impl_isometricSphere _) (fun _ => rfl) fun r12 => ?_
        refine Run.bH (e := vIv) (gv := vIv) (by kernel_rfl) (by kernel_rfl) (ok_impl_SubI _ _) (fun _ => rfl) fun r13 => ?_
        refine Run.bH (e := vIv) (gv := vIv) (by kernel_rfl) (by kernel_rfl) (ok_impl_DivI _ _) (fun _ => rfl) fun r14 => ?_
        exact Run.rh (k := 1) (by kernel_rfl) (by kernel_rfl)
      · refine Run.bH (e := vIv) (gv := vIv) (by kernel_rfl) (by kernel_rfl) (ok_impl_CosI _) (fun _ => rfl) fun r15 => ?_
        refine Run.bH (e := vIv) (gv := vIv) (by kernel_rfl) (by kernel_rfl) (ok_impl_CosI _) (fun _ => rfl) fun r16 => ?_
        refine Run.bH (e := vIv) (gv := vIv) (by kernel_rfl) (by kernel_rfl) (ok_impl_SubI _ _) (fun _ => rfl) fun r17 => ?_
        refine Run.bH (e := vIv) (gv := vIv) (by kernel_rfl) (by kernel_rfl) (ok_impl_SubI _ _) (fun _ => rfl) fun r18 => ?_
        refine Run.bH (e := vIv) (gv := vIv) (by kernel_rfl) (by kernel_rfl) (ok_impl_DivI _ _) (fun _ => rfl) fun r19 => ?_
        exact Run.rh (k := 1) (by kernel_rfl) (by kernel_rfl)

theorem ok_impl_times (a0 : I64) (a1 : Iv) : Fun Tryz.prog 123 [] #[vI a0, vIv a1] (vIv (F_impl_times a0 a1)) [] := by
  refine Fun.ofH 400 E_ok mixed Tryz.func123 (by kernel_rfl) (by kernel_rfl) ?_
  unfold F_impl_times
  refine Run.bH (e := vIv) (gv := vIv) (by kernel_rfl) (by kernel_rfl) (ok_impl_Integer _) (fun _ => rfl) fun r1 => ?_
  refine Run.bH (e := vIv) (gv := vIv) (by kernel_rfl) (by kernel_rfl) (ok_impl_MulI _ _) (fun _ => rfl) fun r2 => ?_
  exact Run.rh (k := 0) (by kernel_rfl) (by kernel_rfl)

theorem ok_impl_DoubleI (a0 : Iv) : Fun Tryz.prog 153 [] #[vIv a0] (vIv (F_impl_DoubleI a0)) [] := by
  refine Fun.ofH 400 E_ok mixed Tryz.func153 (by kernel_rfl) (by kernel_rfl) ?_
  unfold F_impl_DoubleI
  refine Run.bH (e := vIv) (gv := vIv) (by kernel_rfl) (by kernel_rfl) (ok_impl_AddI _ _) (fun _ => rfl) fun r1 => ?_
  exact Run.rh (k := 0) (by kernel_rfl) (by kernel_rfl)

theorem ok_impl_scaled_L0 : ∀ (fu : Nat) (x_k : I64) (y_0 : Iv) (q0 : -100 ≤ x_k.val) (q1 : x_k.val ≤ 100) (hm : x_k.val.toNat < fu) (t : Array Value) (ht : maskA t [0, 3, 5, 6, 7, 8, 9, 10, 11, 12, 13, 14, 15, 16, 17, 18, 19, 20, 21, 22, 23, 24, 25, 26] = #[undef, .int .i64 x_k.val, .pointer (some ⟨0, 0, none⟩), undef, .pointer (some ⟨1, 0, none⟩), undef, undef, undef, undef, undef, undef, undef, undef, undef, undef, undef, undef, undef, undef, undef, undef, undef, undef, undef, undef, undef, undef]), Cfg Tryz.prog 280 (loopAt Tryz.f280 0) t [(#[.int .i64 y_0.lo.val, .int .i64 y_0.hi.val], 27), (#[.int .i64 0, .int .i64 0], 27)] (RvH [] (vIv (F_impl_scaled_L0 fu x_k y_0))) := by
  intro fu
  induction fu with
  | zero => intro x_k y_0 q0 q1 hm; exact absurd hm (Nat.not_lt_zero _)
  | succ fu ih =>
    intro x_k y_0 q0 q1 hm t ht
    refine Cfg.round E_ok mixed Tryz.func280 ht fun g => ?_
    unfold F_impl_scaled_L0
    refine Run.jk (gv := vIv) (by kernel_rfl) (fun h1 => ?_) (fun h1 => ?_)
    · refine Run.bk (e := vIv) (gv := vIv) (by kernel_rfl) (by kernel_rfl) (ok_impl_DoubleI _) (fun _ => rfl) fun r2 hr2 => ?_
      exact Run.l (by kernel_rfl) (by kernel_rfl) (by kernel_rfl) (by kernel_rfl) (ih (w64 (x_k.val - 1)) r2 (by first | omega | (simp only [w64_val, wu64_val, c64_val, cu64_val, decide_eq_true_eq, decide_eq_false_iff_not, cond_true, cond_false] at *; omega)) (by first | omega | (simp only [w64_val, wu64_val, c64_val, cu64_val, decide_eq_true_eq, decide_eq_false_iff_not, cond_true, cond_false] at *; omega)) (by first | omega | (simp only [w64_val, wu64_val, c64_val, cu64_val, decide_eq_true_eq, decide_eq_false_iff_not, cond_true, cond_false] at *; omega)))
    · refine Run.bk (e := vB) (gv := vIv) (by kernel_rfl) (by kernel_rfl) (ok_impl_IsWhole _) (fun _ => rfl) fun r3 hr3 => ?_
      refine Run.jk (gv := vIv) (by kernel_rfl) (fun h4 => ?_) (fun h4 => ?_)
      · refine Run.bk (e := vIv) (gv := vIv) (by kernel_rfl) (by kernel_rfl) (ok_impl_Whole) (fun _ => rfl) fun r5 hr5 => ?_
        exact Run.rh (k := 0) (by kernel_rfl) (by kernel_rfl)
      · refine Run.k (c := (decide (0 ≤ (w64 (0 - x_k.val)).val))) (by kernel_rfl) (by simp only [w64_val, wu64_val, c64_val, cu64_val, decide_eq_true_eq, decide_eq_false_iff_not, cond_true, cond_false] at *; omega) ?_
        refine Run.k (c := (decide (0 ≤ (w64 (0 - x_k.val)).val))) (by kernel_rfl) (by simp only [w64_val, wu64_val, c64_val, cu64_val, decide_eq_true_eq, decide_eq_false_iff_not, cond_true, cond_false] at *; omega) ?_
        exact Run.rh (k := 0) (by kernel_rfl) (by kernel_rfl)

theorem ok_impl_scaled (a0 : Iv) (a1 : I64) (p0 : -100 ≤ a1.val) (p1 : a1.val ≤ 100) : Fun Tryz.prog 280 [] #[vIv a0, vI a1] (vIv (F_impl_scaled a0 a1)) [] := by
  refine Fun.ofH 400 E_ok mixed Tryz.func280 (by kernel_rfl) (by kernel_rfl) ?_
  unfold F_impl_scaled
  exact Run.l (by kernel_rfl) (by kernel_rfl) (by kernel_rfl) (by kernel_rfl) (ok_impl_scaled_L0 (a1.val.toNat + 1) a1 a0 (by first | omega | (simp only [w64_val, wu64_val, c64_val, cu64_val, decide_eq_true_eq, decide_eq_false_iff_not, cond_true, cond_false] at *; omega)) (by first | omega | (simp only [w64_val, wu64_val, c64_val, cu64_val, decide_eq_true_eq, decide_eq_false_iff_not, cond_true, cond_false] at *; omega)) (by first | omega | (simp only [w64_val, wu64_val, c64_val, cu64_val, decide_eq_true_eq, decide_eq_false_iff_not, cond_true, cond_false] at *; omega)))

theorem ok_impl_ExpAt (a0 : I64) : Fun Tryz.prog 252 [] #[vI a0] (vIv (F_impl_ExpAt a0)) [] := by
  refine Fun.ofH 400 E_ok mixed Tryz.func252 (by kernel_rfl) (by kernel_rfl) ?_
  unfold F_impl_ExpAt
  refine Run.bk (e := vB) (gv := vIv) (by kernel_rfl) (by kernel_rfl) (ok_impl_ValidFix _) (fun _ => rfl) fun r1 hr1 => ?_
  refine Run.jk (gv := vIv) (by kernel_rfl) (fun h2 => ?_) (fun h2 => ?_)
  · refine Run.p [true, true, true] (by kernel_rfl) ?_
    refine Run.bk (e := vIv) (gv := vIv) (by kernel_rfl) (by kernel_rfl) (ok_impl_Whole) (fun _ => rfl) fun r3 hr3 => ?_
    exact Run.rh (k := 0) (by kernel_rfl) (by kernel_rfl)
  · refine Run.p [false, false] (by kernel_rfl) ?_
    refine Run.jk (gv := vIv) (by kernel_rfl) (fun h4 => ?_) (fun h4 => ?_)
    · refine Run.bk (e := vIv) (gv := vIv) (by kernel_rfl) (by kernel_rfl) (ok_impl_Whole) (fun _ => rfl) fun r5 hr5 => ?_
      exact Run.rh (k := 0) (by kernel_rfl) (by kernel_rfl)
    · refine Run.jk (gv := vIv) (by kernel_rfl) (fun h6 => ?_) (fun h6 => ?_)
      · exact Run.rh (k := 0) (by kernel_rfl) (by kernel_rfl)
      · refine Run.p [true] (by kernel_rfl) ?_
        refine Run.jk (gv := vIv) (by kernel_rfl) (fun h7 => ?_) (fun h7 => ?_)
        · refine Run.bk (e := vIv) (gv := vIv) (by kernel_rfl) (by kernel_rfl) (ok_impl_at _) (fun _ => rfl) fun r8 hr8 => ?_
          refine Run.bk (e := vIv) (gv := vIv) (by kernel_rfl) (by kernel_rfl) (ok_impl_LogTwoI _) (fun _ => rfl) fun r9 hr9 => ?_
          refine Run.bk (e := vIv) (gv := vIv) (by kernel_rfl) (by kernel_rfl) (ok_impl_SubI _ _) (fun _ => rfl) fun r10 hr10 => ?_
          refine Run.bk (e := vIv) (gv := vIv) (by kernel_rfl) (by kernel_rfl) (ok_impl_Integer _) (fun _ => rfl) fun r11 hr11 => ?_
          refine Run.u 400 E_ok mixed Tryz.func252 ?_
          refine Run.p [true] (by kernel_rfl) ?_
          refine Run.bk (e := vIv) (gv := vIv) (by kernel_rfl) (by kernel_rfl) (ok_impl_Integer _) (fun _ => rfl) fun r12 hr12 => ?_
          refine Run.bk (e := vIv) (gv := vIv) (by kernel_rfl) (by kernel_rfl) (ok_impl_MulI _ _) (fun _ => rfl) fun r13 hr13 => ?_
          refine Run.bk (e := vIv) (gv := vIv) (by kernel_rfl) (by kernel_rfl) (ok_impl_Integer _) (fun _ => rfl) fun r14 hr14 => ?_
          refine Run.bk (e := vIv) (gv := vIv) (by kernel_rfl) (by kernel_rfl) (ok_impl_DivI _ _) (fun _ => rfl) fun r15 hr15 => ?_
          refine Run.bk (e := vIv) (gv := vIv) (by kernel_rfl) (by kernel_rfl) (ok_impl_AddI _ _) (fun _ => rfl) fun r16 hr16 => ?_
          refine Run.u 400 E_ok mixed Tryz.func252 ?_
          refine Run.p [true] (by kernel_rfl) ?_
          refine Run.bk (e := vIv) (gv := vIv) (by kernel_rfl) (by kernel_rfl) (ok_impl_Integer _) (fun _ => rfl) fun r17 hr17 => ?_
          refine Run.bk (e := vIv) (gv := vIv) (by kernel_rfl) (by kernel_rfl) (ok_impl_MulI _ _) (fun _ => rfl) fun r18 hr18 => ?_
          refine Run.bk (e := vIv) (gv := vIv) (by kernel_rfl) (by kernel_rfl) (ok_impl_Integer _) (fun _ => rfl) fun r19 hr19 => ?_
          refine Run.bk (e := vIv) (gv := vIv) (by kernel_rfl) (by kernel_rfl) (ok_impl_DivI _ _) (fun _ => rfl) fun r20 hr20 => ?_
          refine Run.bk (e := vIv) (gv := vIv) (by kernel_rfl) (by kernel_rfl) (ok_impl_AddI _ _) (fun _ => rfl) fun r21 hr21 => ?_
          refine Run.u 400 E_ok mixed Tryz.func252 ?_
          refine Run.p [true] (by kernel_rfl) ?_
          refine Run.bk (e := vIv) (gv := vIv) (by kernel_rfl) (by kernel_rfl) (ok_impl_Integer _) (fun _ => rfl) fun r22 hr22 => ?_
          refine Run.bk (e := vIv) (gv := vIv) (by kernel_rfl) (by kernel_rfl) (ok_impl_MulI _ _) (fun _ => rfl) fun r23 hr23 => ?_
          refine Run.bk (e := vIv) (gv := vIv) (by kernel_rfl) (by kernel_rfl) (ok_impl_Integer _) (fun _ => rfl) fun r24 hr24 => ?_
          refine Run.bk (e := vIv) (gv := vIv) (by kernel_rfl) (by kernel_rfl) (ok_impl_DivI _ _) (fun _ => rfl) fun r25 hr25 => ?_
          refine Run.bk (e := vIv) (gv := vIv) (by kernel_rfl) (by kernel_rfl) (ok_impl_AddI _ _) (fun _ => rfl) fun r26 hr26 => ?_
          refine Run.u 400 E_ok mixed Tryz.func252 ?_
          refine Run.p [true] (by kernel_rfl) ?_
          refine Run.bk (e := vIv) (gv := vIv) (by kernel_rfl) (by kernel_rfl) (ok_impl_Integer _) (fun _ => rfl) fun r27 hr27 => ?_
          refine Run.bk (e := vIv) (gv := vIv) (by kernel_rfl) (by kernel_rfl) (ok_impl_MulI _ _) (fun _ => rfl) fun r28 hr28 => ?_
          refine Run.bk (e := vIv) (gv := vIv) (by kernel_rfl) (by kernel_rfl) (ok_impl_Integer _) (fun _ => rfl) fun r29 hr29 => ?_
          refine Run.bk (e := vIv) (gv := vIv) (by kernel_rfl) (by kernel_rfl) (ok_impl_DivI _ _) (fun _ => rfl) fun r30 hr30 => ?_
          refine Run.bk (e := vIv) (gv := vIv) (by kernel_rfl) (by kernel_rfl) (ok_impl_AddI _ _) (fun _ => rfl) fun r31 hr31 => ?_
          refine Run.u 400 E_ok mixed Tryz.func252 ?_
          refine Run.p [true] (by kernel_rfl) ?_
          refine Run.bk (e := vIv) (gv := vIv) (by kernel_rfl) (by kernel_rfl) (ok_impl_Integer _) (fun _ => rfl) fun r32 hr32 => ?_
          refine Run.bk (e := vIv) (gv := vIv) (by kernel_rfl) (by kernel_rfl) (ok_impl_MulI _ _) (fun _ => rfl) fun r33 hr33 => ?_
          refine Run.bk (e := vIv) (gv := vIv) (by kernel_rfl) (by kernel_rfl) (ok_impl_Integer _) (fun _ => rfl) fun r34 hr34 => ?_
          refine Run.bk (e := vIv) (gv := vIv) (by kernel_rfl) (by kernel_rfl) (ok_impl_DivI _ _) (fun _ => rfl) fun r35 hr35 => ?_
          refine Run.bk (e := vIv) (gv := vIv) (by kernel_rfl) (by kernel_rfl) (ok_impl_AddI _ _) (fun _ => rfl) fun r36 hr36 => ?_
          refine Run.u 400 E_ok mixed Tryz.func252 ?_
          refine Run.p [true] (by kernel_rfl) ?_
          refine Run.bk (e := vIv) (gv := vIv) (by kernel_rfl) (by kernel_rfl) (ok_impl_Integer _) (fun _ => rfl) fun r37 hr37 => ?_
          refine Run.bk (e := vIv) (gv := vIv) (by kernel_rfl) (by kernel_rfl) (ok_impl_MulI _ _) (fun _ => rfl) fun r38 hr38 => ?_
          refine Run.bk (e := vIv) (gv := vIv) (by kernel_rfl) (by kernel_rfl) (ok_impl_Integer _) (fun _ => rfl) fun r39 hr39 => ?_
          refine Run.bk (e := vIv) (gv := vIv) (by kernel_rfl) (by kernel_rfl) (ok_impl_DivI _ _) (fun _ => rfl) fun r40 hr40 => ?_
          refine Run.bk (e := vIv) (gv := vIv) (by kernel_rfl) (by kernel_rfl) (ok_impl_AddI _ _) (fun _ => rfl) fun r41 hr41 => ?_
          refine Run.u 400 E_ok mixed Tryz.func252 ?_
          refine Run.p [true] (by kernel_rfl) ?_
          refine Run.bk (e := vIv) (gv := vIv) (by kernel_rfl) (by kernel_rfl) (ok_impl_Integer _) (fun _ => rfl) fun r42 hr42 => ?_
          refine Run.bk (e := vIv) (gv := vIv) (by kernel_rfl) (by kernel_rfl) (ok_impl_MulI _ _) (fun _ => rfl) fun r43 hr43 => ?_
          refine Run.bk (e := vIv) (gv := vIv) (by kernel_rfl) (by kernel_rfl) (ok_impl_Integer _) (fun _ => rfl) fun r44 hr44 => ?_
          refine Run.bk (e := vIv) (gv := vIv) (by kernel_rfl) (by kernel_rfl) (ok_impl_DivI _ _) (fun _ => rfl) fun r45 hr45 => ?_
          refine Run.bk (e := vIv) (gv := vIv) (by kernel_rfl) (by kernel_rfl) (ok_impl_AddI _ _) (fun _ => rfl) fun r46 hr46 => ?_
          refine Run.u 400 E_ok mixed Tryz.func252 ?_
          refine Run.p [true] (by kernel_rfl) ?_
          refine Run.bk (e := vIv) (gv := vIv) (by kernel_rfl) (by kernel_rfl) (ok_impl_Integer _) (fun _ => rfl) fun r47 hr47 => ?_
          refine Run.bk (e := vIv) (gv := vIv) (by kernel_rfl) (by kernel_rfl) (ok_impl_MulI _ _) (fun _ => rfl) fun r48 hr48 => ?_
          refine Run.bk (e := vIv) (gv := vIv) (by kernel_rfl) (by kernel_rfl) (ok_impl_Integer _) (fun _ => rfl) fun r49 hr49 => ?_
          refine Run.bk (e := vIv) (gv := vIv) (by kernel_rfl) (by kernel_rfl) (ok_impl_DivI _ _) (fun _ => rfl) fun r50 hr50 => ?_
          refine Run.bk (e := vIv) (gv := vIv) (by kernel_rfl) (by kernel_rfl) (ok_impl_AddI _ _) (fun _ => rfl) fun r51 hr51 => ?_
          refine Run.u 400 E_ok mixed Tryz.func252 ?_
          refine Run.p [true] (by kernel_rfl) ?_
          refine Run.bk (e := vIv) (gv := vIv) (by kernel_rfl) (by kernel_rfl) (ok_impl_Integer _) (fun _ => rfl) fun r52 hr52 => ?_
          refine Run.bk (e := vIv) (gv := vIv) (by kernel_rfl) (by kernel_rfl) (ok_impl_MulI _ _) (fun _ => rfl) fun r53 hr53 => ?_
          refine Run.bk (e := vIv) (gv := vIv) (by kernel_rfl) (by kernel_rfl) (ok_impl_Integer _) (fun _ => rfl) fun r54 hr54 => ?_
          refine Run.bk (e := vIv) (gv := vIv) (by kernel_rfl) (by kernel_rfl) (ok_impl_DivI _ _) (fun _ => rfl) fun r55 hr55 => ?_
          refine Run.bk (e := vIv) (gv := vIv) (by kernel_rfl) (by kernel_rfl) (ok_impl_AddI _ _) (fun _ => rfl) fun r56 hr56 => ?_
          refine Run.u 400 E_ok mixed Tryz.func252 ?_
          refine Run.p [false] (by kernel_rfl) ?_
          refine Run.bk (e := vIv) (gv := vIv) (by kernel_rfl) (by kernel_rfl) (ok_impl_widened _ _) (fun _ => rfl) fun r57 hr57 => ?_
          refine Run.bk (e := vIv) (gv := vIv) (by kernel_rfl) (by kernel_rfl) (ok_impl_scaled _ _ (by have z := expk_range a0 h6 h4; first | exact z.1 | exact z.2.1 | exact z.2.2.1 | exact z.2.2.2) (by have z := expk_range a0 h6 h4; first | exact z.1 | exact z.2.1 | exact z.2.2.1 | exact z.2.2.2)) (fun _ => rfl) fun r58 hr58 => ?_
          exact Run.rh (k := 0) (by kernel_rfl) (by kernel_rfl)
        · refine Run.bk (e := vIv) (gv := vIv) (by kernel_rfl) (by kernel_rfl) (ok_impl_at _) (fun _ => rfl) fun r59 hr59 => ?_
          refine Run.bk (e := vIv) (gv := vIv) (by kernel_rfl) (by kernel_rfl) (ok_impl_LogTwoI _) (fun _ => rfl) fun r60 hr60 => ?_
          refine Run.bk (e := vIv) (gv := vIv) (by kernel_rfl) (by kernel_rfl) (ok_impl_SubI _ _) (fun _ => rfl) fun r61 hr61 => ?_
          refine Run.bk (e := vIv) (gv := vIv) (by kernel_rfl) (by kernel_rfl) (ok_impl_Integer _) (fun _ => rfl) fun r62 hr62 => ?_
          refine Run.u 400 E_ok mixed Tryz.func252 ?_
          refine Run.p [true] (by kernel_rfl) ?_
          refine Run.bk (e := vIv) (gv := vIv) (by kernel_rfl) (by kernel_rfl) (ok_impl_Integer _) (fun _ => rfl) fun r63 hr63 => ?_
          refine Run.bk (e := vIv) (gv := vIv) (by kernel_rfl) (by kernel_rfl) (ok_impl_MulI _ _) (fun _ => rfl) fun r64 hr64 => ?_
          refine Run.bk (e := vIv) (gv := vIv) (by kernel_rfl) (by kernel_rfl) (ok_impl_Integer _) (fun _ => rfl) fun r65 hr65 => ?_
          refine Run.bk (e := vIv) (gv := vIv) (by kernel_rfl) (by kernel_rfl) (ok_impl_DivI _ _) (fun _ => rfl) fun r66 hr66 => ?_
          refine Run.bk (e := vIv) (gv := vIv) (by kernel_rfl) (by kernel_rfl) (ok_impl_AddI _ _) (fun _ => rfl) fun r67 hr67 => ?_
          refine Run.u 400 E_ok mixed Tryz.func252 ?_
          refine Run.p [true] (by kernel_rfl) ?_
          refine Run.bk (e := vIv) (gv := vIv) (by kernel_rfl) (by kernel_rfl) (ok_impl_Integer _) (fun _ => rfl) fun r68 hr68 => ?_
          refine Run.bk (e := vIv) (gv := vIv) (by kernel_rfl) (by kernel_rfl) (ok_impl_MulI _ _) (fun _ => rfl) fun r69 hr69 => ?_
          refine Run.bk (e := vIv) (gv := vIv) (by kernel_rfl) (by kernel_rfl) (ok_impl_Integer _) (fun _ => rfl) fun r70 hr70 => ?_
          refine Run.bk (e := vIv) (gv := vIv) (by kernel_rfl) (by kernel_rfl) (ok_impl_DivI _ _) (fun _ => rfl) fun r71 hr71 => ?_
          refine Run.bk (e := vIv) (gv := vIv) (by kernel_rfl) (by kernel_rfl) (ok_impl_AddI _ _) (fun _ => rfl) fun r72 hr72 => ?_
          refine Run.u 400 E_ok mixed Tryz.func252 ?_
          refine Run.p [true] (by kernel_rfl) ?_
          refine Run.bk (e := vIv) (gv := vIv) (by kernel_rfl) (by kernel_rfl) (ok_impl_Integer _) (fun _ => rfl) fun r73 hr73 => ?_
          refine Run.bk (e := vIv) (gv := vIv) (by kernel_rfl) (by kernel_rfl) (ok_impl_MulI _ _) (fun _ => rfl) fun r74 hr74 => ?_
          refine Run.bk (e := vIv) (gv := vIv) (by kernel_rfl) (by kernel_rfl) (ok_impl_Integer _) (fun _ => rfl) fun r75 hr75 => ?_
          refine Run.bk (e := vIv) (gv := vIv) (by kernel_rfl) (by kernel_rfl) (ok_impl_DivI _ _) (fun _ => rfl) fun r76 hr76 => ?_
          refine Run.bk (e := vIv) (gv := vIv) (by kernel_rfl) (by kernel_rfl) (ok_impl_AddI _ _) (fun _ => rfl) fun r77 hr77 => ?_
          refine Run.u 400 E_ok mixed Tryz.func252 ?_
          refine Run.p [true] (by kernel_rfl) ?_
          refine Run.bk (e := vIv) (gv := vIv) (by kernel_rfl) (by kernel_rfl) (ok_impl_Integer _) (fun _ => rfl) fun r78 hr78 => ?_
          refine Run.bk (e := vIv) (gv := vIv) (by kernel_rfl) (by kernel_rfl) (ok_impl_MulI _ _) (fun _ => rfl) fun r79 hr79 => ?_
          refine Run.bk (e := vIv) (gv := vIv) (by kernel_rfl) (by kernel_rfl) (ok_impl_Integer _) (fun _ => rfl) fun r80 hr80 => ?_
          refine Run.bk (e := vIv) (gv := vIv) (by kernel_rfl) (by kernel_rfl) (ok_impl_DivI _ _) (fun _ => rfl) fun r81 hr81 => ?_
          refine Run.bk (e := vIv) (gv := vIv) (by kernel_rfl) (by kernel_rfl) (ok_impl_AddI _ _) (fun _ => rfl) fun r82 hr82 => ?_
          refine Run.u 400 E_ok mixed Tryz.func252 ?_
          refine Run.p [true] (by kernel_rfl) ?_
          refine Run.bk (e := vIv) (gv := vIv) (by kernel_rfl) (by kernel_rfl) (ok_impl_Integer _) (fun _ => rfl) fun r83 hr83 => ?_
          refine Run.bk (e := vIv) (gv := vIv) (by kernel_rfl) (by kernel_rfl) (ok_impl_MulI _ _) (fun _ => rfl) fun r84 hr84 => ?_
          refine Run.bk (e := vIv) (gv := vIv) (by kernel_rfl) (by kernel_rfl) (ok_impl_Integer _) (fun _ => rfl) fun r85 hr85 => ?_
          refine Run.bk (e := vIv) (gv := vIv) (by kernel_rfl) (by kernel_rfl) (ok_impl_DivI _ _) (fun _ => rfl) fun r86 hr86 => ?_
          refine Run.bk (e := vIv) (gv := vIv) (by kernel_rfl) (by kernel_rfl) (ok_impl_AddI _ _) (fun _ => rfl) fun r87 hr87 => ?_
          refine Run.u 400 E_ok mixed Tryz.func252 ?_
          refine Run.p [true] (by kernel_rfl) ?_
          refine Run.bk (e := vIv) (gv := vIv) (by kernel_rfl) (by kernel_rfl) (ok_impl_Integer _) (fun _ => rfl) fun r88 hr88 => ?_
          refine Run.bk (e := vIv) (gv := vIv) (by kernel_rfl) (by kernel_rfl) (ok_impl_MulI _ _) (fun _ => rfl) fun r89 hr89 => ?_
          refine Run.bk (e := vIv) (gv := vIv) (by kernel_rfl) (by kernel_rfl) (ok_impl_Integer _) (fun _ => rfl) fun r90 hr90 => ?_
          refine Run.bk (e := vIv) (gv := vIv) (by kernel_rfl) (by kernel_rfl) (ok_impl_DivI _ _) (fun _ => rfl) fun r91 hr91 => ?_
          refine Run.bk (e := vIv) (gv := vIv) (by kernel_rfl) (by kernel_rfl) (ok_impl_AddI _ _) (fun _ => rfl) fun r92 hr92 => ?_
          refine Run.u 400 E_ok mixed Tryz.func252 ?_
          refine Run.p [true] (by kernel_rfl) ?_
          refine Run.bk (e := vIv) (gv := vIv) (by kernel_rfl) (by kernel_rfl) (ok_impl_Integer _) (fun _ => rfl) fun r93 hr93 => ?_
          refine Run.bk (e := vIv) (gv := vIv) (by kernel_rfl) (by kernel_rfl) (ok_impl_MulI _ _) (fun _ => rfl) fun r94 hr94 => ?_
          refine Run.bk (e := vIv) (gv := vIv) (by kernel_rfl) (by kernel_rfl) (ok_impl_Integer _) (fun _ => rfl) fun r95 hr95 => ?_
          refine Run.bk (e := vIv) (gv := vIv) (by kernel_rfl) (by kernel_rfl) (ok_impl_DivI _ _) (fun _ => rfl) fun r96 hr96 => ?_
          refine Run.bk (e := vIv) (gv := vIv) (by kernel_rfl) (by kernel_rfl) (ok_impl_AddI _ _) (fun _ => rfl) fun r97 hr97 => ?_
          refine Run.u 400 E_ok mixed Tryz.func252 ?_
          refine Run.p [true] (by kernel_rfl) ?_
          refine Run.bk (e := vIv) (gv := vIv) (by kernel_rfl) (by kernel_rfl) (ok_impl_Integer _) (fun _ => rfl) fun r98 hr98 => ?_
          refine Run.bk (e := vIv) (gv := vIv) (by kernel_rfl) (by kernel_rfl) (ok_impl_MulI _ _) (fun _ => rfl) fun r99 hr99 => ?_
          refine Run.bk (e := vIv) (gv := vIv) (by kernel_rfl) (by kernel_rfl) (ok_impl_Integer _) (fun _ => rfl) fun r100 hr100 => ?_
          refine Run.bk (e := vIv) (gv := vIv) (by kernel_rfl) (by kernel_rfl) (ok_impl_DivI _ _) (fun _ => rfl) fun r101 hr101 => ?_
          refine Run.bk (e := vIv) (gv := vIv) (by kernel_rfl) (by kernel_rfl) (ok_impl_AddI _ _) (fun _ => rfl) fun r102 hr102 => ?_
          refine Run.u 400 E_ok mixed Tryz.func252 ?_
          refine Run.p [true] (by kernel_rfl) ?_
          refine Run.bk (e := vIv) (gv := vIv) (by kernel_rfl) (by kernel_rfl) (ok_impl_Integer _) (fun _ => rfl) fun r103 hr103 => ?_
          refine Run.bk (e := vIv) (gv := vIv) (by kernel_rfl) (by kernel_rfl) (ok_impl_MulI _ _) (fun _ => rfl) fun r104 hr104 => ?_
          refine Run.bk (e := vIv) (gv := vIv) (by kernel_rfl) (by kernel_rfl) (ok_impl_Integer _) (fun _ => rfl) fun r105 hr105 => ?_
          refine Run.bk (e := vIv) (gv := vIv) (by kernel_rfl) (by kernel_rfl) (ok_impl_DivI _ _) (fun _ => rfl) fun r106 hr106 => ?_
          refine Run.bk (e := vIv) (gv := vIv) (by kernel_rfl) (by kernel_rfl) (ok_impl_AddI _ _) (fun _ => rfl) fun r107 hr107 => ?_
          refine Run.u 400 E_ok mixed Tryz.func252 ?_
          refine Run.p [false] (by kernel_rfl) ?_
          refine Run.bk (e := vIv) (gv := vIv) (by kernel_rfl) (by kernel_rfl) (ok_impl_widened _ _) (fun _ => rfl) fun r108 hr108 => ?_
          refine Run.bk (e := vIv) (gv := vIv) (by kernel_rfl) (by kernel_rfl) (ok_impl_scaled _ _ (by have z := expk_range a0 h6 h4; first | exact z.1 | exact z.2.1 | exact z.2.2.1 | exact z.2.2.2) (by have z := expk_range a0 h6 h4; first | exact z.1 | exact z.2.1 | exact z.2.2.1 | exact z.2.2.2)) (fun _ => rfl) fun r109 hr109 => ?_
          exact Run.rh (k := 0) (by kernel_rfl) (by kernel_rfl)

theorem ok_impl_monotonic__impl_ExpAt (a0 : Iv) : Fun Tryz.prog 248 [] #[vIv a0, .func (.func 252) #[] #[]] (vIv (F_impl_monotonic__impl_ExpAt a0)) [] := by
  refine Fun.ofH 400 E_ok mixed Tryz.func248 (by kernel_rfl) (by kernel_rfl) ?_
  unfold F_impl_monotonic__impl_ExpAt
  refine Run.bH (e := vB) (gv := vIv) (by kernel_rfl) (by kernel_rfl) (ok_impl_IsWhole _) (fun _ => rfl) fun r1 => ?_
  refine Run.jH (gv := vIv) (by kernel_rfl) (?_) (?_)
  · refine Run.bH (e := vIv) (gv := vIv) (by kernel_rfl) (by kernel_rfl) (ok_impl_Whole) (fun _ => rfl) fun r2 => ?_
    exact Run.rh (k := 0) (by kernel_rfl) (by kernel_rfl)
  · refine Run.bH (e := vIv) (gv := vIv) (by kernel_rfl) (by kernel_rfl) (ok_impl_ExpAt _) (fun _ => rfl) fun r3 => ?_
    refine Run.bH (e := vIv) (gv := vIv) (by kernel_rfl) (by kernel_rfl) (ok_impl_ExpAt _) (fun _ => rfl) fun r4 => ?_
    refine Run.bH (e := vB) (gv := vIv) (by kernel_rfl) (by kernel_rfl) (ok_impl_areBounded _ _) (fun _ => rfl) fun r5 => ?_
    refine Run.jH (gv := vIv) (by kernel_rfl) (?_) (?_)
    · refine Run.bH (e := vIv) (gv := vIv) (by kernel_rfl) (by kernel_rfl) (ok_impl_Whole) (fun _ => rfl) fun r6 => ?_
      exact Run.rh (k := 0) (by kernel_rfl) (by kernel_rfl)
    · refine Run.bH (e := vIv) (gv := vIv) (by kernel_rfl) (by kernel_rfl) (ok_impl_bounded _ _ _) (fun _ => rfl) fun r7 => ?_
      exact Run.rh (k := 0) (by kernel_rfl) (by kernel_rfl)

theorem ok_impl_ExpI (a0 : Iv) : Fun Tryz.prog 200 [] #[vIv a0] (vIv (F_impl_ExpI a0)) [] := by
  refine Fun.ofH 400 E_ok mixed Tryz.func200 (by kernel_rfl) (by kernel_rfl) ?_
  unfold F_impl_ExpI
  refine Run.bH (e := vIv) (gv := vIv) (by kernel_rfl) (by kernel_rfl) (ok_impl_monotonic__impl_ExpAt _) (fun _ => rfl) fun r1 => ?_
  exact Run.rh (k := 0) (by kernel_rfl) (by kernel_rfl)

theorem ok_impl_conic_constant__pCn (b0 : Cn) : Fun Tryz.prog 143 [(#[.int .i64 b0.p.kind.val, .int .i64 b0.p.lat0.val, .int .i64 b0.p.lon0.val, .int .i64 b0.p.lat1.val, .int .i64 b0.p.lat2.val, .int .i64 b0.a.lo.val, .int .i64 b0.a.hi.val, .int .i64 b0.b.lo.val, .int .i64 b0.b.hi.val, .int .i64 b0.o.lo.val, .int .i64 b0.o.hi.val, .int .i64 b0.n.lo.val, .int .i64 b0.n.hi.val, .int .i64 b0.g.lo.val, .int .i64 b0.g.hi.val], 84)] #[.pointer (some ⟨0, 0, none⟩)] (vIv (F_impl_conic_constant__pCn b0)) [(#[.int .i64 b0.p.kind.val, .int .i64 b0.p.lat0.val, .int .i64 b0.p.lon0.val, .int .i64 b0.p.lat1.val, .int .i64 b0.p.lat2.val, .int .i64 b0.a.lo.val, .int .i64 b0.a.hi.val, .int .i64 b0.b.lo.val, .int .i64 b0.b.hi.val, .int .i64 b0.o.lo.val, .int .i64 b0.o.hi.val, .int .i64 b0.n.lo.val, .int .i64 b0.n.hi.val, .int .i64 b0.g.lo.val, .int .i64 b0.g.hi.val], 84)] := by
  refine Fun.ofH 400 E_ok mixed Tryz.func143 (by kernel_rfl) (by kernel_rfl) ?_
  unfold F_impl_conic_constant__pCn
  refine Run.jH (gv := vIv) (by kernel_rfl) (?_) (?_)
  · refine Run.bH (e := vIv) (gv := vIv) (by kernel_rfl) (by kernel_rfl) (ok_impl_CosI _) (fun _ => rfl) fun r1 => ?_
    refine Run.bH (e := vIv) (gv := vIv) (by kernel_rfl) (by kernel_rfl) (ok_impl_SqrI _) (fun _ => rfl) fun r2 => ?_
    refine Run.bH (e := vIv) (gv := vIv) (by kernel_rfl) (by kernel_rfl) (ok_impl_times _ _) (fun _ => rfl) fun r3 => ?_
    refine Run.bH (e := vIv) (gv := vIv) (by kernel_rfl) (by kernel_rfl) (ok_impl_SinI _) (fun _ => rfl) fun r4 => ?_
    refine Run.bH (e := vIv) (gv := vIv) (by kernel_rfl) (by kernel_rfl) (ok_impl_MulI _ _) (fun _ => rfl) fun r5 => ?_
    refine Run.bH (e := vIv) (gv := vIv) (by kernel_rfl) (by kernel_rfl) (ok_impl_AddI _ _) (fun _ => rfl) fun r6 => ?_
    exact Run.rh (k := 1) (by kernel_rfl) (by kernel_rfl)
  · refine Run.jH (gv := vIv) (by kernel_rfl) (?_) (?_)
    · refine Run.bH (e := vIv) (gv := vIv) (by kernel_rfl) (by kernel_rfl) (ok_impl_CosI _) (fun _ => rfl) fun r7 => ?_
      refine Run.bH (e := vIv) (gv := vIv) (by kernel_rfl) (by kernel_rfl) (ok_impl_isometricSphere _) (fun _ => rfl) fun r8 => ?_
      refine Run.bH (e := vIv) (gv := vIv) (by kernel_rfl) (by kernel_rfl) (ok_impl_MulI _ _) (fun _ => rfl) fun r9 => ?_
      refine Run.bH (e := vIv) (gv := vIv) (by kernel_rfl) (by kernel_rfl) (ok_impl_ExpI _) (fun _ => rfl) fun r10 => ?_
      refine Run.bH (e := vIv) (gv := vIv) (by kernel_rfl) (by kernel_rfl) (ok_impl_MulI _ _) (fun _ => rfl) fun r11 => ?_
      refine Run.bH (e := vIv) (gv := vIv) (by kernel_rfl) (by kernel_rfl) (ok_impl_DivI _ _) (fun _ => rfl) fun r12 => ?_
      exact Run.rh (k := 1) (by kernel_rfl) (by kernel_rfl)
    · refine Run.bH (e := vIv) (gv := vIv) (by kernel_rfl) (by kernel_rfl) (ok_impl_CosI _) (fun _ => rfl) fun r13 => ?_
      refine Run.bH (e := vIv) (gv := vIv) (by kernel_rfl) (by kernel_rfl) (ok_impl_DivI _ _) (fun _ => rfl) fun r14 => ?_
      refine Run.bH (e := vIv) (gv := vIv) (by kernel_rfl) (by kernel_rfl) (ok_impl_AddI _ _) (fun _ => rfl) fun r15 => ?_
      exact Run.rh (k := 1) (by kernel_rfl) (by kernel_rfl)

def R_impl_newConic (r : Cn × I64) : Value → List Blk → Prop := MB 84 (r.2.val != 0) (vCn r.1).cells
theorem ok_impl_newConic (a0 : Pj) : FunR Tryz.prog 73 [] #[vPj a0] (MBx 84 ((F_impl_newConic a0).2.val != 0) (vCn (F_impl_newConic a0).1).cells) := by
  refine FunR.mb (by kernel_rfl) (FunR.of 400 E_ok mixed Tryz.func73 (by kernel_rfl) ?_)
  show Run _ _ (R_impl_newConic (F_impl_newConic a0)) _
  unfold F_impl_newConic
  refine Run.gb (Rg := R_impl_newConic) (e := vB) (by kernel_rfl) (by kernel_rfl) (ok_impl_ValidProjection _) (fun _ => rfl) fun r1 hr1 => ?_
  refine Run.gj (Rg := R_impl_newConic) (by kernel_rfl) (fun h2 => ?_) (fun h2 => ?_)
  · refine Run.p [true, true, true, true, true] (by kernel_rfl) ?_
    exact Run.mbn (by kernel_rfl) (by kernel_rfl)
  · refine Run.p [false, false] (by kernel_rfl) ?_
    refine Run.gb (Rg := R_impl_newConic) (e := vB) (by kernel_rfl) (by kernel_rfl) (ok_impl_isConic _) (fun _ => rfl) fun r3 hr3 => ?_
    refine Run.p [false, false] (by kernel_rfl) ?_
    refine Run.gj (Rg := R_impl_newConic) (by kernel_rfl) (fun h4 => ?_) (fun h4 => ?_)
    · exact Run.mbn (by kernel_rfl) (by kernel_rfl)
    · refine Run.gb (Rg := R_impl_newConic) (e := vIv) (by kernel_rfl) (by kernel_rfl) (ok_impl_RadiansOf _) (fun _ => rfl) fun r5 hr5 => ?_
      refine Run.gb (Rg := R_impl_newConic) (e := vIv) (by kernel_rfl) (by kernel_rfl) (ok_impl_RadiansOf _) (fun _ => rfl) fun r6 hr6 => ?_
      refine Run.gb (Rg := R_impl_newConic) (e := vIv) (by kernel_rfl) (by kernel_rfl) (ok_impl_RadiansOf _) (fun _ => rfl) fun r7 hr7 => ?_
      refine Run.gs (Rg := R_impl_newConic) (e := vIv) [1] (by kernel_rfl) (by kernel_rfl) (by kernel_rfl) (by decide) (by kernel_rfl) (ok_impl_conic_cone__pCn _) (fun _ => rfl) fun r8 hr8 => ?_
      refine Run.gs (Rg := R_impl_newConic) (e := vIv) [1] (by kernel_rfl) (by kernel_rfl) (by kernel_rfl) (by decide) (by kernel_rfl) (ok_impl_conic_constant__pCn _) (fun _ => rfl) fun r9 hr9 => ?_
      exact Run.mbp 1 (by kernel_rfl) (by kernel_rfl) (by kernel_rfl)

theorem ok_impl_knownI (a0 : Iv) : Fun Tryz.prog 37 [] #[vIv a0] (vT_Iv_I (F_impl_knownI a0)) [] := by
  refine Fun.ofH 400 E_ok mixed Tryz.func37 (by kernel_rfl) (by kernel_rfl) ?_
  unfold F_impl_knownI
  refine Run.bH (e := vB) (gv := vT_Iv_I) (by kernel_rfl) (by kernel_rfl) (ok_impl_IsWhole _) (fun _ => rfl) fun r1 => ?_
  refine Run.jH (gv := vT_Iv_I) (by kernel_rfl) (?_) (?_)
  · exact Run.rh (k := 0) (by kernel_rfl) (by kernel_rfl)
  · exact Run.rh (k := 0) (by kernel_rfl) (by kernel_rfl)

theorem ok_impl_ConicCone (a0 : Pj) : Fun Tryz.prog 21 [] #[vPj a0] (vT_Iv_I (F_impl_ConicCone a0)) [] := by
  refine Fun.ofH 400 E_ok mixed Tryz.func21 (by kernel_rfl) (by kernel_rfl) ?_
  unfold F_impl_ConicCone
  refine Run.bmb (nn := fun r : Cn × I64 => (r.2.val != 0)) (cl := fun r : Cn × I64 => (vCn r.1).cells) (gv := vT_Iv_I) (by kernel_rfl) (by kernel_rfl) (ok_impl_newConic _) (by kernel_rfl) (fun _ => rfl) (fun r1 hr1 => ?_) (fun r1 hr1 => ?_)
  · refine Run.p [true] (by kernel_rfl) ?_
    exact Run.rh (k := 0) (by kernel_rfl) (by kernel_rfl)
  · refine Run.p [false] (by kernel_rfl) ?_
    refine Run.bk (e := vT_Iv_I) (gv := vT_Iv_I) (by kernel_rfl) (by kernel_rfl) (ok_impl_knownI _) (fun _ => rfl) fun r2 hr2 => ?_
    exact Run.rh (k := 0) (by kernel_rfl) (by kernel_rfl)

theorem ok_laws_eqInterval (a0 : Iv) (a1 : Iv) : Fun Tryz.prog 13 [] #[vIv a0, vIv a1] (vB (F_laws_eqInterval a0 a1)) [] := by
  refine Fun.ofH 400 E_ok mixed Tryz.func13 (by kernel_rfl) (by kernel_rfl) ?_
  unfold F_laws_eqInterval
  refine Run.jH (gv := vB) (by kernel_rfl) (?_) (?_)
  · exact Run.rh (k := 0) (by kernel_rfl) (by kernel_rfl)
  · refine Run.jH (gv := vB) (by kernel_rfl) (?_) (?_)
    · exact Run.rh (k := 0) (by kernel_rfl) (by kernel_rfl)
    · exact Run.rh (k := 0) (by kernel_rfl) (by kernel_rfl)

theorem ok_laws_FnExactConicCone (a0 : Pj) : Fun Tryz.prog 6 [] #[vPj a0] (vB (F_laws_FnExactConicCone a0)) [] := by
  refine Fun.ofH 400 E_ok mixed Tryz.func6 (by kernel_rfl) (by kernel_rfl) ?_
  unfold F_laws_FnExactConicCone
  refine Run.bH (e := vPj) (gv := vB) (by kernel_rfl) (by kernel_rfl) (ok_laws_toProjection _) (fun _ => rfl) fun r1 => ?_
  refine Run.bH (e := vT_Iv_I) (gv := vB) (by kernel_rfl) (by kernel_rfl) (ok_spec_ConicCone _) (fun _ => rfl) fun r2 => ?_
  refine Run.bH (e := vPj) (gv := vB) (by kernel_rfl) (by kernel_rfl) (ok_laws_toProjection _) (fun _ => rfl) fun r3 => ?_
  refine Run.bH (e := vT_Iv_I) (gv := vB) (by kernel_rfl) (by kernel_rfl) (ok_impl_ConicCone _) (fun _ => rfl) fun r4 => ?_
  refine Run.bH (e := vB) (gv := vB) (by kernel_rfl) (by kernel_rfl) (ok_laws_eqInterval _ _) (fun _ => rfl) fun r5 => ?_
  refine Run.jH (gv := vB) (by kernel_rfl) (?_) (?_)
  · refine Run.p [true, true, true, true] (by kernel_rfl) ?_
    exact Run.rh (k := 0) (by kernel_rfl) (by kernel_rfl)
  · refine Run.p [false, false, false] (by kernel_rfl) ?_
    refine Run.jH (gv := vB) (by kernel_rfl) (?_) (?_)
    · exact Run.rh (k := 0) (by kernel_rfl) (by kernel_rfl)
    · exact Run.rh (k := 0) (by kernel_rfl) (by kernel_rfl)

theorem ok_spec_l08Scale (a0 : Iv) (a1 : I64) : Fun Tryz.prog 254 [] #[vIv a0, vI a1] (vIv (F_spec_l08Scale a0 a1)) [] := by
  refine Fun.ofH 400 E_ok mixed Tryz.func254 (by kernel_rfl) (by kernel_rfl) ?_
  unfold F_spec_l08Scale
  refine Run.jk (gv := vIv) (by kernel_rfl) (fun h1 => ?_) (fun h1 => ?_)
  · refine Run.k (c := (decide (0 ≤ (wu64 a1.val).val))) (by kernel_rfl) (by exact decide_eq_true (U64.lo _)) ?_
    refine Run.k (c := (decide (0 ≤ (wu64 a1.val).val))) (by kernel_rfl) (by exact decide_eq_true (U64.lo _)) ?_
    refine Run.bk (e := vIv) (gv := vIv) (by kernel_rfl) (by kernel_rfl) (ok_spec_l04Make _ _) (fun _ => rfl) fun r2 hr2 => ?_
    exact Run.rh (k := 0) (by kernel_rfl) (by kernel_rfl)
  · refine Run.k (c := (decide (0 ≤ (wu64 (w64 (0 - a1.val)).val).val))) (by kernel_rfl) (by exact decide_eq_true (U64.lo _)) ?_
    refine Run.k (c := (decide (0 ≤ (wu64 (w64 (0 - a1.val)).val).val))) (by kernel_rfl) (by exact decide_eq_true (U64.lo _)) ?_
    refine Run.bk (e := vIv) (gv := vIv) (by kernel_rfl) (by kernel_rfl) (ok_spec_l04Make _ _) (fun _ => rfl) fun r3 hr3 => ?_
    exact Run.rh (k := 0) (by kernel_rfl) (by kernel_rfl)

theorem ok_spec_ExpAt (a0 : I64) : Fun Tryz.prog 201 [] #[vI a0] (vIv (F_spec_ExpAt a0)) [] := by
  refine Fun.ofH 400 E_ok mixed Tryz.func201 (by kernel_rfl) (by kernel_rfl) ?_
  unfold F_spec_ExpAt
  refine Run.bk (e := vB) (gv := vIv) (by kernel_rfl) (by kernel_rfl) (ok_spec_l03Ok _) (fun _ => rfl) fun r1 hr1 => ?_
  refine Run.jk (gv := vIv) (by kernel_rfl) (fun h2 => ?_) (fun h2 => ?_)
  · refine Run.p [true, true, true] (by kernel_rfl) ?_
    refine Run.bk (e := vIv) (gv := vIv) (by kernel_rfl) (by kernel_rfl) (ok_spec_l04Whole) (fun _ => rfl) fun r3 hr3 => ?_
    exact Run.rh (k := 0) (by kernel_rfl) (by kernel_rfl)
  · refine Run.p [false, false] (by kernel_rfl) ?_
    refine Run.jk (gv := vIv) (by kernel_rfl) (fun h4 => ?_) (fun h4 => ?_)
    · refine Run.bk (e := vIv) (gv := vIv) (by kernel_rfl) (by kernel_rfl) (ok_spec_l04Whole) (fun _ => rfl) fun r5 hr5 => ?_
      exact Run.rh (k := 0) (by kernel_rfl) (by kernel_rfl)
    · refine Run.jk (gv := vIv) (by kernel_rfl) (fun h6 => ?_) (fun h6 => ?_)
      · exact Run.rh (k := 0) (by kernel_rfl) (by kernel_rfl)
      · refine Run.p [true, true] (by kernel_rfl) ?_
        refine Run.jk (gv := vIv) (by kernel_rfl) (fun h7 => ?_) (fun h7 => ?_)
        · refine Run.bk (e := vIv) (gv := vIv) (by kernel_rfl) (by kernel_rfl) (ok_spec_l08At _) (fun _ => rfl) fun r8 hr8 => ?_
          refine Run.bk (e := vIv) (gv := vIv) (by kernel_rfl) (by kernel_rfl) (ok_spec_LogTwoI _) (fun _ => rfl) fun r9 hr9 => ?_
          refine Run.bk (e := vIv) (gv := vIv) (by kernel_rfl) (by kernel_rfl) (ok_spec_SubI _ _) (fun _ => rfl) fun r10 hr10 => ?_
          refine Run.bk (e := vIv) (gv := vIv) (by kernel_rfl) (by kernel_rfl) (ok_spec_l08One) (fun _ => rfl) fun r11 hr11 => ?_
          refine Run.u 400 E_ok mixed Tryz.func201 ?_
          refine Run.p [true] (by kernel_rfl) ?_
          refine Run.bk (e := vIv) (gv := vIv) (by kernel_rfl) (by kernel_rfl) (ok_spec_l08One) (fun _ => rfl) fun r12 hr12 => ?_
          refine Run.bk (e := vIv) (gv := vIv) (by kernel_rfl) (by kernel_rfl) (ok_spec_MulI _ _) (fun _ => rfl) fun r13 hr13 => ?_
          refine Run.bk (e := vIv) (gv := vIv) (by kernel_rfl) (by kernel_rfl) (ok_spec_Integer _) (fun _ => rfl) fun r14 hr14 => ?_
          refine Run.bk (e := vIv) (gv := vIv) (by kernel_rfl) (by kernel_rfl) (ok_spec_DivI _ _) (fun _ => rfl) fun r15 hr15 => ?_
          refine Run.bk (e := vIv) (gv := vIv) (by kernel_rfl) (by kernel_rfl) (ok_spec_AddI _ _) (fun _ => rfl) fun r16 hr16 => ?_
          refine Run.u 400 E_ok mixed Tryz.func201 ?_
          refine Run.p [true] (by kernel_rfl) ?_
          refine Run.bk (e := vIv) (gv := vIv) (by kernel_rfl) (by kernel_rfl) (ok_spec_l08One) (fun _ => rfl) fun r17 hr17 => ?_
          refine Run.bk (e := vIv) (gv := vIv) (by kernel_rfl) (by kernel_rfl) (ok_spec_MulI _ _) (fun _ => rfl) fun r18 hr18 => ?_
          refine Run.bk (e := vIv) (gv := vIv) (by kernel_rfl) (by kernel_rfl) (ok_spec_Integer _) (fun _ => rfl) fun r19 hr19 => ?_
          refine Run.bk (e := vIv) (gv := vIv) (by kernel_rfl) (by kernel_rfl) (ok_spec_DivI _ _) (fun _ => rfl) fun r20 hr20 => ?_
          refine Run.bk (e := vIv) (gv := vIv) (by kernel_rfl) (by kernel_rfl) (ok_spec_AddI _ _) (fun _ => rfl) fun r21 hr21 => ?_
          refine Run.u 400 E_ok mixed Tryz.func201 ?_
          refine Run.p [true] (by kernel_rfl) ?_
          refine Run.bk (e := vIv) (gv := vIv) (by kernel_rfl) (by kernel_rfl) (ok_spec_l08One) (fun _ => rfl) fun r22 hr22 => ?_
          refine Run.bk (e := vIv) (gv := vIv) (by kernel_rfl) (by kernel_rfl) (ok_spec_MulI _ _) (fun _ => rfl) fun r23 hr23 => ?_
          refine Run.bk (e := vIv) (gv := vIv) (by kernel_rfl) (by kernel_rfl) (ok_spec_Integer _) (fun _ => rfl) fun r24 hr24 => ?_
          refine Run.bk (e := vIv) (gv := vIv) (by kernel_rfl) (by kernel_rfl) (ok_spec_DivI _ _) (fun _ => rfl) fun r25 hr25 => ?_
          refine Run.bk (e := vIv) (gv := vIv) (by kernel_rfl) (by kernel_rfl) (ok_spec_AddI _ _) (fun _ => rfl) fun r26 hr26 => ?_
          refine Run.u 400 E_ok mixed Tryz.func201 ?_
          refine Run.p [true] (by kernel_rfl) ?_
          refine Run.bk (e := vIv) (gv := vIv) (by kernel_rfl) (by kernel_rfl) (ok_spec_l08One) (fun _ => rfl) fun r27 hr27 => ?_
          refine Run.bk (e := vIv) (gv := vIv) (by kernel_rfl) (by kernel_rfl) (ok_spec_MulI _ _) (fun _ => rfl) fun r28 hr28 => ?_
          refine Run.bk (e := vIv) (gv := vIv) (by kernel_rfl) (by kernel_rfl) (ok_spec_Integer _) (fun _ => rfl) fun r29 hr29 => ?_
          refine Run.bk (e := vIv) (gv := vIv) (by kernel_rfl) (by kernel_rfl) (ok_spec_DivI _ _) (fun _ => rfl) fun r30 hr30 => ?_
          refine Run.bk (e := vIv) (gv := vIv) (by kernel_rfl) (by kernel_rfl) (ok_spec_AddI _ _) (fun _ => rfl) fun r31 hr31 => ?_
          refine Run.u 400 E_ok mixed Tryz.func201 ?_
          refine Run.p [true] (by kernel_rfl) ?_
          refine Run.bk (e := vIv) (gv := vIv) (by kernel_rfl) (by kernel_rfl) (ok_spec_l08One) (fun _ => rfl) fun r32 hr32 => ?_
          refine Run.bk (e := vIv) (gv := vIv) (by kernel_rfl) (by kernel_rfl) (ok_spec_MulI _ _) (fun _ => rfl) fun r33 hr33 => ?_
          refine Run.bk (e := vIv) (gv := vIv) (by kernel_rfl) (by kernel_rfl) (ok_spec_Integer _) (fun _ => rfl) fun r34 hr34 => ?_
          refine Run.bk (e := vIv) (gv := vIv) (by kernel_rfl) (by kernel_rfl) (ok_spec_DivI _ _) (fun _ => rfl) fun r35 hr35 => ?_
          refine Run.bk (e := vIv) (gv := vIv) (by kernel_rfl) (by kernel_rfl) (ok_spec_AddI _ _) (fun _ => rfl) fun r36 hr36 => ?_
          refine Run.u 400 E_ok mixed Tryz.func201 ?_
          refine Run.p [true] (by kernel_rfl) ?_
          refine Run.bk (e := vIv) (gv := vIv) (by kernel_rfl) (by kernel_rfl) (ok_spec_l08One) (fun _ => rfl) fun r37 hr37 => ?_
          refine Run.bk (e := vIv) (gv := vIv) (by kernel_rfl) (by kernel_rfl) (ok_spec_MulI _ _) (fun _ => rfl) fun r38 hr38 => ?_
          refine Run.bk (e := vIv) (gv := vIv) (by kernel_rfl) (by kernel_rfl) (ok_spec_Integer _) (fun _ => rfl) fun r39 hr39 => ?_
          refine Run.bk (e := vIv) (gv := vIv) (by kernel_rfl) (by kernel_rfl) (ok_spec_DivI _ _) (fun _ => rfl) fun r40 hr40 => ?_
          refine Run.bk (e := vIv) (gv := vIv) (by kernel_rfl) (by kernel_rfl) (ok_spec_AddI _ _) (fun _ => rfl) fun r41 hr41 => ?_
          refine Run.u 400 E_ok mixed Tryz.func201 ?_
          refine Run.p [true] (by kernel_rfl) ?_
          refine Run.bk (e := vIv) (gv := vIv) (by kernel_rfl) (by kernel_rfl) (ok_spec_l08One) (fun _ => rfl) fun r42 hr42 => ?_
          refine Run.bk (e := vIv) (gv := vIv) (by kernel_rfl) (by kernel_rfl) (ok_spec_MulI _ _) (fun _ => rfl) fun r43 hr43 => ?_
          refine Run.bk (e := vIv) (gv := vIv) (by kernel_rfl) (by kernel_rfl) (ok_spec_Integer _) (fun _ => rfl) fun r44 hr44 => ?_
          refine Run.bk (e := vIv) (gv := vIv) (by kernel_rfl) (by kernel_rfl) (ok_spec_DivI _ _) (fun _ => rfl) fun r45 hr45 => ?_
          refine Run.bk (e := vIv) (gv := vIv) (by kernel_rfl) (by kernel_rfl) (ok_spec_AddI _ _) (fun _ => rfl) fun r46 hr46 => ?_
          refine Run.u 400 E_ok mixed Tryz.func201 ?_
          refine Run.p [true] (by kernel_rfl) ?_
          refine Run.bk (e := vIv) (gv := vIv) (by kernel_rfl) (by kernel_rfl) (ok_spec_l08One) (fun _ => rfl) fun r47 hr47 => ?_
          refine Run.bk (e := vIv) (gv := vIv) (by kernel_rfl) (by kernel_rfl) (ok_spec_MulI _ _) (fun _ => rfl) fun r48 hr48 => ?_
          refine Run.bk (e := vIv) (gv := vIv) (by kernel_rfl) (by kernel_rfl) (ok_spec_Integer _) (fun _ => rfl) fun r49 hr49 => ?_
          refine Run.bk (e := vIv) (gv := vIv) (by kernel_rfl) (by kernel_rfl) (ok_spec_DivI _ _) (fun _ => rfl) fun r50 hr50 => ?_
          refine Run.bk (e := vIv) (gv := vIv) (by kernel_rfl) (by kernel_rfl) (ok_spec_AddI _ _) (fun _ => rfl) fun r51 hr51 => ?_
          refine Run.u 400 E_ok mixed Tryz.func201 ?_
          refine Run.p [true] (by kernel_rfl) ?_
          refine Run.bk (e := vIv) (gv := vIv) (by kernel_rfl) (by kernel_rfl) (ok_spec_l08One) (fun _ => rfl) fun r52 hr52 => ?_
          refine Run.bk (e := vIv) (gv := vIv) (by kernel_rfl) (by kernel_rfl) (ok_spec_MulI _ _) (fun _ => rfl) fun r53 hr53 => ?_
          refine Run.bk (e := vIv) (gv := vIv) (by kernel_rfl) (by kernel_rfl) (ok_spec_Integer _) (fun _ => rfl) fun r54 hr54 => ?_
          refine Run.bk (e := vIv) (gv := vIv) (by kernel_rfl) (by kernel_rfl) (ok_spec_DivI _ _) (fun _ => rfl) fun r55 hr55 => ?_
          refine Run.bk (e := vIv) (gv := vIv) (by kernel_rfl) (by kernel_rfl) (ok_spec_AddI _ _) (fun _ => rfl) fun r56 hr56 => ?_
          refine Run.u 400 E_ok mixed Tryz.func201 ?_
          refine Run.p [false] (by kernel_rfl) ?_
          refine Run.bk (e := vIv) (gv := vIv) (by kernel_rfl) (by kernel_rfl) (ok_spec_l08Widen _ _) (fun _ => rfl) fun r57 hr57 => ?_
          refine Run.bk (e := vIv) (gv := vIv) (by kernel_rfl) (by kernel_rfl) (ok_spec_l08Scale _ _) (fun _ => rfl) fun r58 hr58 => ?_
          exact Run.rh (k := 0) (by kernel_rfl) (by kernel_rfl)
        · refine Run.bk (e := vIv) (gv := vIv) (by kernel_rfl) (by kernel_rfl) (ok_spec_l08At _) (fun _ => rfl) fun r59 hr59 => ?_
          refine Run.bk (e := vIv) (gv := vIv) (by kernel_rfl) (by kernel_rfl) (ok_spec_LogTwoI _) (fun _ => rfl) fun r60 hr60 => ?_
          refine Run.bk (e := vIv) (gv := vIv) (by kernel_rfl) (by kernel_rfl) (ok_spec_SubI _ _) (fun _ => rfl) fun r61 hr61 => ?_
          refine Run.bk (e := vIv) (gv := vIv) (by kernel_rfl) (by kernel_rfl) (ok_spec_l08One) (fun _ => rfl) fun r62 hr62 => ?_
          refine Run.u 400 E_ok mixed Tryz.func201 ?_
          refine Run.p [true] (by kernel_rfl) ?_
          refine Run.bk (e := vIv) (gv := vIv) (by kernel_rfl) (by kernel_rfl) (ok_spec_l08One) (fun _ => rfl) fun r63 hr63 => ?_
          refine Run.bk (e := vIv) (gv := vIv) (by kernel_rfl) (by kernel_rfl) (ok_spec_MulI _ _) (fun _ => rfl) fun r64 hr64 => ?_
          refine Run.bk (e := vIv) (gv := vIv) (by kernel_rfl) (by kernel_rfl) (ok_spec_Integer _) (fun _ => rfl) fun r65 hr65 => ?_
          refine Run.bk (e := vIv) (gv := vIv) (by kernel_rfl) (by kernel_rfl) (ok_spec_DivI _ _) (fun _ => rfl) fun r66 hr66 => ?_
          refine Run.bk (e := vIv) (gv := vIv) (by kernel_rfl) (by kernel_rfl) (ok_spec_AddI _ _) (fun _ => rfl) fun r67 hr67 => ?_
          refine Run.u 400 E_ok mixed Tryz.func201 ?_
          refine Run.p [true] (by kernel_rfl) ?_
          refine Run.bk (e := vIv) (gv := vIv) (by kernel_rfl) (by kernel_rfl) (ok_spec_l08One) (fun _ => rfl) fun r68 hr68 => ?_
          refine Run.bk (e := vIv) (gv := vIv) (by kernel_rfl) (by kernel_rfl) (ok_spec_MulI _ _) (fun _ => rfl) fun r69 hr69 => ?_
          refine Run.bk (e := vIv) (gv := vIv) (by kernel_rfl) (by kernel_rfl) (ok_spec_Integer _) (fun _ => rfl) fun r70 hr70 => ?_
          refine Run.bk (e := vIv) (gv := vIv) (by kernel_rfl) (by kernel_rfl) (ok_spec_DivI _ _) (fun _ => rfl) fun r71 hr71 => ?_
          refine Run.bk (e := vIv) (gv := vIv) (by kernel_rfl) (by kernel_rfl) (ok_spec_AddI _ _) (fun _ => rfl) fun r72 hr72 => ?_
          refine Run.u 400 E_ok mixed Tryz.func201 ?_
          refine Run.p [true] (by kernel_rfl) ?_
          refine Run.bk (e := vIv) (gv := vIv) (by kernel_rfl) (by kernel_rfl) (ok_spec_l08One) (fun _ => rfl) fun r73 hr73 => ?_
          refine Run.bk (e := vIv) (gv := vIv) (by kernel_rfl) (by kernel_rfl) (ok_spec_MulI _ _) (fun _ => rfl) fun r74 hr74 => ?_
          refine Run.bk (e := vIv) (gv := vIv) (by kernel_rfl) (by kernel_rfl) (ok_spec_Integer _) (fun _ => rfl) fun r75 hr75 => ?_
          refine Run.bk (e := vIv) (gv := vIv) (by kernel_rfl) (by kernel_rfl) (ok_spec_DivI _ _) (fun _ => rfl) fun r76 hr76 => ?_
          refine Run.bk (e := vIv) (gv := vIv) (by kernel_rfl) (by kernel_rfl) (ok_spec_AddI _ _) (fun _ => rfl) fun r77 hr77 => ?_
          refine Run.u 400 E_ok mixed Tryz.func201 ?_
          refine Run.p [true] (by kernel_rfl) ?_
          refine Run.bk (e := vIv) (gv := vIv) (by kernel_rfl) (by kernel_rfl) (ok_spec_l08One) (fun _ => rfl) fun r78 hr78 => ?_
          refine Run.bk (e := vIv) (gv := vIv) (by kernel_rfl) (by kernel_rfl) (ok_spec_MulI _ _) (fun _ => rfl) fun r79 hr79 => ?_
          refine Run.bk (e := vIv) (gv := vIv) (by kernel_rfl) (by kernel_rfl) (ok_spec_Integer _) (fun _ => rfl) fun r80 hr80 => ?_
          refine Run.bk (e := vIv) (gv := vIv) (by kernel_rfl) (by kernel_rfl) (ok_spec_DivI _ _) (fun _ => rfl) fun r81 hr81 => ?_
          refine Run.bk (e := vIv) (gv := vIv) (by kernel_rfl) (by kernel_rfl) (ok_spec_AddI _ _) (fun _ => rfl) fun r82 hr82 => ?_
          refine Run.u 400 E_ok mixed Tryz.func201 ?_
          refine Run.p [true] (by kernel_rfl) ?_
          refine Run.bk (e := vIv) (gv := vIv) (by kernel_rfl) (by kernel_rfl) (ok_spec_l08One) (fun _ => rfl) fun r83 hr83 => ?_
          refine Run.bk (e := vIv) (gv := vIv) (by kernel_rfl) (by kernel_rfl) (ok_spec_MulI _ _) (fun _ => rfl) fun r84 hr84 => ?_
          refine Run.bk (e := vIv) (gv := vIv) (by kernel_rfl) (by kernel_rfl) (ok_spec_Integer _) (fun _ => rfl) fun r85 hr85 => ?_
          refine Run.bk (e := vIv) (gv := vIv) (by kernel_rfl) (by kernel_rfl) (ok_spec_DivI _ _) (fun _ => rfl) fun r86 hr86 => ?_
          refine Run.bk (e := vIv) (gv := vIv) (by kernel_rfl) (by kernel_rfl) (ok_spec_AddI _ _) (fun _ => rfl) fun r87 hr87 => ?_
          refine Run.u 400 E_ok mixed Tryz.func201 ?_
          refine Run.p [true] (by kernel_rfl) ?_
          refine Run.bk (e := vIv) (gv := vIv) (by kernel_rfl) (by kernel_rfl) (ok_spec_l08One) (fun _ => rfl) fun r88 hr88 => ?_
          refine Run.bk (e := vIv) (gv := vIv) (by kernel_rfl) (by kernel_rfl) (ok_spec_MulI _ _) (fun _ => rfl) fun r89 hr89 => ?_
          refine Run.bk (e := vIv) (gv := vIv) (by kernel_rfl) (by kernel_rfl) (ok_spec_Integer _) (fun _ => rfl) fun r90 hr90 => ?_
          refine Run.bk (e := vIv) (gv := vIv) (by kernel_rfl) (by kernel_rfl) (ok_spec_DivI _ _) (fun _ => rfl) fun r91 hr91 => ?_
          refine Run.bk (e := vIv) (gv := vIv) (by kernel_rfl) (by kernel_rfl) (ok_spec_AddI _ _) (fun _ => rfl) fun r92 hr92 => ?_
          refine Run.u 400 E_ok mixed Tryz.func201 ?_
          refine Run.p [true] (by kernel_rfl) ?_
          refine Run.bk (e := vIv) (gv := vIv) (by kernel_rfl) (by kernel_rfl) (ok_spec_l08One) (fun _ => rfl) fun r93 hr93 => ?_
          refine Run.bk (e := vIv) (gv := vIv) (by kernel_rfl) (by kernel_rfl) (ok_spec_MulI _ _) (fun _ => rfl) fun r94 hr94 => ?_
          refine Run.bk (e := vIv) (gv := vIv) (by kernel_rfl) (by kernel_rfl) (ok_spec_Integer _) (fun _ => rfl) fun r95 hr95 => ?_
          refine Run.bk (e := vIv) (gv := vIv) (by kernel_rfl) (by kernel_rfl) (ok_spec_DivI _ _) (fun _ => rfl) fun r96 hr96 => ?_
          refine Run.bk (e := vIv) (gv := vIv) (by kernel_rfl) (by kernel_rfl) (ok_spec_AddI _ _) (fun _ => rfl) fun r97 hr97 => ?_
          refine Run.u 400 E_ok mixed Tryz.func201 ?_
          refine Run.p [true] (by kernel_rfl) ?_
          refine Run.bk (e := vIv) (gv := vIv) (by kernel_rfl) (by kernel_rfl) (ok_spec_l08One) (fun _ => rfl) fun r98 hr98 => ?_
          refine Run.bk (e := vIv) (gv := vIv) (by kernel_rfl) (by kernel_rfl) (ok_spec_MulI _ _) (fun _ => rfl) fun r99 hr99 => ?_
          refine Run.bk (e := vIv) (gv := vIv) (by kernel_rfl) (by kernel_rfl) (ok_spec_Integer _) (fun _ => rfl) fun r100 hr100 => ?_
          refine Run.bk (e := vIv) (gv := vIv) (by kernel_rfl) (by kernel_rfl) (ok_spec_DivI _ _) (fun _ => rfl) fun r101 hr101 => ?_
          refine Run.bk (e := vIv) (gv := vIv) (by kernel_rfl) (by kernel_rfl) (ok_spec_AddI _ _) (fun _ => rfl) fun r102 hr102 => ?_
          refine Run.u 400 E_ok mixed Tryz.func201 ?_
          refine Run.p [true] (by kernel_rfl) ?_
          refine Run.bk (e := vIv) (gv := vIv) (by kernel_rfl) (by kernel_rfl) (ok_spec_l08One) (fun _ => rfl) fun r103 hr103 => ?_
          refine Run.bk (e := vIv) (gv := vIv) (by kernel_rfl) (by kernel_rfl) (ok_spec_MulI _ _) (fun _ => rfl) fun r104 hr104 => ?_
          refine Run.bk (e := vIv) (gv := vIv) (by kernel_rfl) (by kernel_rfl) (ok_spec_Integer _) (fun _ => rfl) fun r105 hr105 => ?_
          refine Run.bk (e := vIv) (gv := vIv) (by kernel_rfl) (by kernel_rfl) (ok_spec_DivI _ _) (fun _ => rfl) fun r106 hr106 => ?_
          refine Run.bk (e := vIv) (gv := vIv) (by kernel_rfl) (by kernel_rfl) (ok_spec_AddI _ _) (fun _ => rfl) fun r107 hr107 => ?_
          refine Run.u 400 E_ok mixed Tryz.func201 ?_
          refine Run.p [false] (by kernel_rfl) ?_
          refine Run.bk (e := vIv) (gv := vIv) (by kernel_rfl) (by kernel_rfl) (ok_spec_l08Widen _ _) (fun _ => rfl) fun r108 hr108 => ?_
          refine Run.bk (e := vIv) (gv := vIv) (by kernel_rfl) (by kernel_rfl) (ok_spec_l08Scale _ _) (fun _ => rfl) fun r109 hr109 => ?_
          exact Run.rh (k := 0) (by kernel_rfl) (by kernel_rfl)

theorem ok_spec_ExpI (a0 : Iv) : Fun Tryz.prog 145 [] #[vIv a0] (vIv (F_spec_ExpI a0)) [] := by
  refine Fun.ofH 400 E_ok mixed Tryz.func145 (by kernel_rfl) (by kernel_rfl) ?_
  unfold F_spec_ExpI
  refine Run.bH (e := vB) (gv := vIv) (by kernel_rfl) (by kernel_rfl) (ok_spec_l04Ok _) (fun _ => rfl) fun r1 => ?_
  refine Run.jH (gv := vIv) (by kernel_rfl) (?_) (?_)
  · refine Run.bH (e := vIv) (gv := vIv) (by kernel_rfl) (by kernel_rfl) (ok_spec_l04Whole) (fun _ => rfl) fun r2 => ?_
    exact Run.rh (k := 0) (by kernel_rfl) (by kernel_rfl)
  · refine Run.bH (e := vIv) (gv := vIv) (by kernel_rfl) (by kernel_rfl) (ok_spec_ExpAt _) (fun _ => rfl) fun r3 => ?_
    refine Run.bH (e := vIv) (gv := vIv) (by kernel_rfl) (by kernel_rfl) (ok_spec_ExpAt _) (fun _ => rfl) fun r4 => ?_
    refine Run.bH (e := vIv) (gv := vIv) (by kernel_rfl) (by kernel_rfl) (ok_spec_l08Ends _ _) (fun _ => rfl) fun r5 => ?_
    exact Run.rh (k := 0) (by kernel_rfl) (by kernel_rfl)

theorem ok_spec_l19Constant (a0 : Pj) (a1 : Iv) : Fun Tryz.prog 74 [] #[vPj a0, vIv a1] (vIv (F_spec_l19Constant a0 a1)) [] := by
  refine Fun.ofH 400 E_ok mixed Tryz.func74 (by kernel_rfl) (by kernel_rfl) ?_
  unfold F_spec_l19Constant
  refine Run.bH (e := vIv) (gv := vIv) (by kernel_rfl) (by kernel_rfl) (ok_spec_RadiansOf _) (fun _ => rfl) fun r1 => ?_
  refine Run.jH (gv := vIv) (by kernel_rfl) (?_) (?_)
  · refine Run.bH (e := vIv) (gv := vIv) (by kernel_rfl) (by kernel_rfl) (ok_spec_CosI _) (fun _ => rfl) fun r2 => ?_
    refine Run.bH (e := vIv) (gv := vIv) (by kernel_rfl) (by kernel_rfl) (ok_spec_SqrI _) (fun _ => rfl) fun r3 => ?_
    refine Run.bH (e := vIv) (gv := vIv) (by kernel_rfl) (by kernel_rfl) (ok_spec_Integer _) (fun _ => rfl) fun r4 => ?_
    refine Run.bH (e := vIv) (gv := vIv) (by kernel_rfl) (by kernel_rfl) (ok_spec_MulI _ _) (fun _ => rfl) fun r5 => ?_
    refine Run.bH (e := vIv) (gv := vIv) (by kernel_rfl) (by kernel_rfl) (ok_spec_SinI _) (fun _ => rfl) fun r6 => ?_
    refine Run.bH (e := vIv) (gv := vIv) (by kernel_rfl) (by kernel_rfl) (ok_spec_MulI _ _) (fun _ => rfl) fun r7 => ?_
    refine Run.bH (e := vIv) (gv := vIv) (by kernel_rfl) (by kernel_rfl) (ok_spec_AddI _ _) (fun _ => rfl) fun r8 => ?_
    exact Run.rh (k := 0) (by kernel_rfl) (by kernel_rfl)
  · refine Run.jH (gv := vIv) (by kernel_rfl) (?_) (?_)
    · refine Run.bH (e := vIv) (gv := vIv) (by kernel_rfl) (by kernel_rfl) (ok_spec_CosI _) (fun _ => rfl) fun r9 => ?_
      refine Run.bH (e := vIv) (gv := vIv) (by kernel_rfl) (by kernel_rfl) (ok_spec_l19Iso _) (fun _ => rfl) fun r10 => ?_
      refine Run.bH (e := vIv) (gv := vIv) (by kernel_rfl) (by kernel_rfl) (ok_spec_MulI _ _) (fun _ => rfl) fun r11 => ?_
      refine Run.bH (e := vIv) (gv := vIv) (by kernel_rfl) (by kernel_rfl) (ok_spec_ExpI _) (fun _ => rfl) fun r12 => ?_
      refine Run.bH (e := vIv) (gv := vIv) (by kernel_rfl) (by kernel_rfl) (ok_spec_MulI _ _) (fun _ => rfl) fun r13 => ?_
      refine Run.bH (e := vIv) (gv := vIv) (by kernel_rfl) (by kernel_rfl) (ok_spec_DivI _ _) (fun _ => rfl) fun r14 => ?_
      exact Run.rh (k := 0) (by kernel_rfl) (by kernel_rfl)
    · refine Run.bH (e := vIv) (gv := vIv) (by kernel_rfl) (by kernel_rfl) (ok_spec_CosI _) (fun _ => rfl) fun r15 => ?_
      refine Run.bH (e := vIv) (gv := vIv) (by kernel_rfl) (by kernel_rfl) (ok_spec_DivI _ _) (fun _ => rfl) fun r16 => ?_
      refine Run.bH (e := vIv) (gv := vIv) (by kernel_rfl) (by kernel_rfl) (ok_spec_AddI _ _) (fun _ => rfl) fun r17 => ?_
      exact Run.rh (k := 0) (by kernel_rfl) (by kernel_rfl)

theorem ok_spec_ConicConstant (a0 : Pj) : Fun Tryz.prog 22 [] #[vPj a0] (vT_Iv_I (F_spec_ConicConstant a0)) [] := by
  refine Fun.ofH 400 E_ok mixed Tryz.func22 (by kernel_rfl) (by kernel_rfl) ?_
  unfold F_spec_ConicConstant
  refine Run.bH (e := vB) (gv := vT_Iv_I) (by kernel_rfl) (by kernel_rfl) (ok_spec_l19Ok _) (fun _ => rfl) fun r1 => ?_
  refine Run.jH (gv := vT_Iv_I) (by kernel_rfl) (?_) (?_)
  · exact Run.rh (k := 0) (by kernel_rfl) (by kernel_rfl)
  · refine Run.bH (e := vIv) (gv := vT_Iv_I) (by kernel_rfl) (by kernel_rfl) (ok_spec_l19Cone _) (fun _ => rfl) fun r2 => ?_
    refine Run.bH (e := vIv) (gv := vT_Iv_I) (by kernel_rfl) (by kernel_rfl) (ok_spec_l19Constant _ _) (fun _ => rfl) fun r3 => ?_
    refine Run.bH (e := vT_Iv_I) (gv := vT_Iv_I) (by kernel_rfl) (by kernel_rfl) (ok_spec_l19Known _) (fun _ => rfl) fun r4 => ?_
    exact Run.rh (k := 0) (by kernel_rfl) (by kernel_rfl)

theorem ok_impl_ConicConstant (a0 : Pj) : Fun Tryz.prog 23 [] #[vPj a0] (vT_Iv_I (F_impl_ConicConstant a0)) [] := by
  refine Fun.ofH 400 E_ok mixed Tryz.func23 (by kernel_rfl) (by kernel_rfl) ?_
  unfold F_impl_ConicConstant
  refine Run.bmb (nn := fun r : Cn × I64 => (r.2.val != 0)) (cl := fun r : Cn × I64 => (vCn r.1).cells) (gv := vT_Iv_I) (by kernel_rfl) (by kernel_rfl) (ok_impl_newConic _) (by kernel_rfl) (fun _ => rfl) (fun r1 hr1 => ?_) (fun r1 hr1 => ?_)
  · refine Run.p [true] (by kernel_rfl) ?_
    exact Run.rh (k := 0) (by kernel_rfl) (by kernel_rfl)
  · refine Run.p [false] (by kernel_rfl) ?_
    refine Run.bk (e := vT_Iv_I) (gv := vT_Iv_I) (by kernel_rfl) (by kernel_rfl) (ok_impl_knownI _) (fun _ => rfl) fun r2 hr2 => ?_
    exact Run.rh (k := 0) (by kernel_rfl) (by kernel_rfl)

theorem ok_laws_FnExactConicConstant (a0 : Pj) : Fun Tryz.prog 7 [] #[vPj a0] (vB (F_laws_FnExactConicConstant a0)) [] := by
  refine Fun.ofH 400 E_ok mixed Tryz.func7 (by kernel_rfl) (by kernel_rfl) ?_
  unfold F_laws_FnExactConicConstant
  refine Run.bH (e := vPj) (gv := vB) (by kernel_rfl) (by kernel_rfl) (ok_laws_toProjection _) (fun _ => rfl) fun r1 => ?_
  refine Run.bH (e := vT_Iv_I) (gv := vB) (by kernel_rfl) (by kernel_rfl) (ok_spec_ConicConstant _) (fun _ => rfl) fun r2 => ?_
  refine Run.bH (e := vPj) (gv := vB) (by kernel_rfl) (by kernel_rfl) (ok_laws_toProjection _) (fun _ => rfl) fun r3 => ?_
  refine Run.bH (e := vT_Iv_I) (gv := vB) (by kernel_rfl) (by kernel_rfl) (ok_impl_ConicConstant _) (fun _ => rfl) fun r4 => ?_
  refine Run.bH (e := vB) (gv := vB) (by kernel_rfl) (by kernel_rfl) (ok_laws_eqInterval _ _) (fun _ => rfl) fun r5 => ?_
  refine Run.jH (gv := vB) (by kernel_rfl) (?_) (?_)
  · refine Run.p [true, true, true, true] (by kernel_rfl) ?_
    exact Run.rh (k := 0) (by kernel_rfl) (by kernel_rfl)
  · refine Run.p [false, false, false] (by kernel_rfl) ?_
    refine Run.jH (gv := vB) (by kernel_rfl) (?_) (?_)
    · exact Run.rh (k := 0) (by kernel_rfl) (by kernel_rfl)
    · exact Run.rh (k := 0) (by kernel_rfl) (by kernel_rfl)

end Go.Proofs.YtebaobmmnkebaaaGreat.Abs
