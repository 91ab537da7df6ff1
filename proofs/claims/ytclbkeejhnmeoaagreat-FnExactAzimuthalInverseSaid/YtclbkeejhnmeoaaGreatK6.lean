/- The program's functions are these; part 6 (written by w.py). -/
import Derived.Test.YtclbkeejhnmeoaaGreatK5
import Derived.Test.YtclbkeejhnmeoaaGreatF6
set_option linter.unusedVariables false
set_option linter.unusedSimpArgs false
namespace Go.Proofs.YtclbkeejhnmeoaaGreat.Abs
open Go Go.RowKit

theorem ok_spec_l08Sinh (a0 : I64) : Fun Tryz.prog 214 [] #[vI a0] (vIv (F_spec_l08Sinh a0)) [] := by
  refine Fun.ofH 400 E_ok mixed Tryz.func214 (by kernel_rfl) (by kernel_rfl) ?_
  unfold F_spec_l08Sinh
  refine Run.q (e := vIv) (gv := vIv) (ok_spec_ExpAt _) fun r1 _ => ?_
  refine Run.q (e := vIv) (gv := vIv) (ok_spec_ExpAt _) fun r2 _ => ?_
  refine Run.q (e := vIv) (gv := vIv) (ok_spec_SubI _ _) fun r3 _ => ?_
  refine Run.q (e := vIv) (gv := vIv) (ok_spec_HalfI _) fun r4 _ => ?_
  exact Run.x 0

theorem ok_spec_SinhI (a0 : Iv) : Fun Tryz.prog 100 [] #[vIv a0] (vIv (F_spec_SinhI a0)) [] := by
  refine Fun.ofH 400 E_ok mixed Tryz.func100 (by kernel_rfl) (by kernel_rfl) ?_
  unfold F_spec_SinhI
  refine Run.q (e := vB) (gv := vIv) (ok_spec_l04Ok _) fun r1 _ => ?_
  refine Run.y (gv := vIv) (fun _ => ?_) (fun _ => ?_)
  · refine Run.q (e := vIv) (gv := vIv) (ok_spec_l04Whole) fun r2 _ => ?_
    exact Run.x 0
  · refine Run.q (e := vIv) (gv := vIv) (ok_spec_l08Sinh _) fun r3 _ => ?_
    refine Run.q (e := vIv) (gv := vIv) (ok_spec_l08Sinh _) fun r4 _ => ?_
    refine Run.q (e := vIv) (gv := vIv) (ok_spec_l08Ends _ _) fun r5 _ => ?_
    exact Run.x 0

theorem ok_spec_ConicInverse (a0 : Pj) (a1 : Pn) : Fun Tryz.prog 25 [] #[vPj a0, vPn a1] (vT_Iv_Iv_I (F_spec_ConicInverse a0 a1)) [] := by
  refine Fun.ofH 400 E_ok mixed Tryz.func25 (by kernel_rfl) (by kernel_rfl) ?_
  unfold F_spec_ConicInverse
  refine Run.q (e := vB) (gv := vT_Iv_Iv_I) (ok_spec_l19Ok _) fun r1 _ => ?_
  refine Run.y (gv := vT_Iv_Iv_I) (fun _ => ?_) (fun _ => ?_)
  · exact Run.x 0
  · refine Run.q (e := vIv) (gv := vT_Iv_Iv_I) (ok_spec_l19Cone _) fun r2 _ => ?_
    refine Run.q (e := vIv) (gv := vT_Iv_Iv_I) (ok_spec_l19Constant _ _) fun r3 _ => ?_
    refine Run.q (e := vIv) (gv := vT_Iv_Iv_I) (ok_spec_RadiansOf _) fun r4 _ => ?_
    refine Run.q (e := vIv) (gv := vT_Iv_Iv_I) (ok_spec_l19Radius _ _ _ _) fun r5 _ => ?_
    refine Run.q (e := vIv) (gv := vT_Iv_Iv_I) (ok_spec_SubI _ _) fun r6 _ => ?_
    refine Run.q (e := vIv) (gv := vT_Iv_Iv_I) (ok_spec_SqrI _) fun r7 _ => ?_
    refine Run.q (e := vIv) (gv := vT_Iv_Iv_I) (ok_spec_SqrI _) fun r8 _ => ?_
    refine Run.q (e := vIv) (gv := vT_Iv_Iv_I) (ok_spec_AddI _ _) fun r9 _ => ?_
    refine Run.q (e := vIv) (gv := vT_Iv_Iv_I) (ok_spec_SqrtI _) fun r10 _ => ?_
    refine Run.q (e := vIv) (gv := vT_Iv_Iv_I) (ok_spec_DirectionI _ _) fun r11 _ => ?_
    refine Run.y (gv := vT_Iv_Iv_I) (fun _ => ?_) (fun _ => ?_)
    · refine Run.q (e := vIv) (gv := vT_Iv_Iv_I) (ok_spec_NegI _) fun r12 _ => ?_
      refine Run.q (e := vIv) (gv := vT_Iv_Iv_I) (ok_spec_NegI _) fun r13 _ => ?_
      refine Run.q (e := vIv) (gv := vT_Iv_Iv_I) (ok_spec_NegI _) fun r14 _ => ?_
      refine Run.q (e := vIv) (gv := vT_Iv_Iv_I) (ok_spec_DirectionI _ _) fun r15 _ => ?_
      refine Run.q (e := vIv) (gv := vT_Iv_Iv_I) (ok_spec_DivI _ _) fun r16 _ => ?_
      refine Run.y (gv := vT_Iv_Iv_I) (fun _ => ?_) (fun _ => ?_)
      · refine Run.q (e := vIv) (gv := vT_Iv_Iv_I) (ok_spec_MulI _ _) fun r17 _ => ?_
        refine Run.q (e := vIv) (gv := vT_Iv_Iv_I) (ok_spec_SqrI _) fun r18 _ => ?_
        refine Run.q (e := vIv) (gv := vT_Iv_Iv_I) (ok_spec_SubI _ _) fun r19 _ => ?_
        refine Run.q (e := vIv) (gv := vT_Iv_Iv_I) (ok_spec_Integer _) fun r20 _ => ?_
        refine Run.q (e := vIv) (gv := vT_Iv_Iv_I) (ok_spec_MulI _ _) fun r21 _ => ?_
        refine Run.q (e := vIv) (gv := vT_Iv_Iv_I) (ok_spec_DivI _ _) fun r22 _ => ?_
        refine Run.q (e := vB) (gv := vT_Iv_Iv_I) (ok_spec_l04Ok _) fun r23 _ => ?_
        refine Run.y (gv := vT_Iv_Iv_I) (fun _ => ?_) (fun _ => ?_)
        · refine Run.z [true] ?_
          refine Run.q (e := vIv) (gv := vT_Iv_Iv_I) (ok_spec_l06Ring) fun r24 _ => ?_
          refine Run.z [true] ?_
          refine Run.q (e := vB) (gv := vT_Iv_Iv_I) (ok_spec_OverlapI _ _) fun r25 _ => ?_
          refine Run.z [true, true] ?_
          refine Run.y (gv := vT_Iv_Iv_I) (fun _ => ?_) (fun _ => ?_)
          · exact Run.x 0
          · refine Run.q (e := vIv) (gv := vT_Iv_Iv_I) (ok_spec_AsinI _) fun r26 _ => ?_
            refine Run.q (e := vT_Iv_Iv_I) (gv := vT_Iv_Iv_I) (ok_spec_l17Back _ _ _) fun r27 _ => ?_
            exact Run.x 0
        · refine Run.z [false, false, false, false, false] ?_
          refine Run.q (e := vIv) (gv := vT_Iv_Iv_I) (ok_spec_AsinI _) fun r28 _ => ?_
          refine Run.q (e := vT_Iv_Iv_I) (gv := vT_Iv_Iv_I) (ok_spec_l17Back _ _ _) fun r29 _ => ?_
          exact Run.x 0
      · refine Run.y (gv := vT_Iv_Iv_I) (fun _ => ?_) (fun _ => ?_)
        · refine Run.q (e := vIv) (gv := vT_Iv_Iv_I) (ok_spec_DivI _ _) fun r30 _ => ?_
          refine Run.q (e := vIv) (gv := vT_Iv_Iv_I) (ok_spec_LogI _) fun r31 _ => ?_
          refine Run.q (e := vIv) (gv := vT_Iv_Iv_I) (ok_spec_DivI _ _) fun r32 _ => ?_
          refine Run.q (e := vIv) (gv := vT_Iv_Iv_I) (ok_spec_SinhI _) fun r33 _ => ?_
          refine Run.q (e := vIv) (gv := vT_Iv_Iv_I) (ok_spec_AtanI _) fun r34 _ => ?_
          refine Run.q (e := vT_Iv_Iv_I) (gv := vT_Iv_Iv_I) (ok_spec_l17Back _ _ _) fun r35 _ => ?_
          exact Run.x 0
        · refine Run.q (e := vIv) (gv := vT_Iv_Iv_I) (ok_spec_SubI _ _) fun r36 _ => ?_
          refine Run.q (e := vT_Iv_Iv_I) (gv := vT_Iv_Iv_I) (ok_spec_l17Back _ _ _) fun r37 _ => ?_
          exact Run.x 0
    · refine Run.q (e := vIv) (gv := vT_Iv_Iv_I) (ok_spec_DivI _ _) fun r38 _ => ?_
      refine Run.y (gv := vT_Iv_Iv_I) (fun _ => ?_) (fun _ => ?_)
      · refine Run.q (e := vIv) (gv := vT_Iv_Iv_I) (ok_spec_MulI _ _) fun r39 _ => ?_
        refine Run.q (e := vIv) (gv := vT_Iv_Iv_I) (ok_spec_SqrI _) fun r40 _ => ?_
        refine Run.q (e := vIv) (gv := vT_Iv_Iv_I) (ok_spec_SubI _ _) fun r41 _ => ?_
        refine Run.q (e := vIv) (gv := vT_Iv_Iv_I) (ok_spec_Integer _) fun r42 _ => ?_
        refine Run.q (e := vIv) (gv := vT_Iv_Iv_I) (ok_spec_MulI _ _) fun r43 _ => ?_
        refine Run.q (e := vIv) (gv := vT_Iv_Iv_I) (ok_spec_DivI _ _) fun r44 _ => ?_
        refine Run.q (e := vB) (gv := vT_Iv_Iv_I) (ok_spec_l04Ok _) fun r45 _ => ?_
        refine Run.y (gv := vT_Iv_Iv_I) (fun _ => ?_) (fun _ => ?_)
        · refine Run.z [true] ?_
          refine Run.q (e := vIv) (gv := vT_Iv_Iv_I) (ok_spec_l06Ring) fun r46 _ => ?_
          refine Run.z [true] ?_
          refine Run.q (e := vB) (gv := vT_Iv_Iv_I) (ok_spec_OverlapI _ _) fun r47 _ => ?_
          refine Run.z [true, true] ?_
          refine Run.y (gv := vT_Iv_Iv_I) (fun _ => ?_) (fun _ => ?_)
          · exact Run.x 0
          · refine Run.q (e := vIv) (gv := vT_Iv_Iv_I) (ok_spec_AsinI _) fun r48 _ => ?_
            refine Run.q (e := vT_Iv_Iv_I) (gv := vT_Iv_Iv_I) (ok_spec_l17Back _ _ _) fun r49 _ => ?_
            exact Run.x 0
        · refine Run.z [false, false, false, false, false] ?_
          refine Run.q (e := vIv) (gv := vT_Iv_Iv_I) (ok_spec_AsinI _) fun r50 _ => ?_
          refine Run.q (e := vT_Iv_Iv_I) (gv := vT_Iv_Iv_I) (ok_spec_l17Back _ _ _) fun r51 _ => ?_
          exact Run.x 0
      · refine Run.y (gv := vT_Iv_Iv_I) (fun _ => ?_) (fun _ => ?_)
        · refine Run.q (e := vIv) (gv := vT_Iv_Iv_I) (ok_spec_DivI _ _) fun r52 _ => ?_
          refine Run.q (e := vIv) (gv := vT_Iv_Iv_I) (ok_spec_LogI _) fun r53 _ => ?_
          refine Run.q (e := vIv) (gv := vT_Iv_Iv_I) (ok_spec_DivI _ _) fun r54 _ => ?_
          refine Run.q (e := vIv) (gv := vT_Iv_Iv_I) (ok_spec_SinhI _) fun r55 _ => ?_
          refine Run.q (e := vIv) (gv := vT_Iv_Iv_I) (ok_spec_AtanI _) fun r56 _ => ?_
          refine Run.q (e := vT_Iv_Iv_I) (gv := vT_Iv_Iv_I) (ok_spec_l17Back _ _ _) fun r57 _ => ?_
          exact Run.x 0
        · refine Run.q (e := vIv) (gv := vT_Iv_Iv_I) (ok_spec_SubI _ _) fun r58 _ => ?_
          refine Run.q (e := vT_Iv_Iv_I) (gv := vT_Iv_Iv_I) (ok_spec_l17Back _ _ _) fun r59 _ => ?_
          exact Run.x 0

theorem ok_impl_CircleAt (a0 : I64) : Fun Tryz.prog 370 [] #[vI a0] (vIv (F_impl_CircleAt a0)) [] := by
  refine Fun.ofH 400 E_ok mixed Tryz.func370 (by kernel_rfl) (by kernel_rfl) ?_
  unfold F_impl_CircleAt
  refine Run.q (e := vB) (gv := vIv) (ok_impl_within _ _ _) fun r1 _ => ?_
  refine Run.y (gv := vIv) (fun _ => ?_) (fun _ => ?_)
  · refine Run.q (e := vIv) (gv := vIv) (ok_impl_Whole) fun r2 _ => ?_
    exact Run.x 0
  · refine Run.q (e := vT_I_B) (gv := vIv) (ok_impl_SqrtFloor _ _) fun r3 _ => ?_
    refine Run.q (e := vWd) (gv := vIv) (ok_impl_WideMul _ _) fun r4 _ => ?_
    refine Run.q (e := vWd) (gv := vIv) (ok_impl_WideMul _ _) fun r5 _ => ?_
    refine Run.y (gv := vIv) (fun _ => ?_) (fun _ => ?_)
    · refine Run.q (e := vIv) (gv := vIv) (ok_impl_at _) fun r6 _ => ?_
      exact Run.x 0
    · exact Run.x 0

theorem ok_impl_AsinAt (a0 : I64) : Fun Tryz.prog 309 [] #[vI a0] (vIv (F_impl_AsinAt a0)) [] := by
  refine Fun.ofH 400 E_ok mixed Tryz.func309 (by kernel_rfl) (by kernel_rfl) ?_
  unfold F_impl_AsinAt
  refine Run.q (e := vB) (gv := vIv) (ok_impl_within _ _ _) fun r1 _ => ?_
  refine Run.y (gv := vIv) (fun _ => ?_) (fun _ => ?_)
  · refine Run.q (e := vIv) (gv := vIv) (ok_impl_Whole) fun r2 _ => ?_
    exact Run.x 0
  · refine Run.q (e := vIv) (gv := vIv) (ok_impl_at _) fun r3 _ => ?_
    refine Run.q (e := vIv) (gv := vIv) (ok_impl_Integer _) fun r4 _ => ?_
    refine Run.q (e := vIv) (gv := vIv) (ok_impl_CircleAt _) fun r5 _ => ?_
    refine Run.q (e := vIv) (gv := vIv) (ok_impl_AddI _ _) fun r6 _ => ?_
    refine Run.q (e := vIv) (gv := vIv) (ok_impl_DivI _ _) fun r7 _ => ?_
    refine Run.q (e := vIv) (gv := vIv) (ok_impl_AtanI _) fun r8 _ => ?_
    refine Run.q (e := vIv) (gv := vIv) (ok_impl_DoubleI _) fun r9 _ => ?_
    refine Run.q (e := vIv) (gv := vIv) (ok_impl_halfCircle) fun r10 _ => ?_
    refine Run.q (e := vT_Iv_B) (gv := vIv) (ok_impl_MeetI _ _) fun r11 _ => ?_
    exact Run.x 0

theorem ok_impl_AsinI (a0 : Iv) : Fun Tryz.prog 222 [] #[vIv a0] (vIv (F_impl_AsinI a0)) [] := by
  refine Fun.ofH 400 E_ok mixed Tryz.func222 (by kernel_rfl) (by kernel_rfl) ?_
  unfold F_impl_AsinI
  refine Run.q (e := vIv) (gv := vIv) (ok_impl_ring) fun r1 _ => ?_
  refine Run.q (e := vT_Iv_B) (gv := vIv) (ok_impl_MeetI _ _) fun r2 _ => ?_
  refine Run.y (gv := vIv) (fun _ => ?_) (fun _ => ?_)
  · refine Run.q (e := vIv) (gv := vIv) (ok_impl_Whole) fun r3 _ => ?_
    exact Run.x 0
  · refine Run.q (e := vIv) (gv := vIv) (ok_impl_AsinAt _) fun r4 _ => ?_
    refine Run.q (e := vIv) (gv := vIv) (ok_impl_AsinAt _) fun r5 _ => ?_
    refine Run.q (e := vIv) (gv := vIv) (ok_impl_HullI _ _) fun r6 _ => ?_
    exact Run.x 0

theorem ok_impl_SinhI_1 (a0 : I64) : Fun Tryz.prog 312 [] #[vI a0] (vIv (F_impl_SinhI_1 a0)) [] := by
  refine Fun.ofH 400 E_ok mixed Tryz.func312 (by kernel_rfl) (by kernel_rfl) ?_
  unfold F_impl_SinhI_1
  refine Run.q (e := vIv) (gv := vIv) (ok_impl_ExpAt _) fun r1 _ => ?_
  refine Run.q (e := vIv) (gv := vIv) (ok_impl_ExpAt _) fun r2 _ => ?_
  refine Run.q (e := vIv) (gv := vIv) (ok_impl_SubI _ _) fun r3 _ => ?_
  refine Run.q (e := vIv) (gv := vIv) (ok_impl_HalfI _) fun r4 _ => ?_
  exact Run.x 0

theorem ok_impl_monotonic__impl_SinhI_1 (a0 : Iv) : Fun Tryz.prog 250 [] #[vIv a0, .func (.func 312) #[] #[]] (vIv (F_impl_monotonic__impl_SinhI_1 a0)) [] := by
  refine Fun.ofH 400 E_ok mixed Tryz.func250 (by kernel_rfl) (by kernel_rfl) ?_
  unfold F_impl_monotonic__impl_SinhI_1
  refine Run.q (e := vB) (gv := vIv) (ok_impl_IsWhole _) fun r1 _ => ?_
  refine Run.y (gv := vIv) (fun _ => ?_) (fun _ => ?_)
  · refine Run.q (e := vIv) (gv := vIv) (ok_impl_Whole) fun r2 _ => ?_
    exact Run.x 0
  · refine Run.q (e := vIv) (gv := vIv) (ok_impl_SinhI_1 _) fun r3 _ => ?_
    refine Run.q (e := vIv) (gv := vIv) (ok_impl_SinhI_1 _) fun r4 _ => ?_
    refine Run.q (e := vB) (gv := vIv) (ok_impl_areBounded _ _) fun r5 _ => ?_
    refine Run.y (gv := vIv) (fun _ => ?_) (fun _ => ?_)
    · refine Run.q (e := vIv) (gv := vIv) (ok_impl_Whole) fun r6 _ => ?_
      exact Run.x 0
    · refine Run.q (e := vIv) (gv := vIv) (ok_impl_bounded _ _ _) fun r7 _ => ?_
      exact Run.x 0

theorem ok_impl_SinhI (a0 : Iv) : Fun Tryz.prog 226 [] #[vIv a0] (vIv (F_impl_SinhI a0)) [] := by
  refine Fun.ofH 400 E_ok mixed Tryz.func226 (by kernel_rfl) (by kernel_rfl) ?_
  unfold F_impl_SinhI
  refine Run.q (e := vIv) (gv := vIv) (ok_impl_monotonic__impl_SinhI_1 _) fun r1 _ => ?_
  exact Run.x 0

theorem ok_impl_conic_inverseLat__pCn (b0 : Cn) (a0 : Iv) : Fun Tryz.prog 107 [(#[.int .i64 b0.p.kind.val, .int .i64 b0.p.lat0.val, .int .i64 b0.p.lon0.val, .int .i64 b0.p.lat1.val, .int .i64 b0.p.lat2.val, .int .i64 b0.a.lo.val, .int .i64 b0.a.hi.val, .int .i64 b0.b.lo.val, .int .i64 b0.b.hi.val, .int .i64 b0.o.lo.val, .int .i64 b0.o.hi.val, .int .i64 b0.n.lo.val, .int .i64 b0.n.hi.val, .int .i64 b0.g.lo.val, .int .i64 b0.g.hi.val], 87)] #[.pointer (some ⟨0, 0, none⟩), vIv a0] (vT_Iv_B (F_impl_conic_inverseLat__pCn b0 a0)) [(#[.int .i64 b0.p.kind.val, .int .i64 b0.p.lat0.val, .int .i64 b0.p.lon0.val, .int .i64 b0.p.lat1.val, .int .i64 b0.p.lat2.val, .int .i64 b0.a.lo.val, .int .i64 b0.a.hi.val, .int .i64 b0.b.lo.val, .int .i64 b0.b.hi.val, .int .i64 b0.o.lo.val, .int .i64 b0.o.hi.val, .int .i64 b0.n.lo.val, .int .i64 b0.n.hi.val, .int .i64 b0.g.lo.val, .int .i64 b0.g.hi.val], 87)] := by
  refine Fun.ofH 400 E_ok mixed Tryz.func107 (by kernel_rfl) (by kernel_rfl) ?_
  unfold F_impl_conic_inverseLat__pCn
  refine Run.y (gv := vT_Iv_B) (fun _ => ?_) (fun _ => ?_)
  · refine Run.q (e := vIv) (gv := vT_Iv_B) (ok_impl_MulI _ _) fun r1 _ => ?_
    refine Run.q (e := vIv) (gv := vT_Iv_B) (ok_impl_SqrI _) fun r2 _ => ?_
    refine Run.q (e := vIv) (gv := vT_Iv_B) (ok_impl_SubI _ _) fun r3 _ => ?_
    refine Run.q (e := vIv) (gv := vT_Iv_B) (ok_impl_times _ _) fun r4 _ => ?_
    refine Run.q (e := vIv) (gv := vT_Iv_B) (ok_impl_DivI _ _) fun r5 _ => ?_
    refine Run.q (e := vIv) (gv := vT_Iv_B) (ok_impl_AsinI _) fun r6 _ => ?_
    refine Run.q (e := vIv) (gv := vT_Iv_B) (ok_impl_ring) fun r7 _ => ?_
    refine Run.q (e := vB) (gv := vT_Iv_B) (ok_impl_OverlapI _ _) fun r8 _ => ?_
    exact Run.x 1
  · refine Run.y (gv := vT_Iv_B) (fun _ => ?_) (fun _ => ?_)
    · refine Run.q (e := vIv) (gv := vT_Iv_B) (ok_impl_DivI _ _) fun r9 _ => ?_
      refine Run.q (e := vIv) (gv := vT_Iv_B) (ok_impl_LogI _) fun r10 _ => ?_
      refine Run.q (e := vIv) (gv := vT_Iv_B) (ok_impl_DivI _ _) fun r11 _ => ?_
      refine Run.q (e := vIv) (gv := vT_Iv_B) (ok_impl_SinhI _) fun r12 _ => ?_
      refine Run.q (e := vIv) (gv := vT_Iv_B) (ok_impl_AtanI _) fun r13 _ => ?_
      exact Run.x 1
    · refine Run.q (e := vIv) (gv := vT_Iv_B) (ok_impl_SubI _ _) fun r14 _ => ?_
      exact Run.x 1

theorem ok_impl_overlapsAny (a0 : Iv) (a1 : I64) : Fun Tryz.prog 228 [] #[vIv a0, vI a1] (vB (F_impl_overlapsAny a0 a1)) [] := by
  refine Fun.ofH 400 E_ok mixed Tryz.func228 (by kernel_rfl) (by kernel_rfl) ?_
  unfold F_impl_overlapsAny
  refine Run.q (e := vB) (gv := vB) (ok_impl_OverlapI _ _) fun r1 _ => ?_
  exact Run.x 0

theorem ok_impl_pair (a0 : Iv) (a1 : Iv) : Fun Tryz.prog 231 [] #[vIv a0, vIv a1] (vT_Iv_Iv_I (F_impl_pair a0 a1)) [] := by
  refine Fun.ofH 400 E_ok mixed Tryz.func231 (by kernel_rfl) (by kernel_rfl) ?_
  unfold F_impl_pair
  refine Run.q (e := vB) (gv := vT_Iv_Iv_I) (ok_impl_areBounded _ _) fun r1 _ => ?_
  refine Run.y (gv := vT_Iv_Iv_I) (fun _ => ?_) (fun _ => ?_)
  · exact Run.x 0
  · exact Run.x 0

theorem ok_impl_onEarth (a0 : Iv) (a1 : Iv) (a2 : I64) : Fun Tryz.prog 108 [] #[vIv a0, vIv a1, vI a2] (vT_Iv_Iv_I (F_impl_onEarth a0 a1 a2)) [] := by
  refine Fun.ofH 400 E_ok mixed Tryz.func108 (by kernel_rfl) (by kernel_rfl) ?_
  unfold F_impl_onEarth
  refine Run.q (e := vI) (gv := vT_Iv_Iv_I) (ok_impl_quarter) fun r1 _ => ?_
  refine Run.q (e := vB) (gv := vT_Iv_Iv_I) (ok_impl_overlapsAny _ _) fun r2 _ => ?_
  refine Run.y (gv := vT_Iv_Iv_I) (fun _ => ?_) (fun _ => ?_)
  · refine Run.z [true, true, true, true, true, true] ?_
    exact Run.x 0
  · refine Run.z [false] ?_
    refine Run.q (e := vIv) (gv := vT_Iv_Iv_I) (ok_impl_TurnI _) fun r3 _ => ?_
    refine Run.z [false, false] ?_
    refine Run.q (e := vB) (gv := vT_Iv_Iv_I) (ok_impl_overlapsAny _ _) fun r4 _ => ?_
    refine Run.z [false, false] ?_
    refine Run.y (gv := vT_Iv_Iv_I) (fun _ => ?_) (fun _ => ?_)
    · exact Run.x 0
    · refine Run.q (e := vIv) (gv := vT_Iv_Iv_I) (ok_impl_RadiansOf _) fun r5 _ => ?_
      refine Run.q (e := vIv) (gv := vT_Iv_Iv_I) (ok_impl_AddI _ _) fun r6 _ => ?_
      refine Run.q (e := vT_Iv_Iv_I) (gv := vT_Iv_Iv_I) (ok_impl_pair _ _) fun r7 _ => ?_
      exact Run.x 0

theorem ok_impl_ConicInverse (a0 : Pj) (a1 : Pn) : Fun Tryz.prog 26 [] #[vPj a0, vPn a1] (vT_Iv_Iv_I (F_impl_ConicInverse a0 a1)) [] := by
  refine Fun.ofH 400 E_ok mixed Tryz.func26 (by kernel_rfl) (by kernel_rfl) ?_
  unfold F_impl_ConicInverse
  refine Run.bmb (nn := fun r : Cn × I64 => (r.2.val != 0)) (cl := fun r : Cn × I64 => (vCn r.1).cells) (gv := vT_Iv_Iv_I) (by kernel_rfl) (by kernel_rfl) (ok_impl_newConic _) (by kernel_rfl) (fun _ => rfl) (fun r1 hr1 => ?_) (fun r1 hr1 => ?_)
  · refine Run.z [true] ?_
    exact Run.x 0
  · refine Run.z [false] ?_
    refine Run.w (e := vIv) (gv := vT_Iv_Iv_I) [4] (ok_impl_conic_radius__pCn _ _) fun r2 hr2 => ?_
    refine Run.q (e := vIv) (gv := vT_Iv_Iv_I) (ok_impl_SubI _ _) fun r3 hr3 => ?_
    refine Run.q (e := vIv) (gv := vT_Iv_Iv_I) (ok_impl_SqrI _) fun r4 hr4 => ?_
    refine Run.q (e := vIv) (gv := vT_Iv_Iv_I) (ok_impl_SqrI _) fun r5 hr5 => ?_
    refine Run.q (e := vIv) (gv := vT_Iv_Iv_I) (ok_impl_AddI _ _) fun r6 hr6 => ?_
    refine Run.q (e := vIv) (gv := vT_Iv_Iv_I) (ok_impl_SqrtI _) fun r7 hr7 => ?_
    refine Run.q (e := vIv) (gv := vT_Iv_Iv_I) (ok_impl_DirectionI _ _) fun r8 hr8 => ?_
    refine Run.y (gv := vT_Iv_Iv_I) (fun h9 => ?_) (fun h9 => ?_)
    · refine Run.q (e := vIv) (gv := vT_Iv_Iv_I) (ok_impl_NegI _) fun r10 hr10 => ?_
      refine Run.q (e := vIv) (gv := vT_Iv_Iv_I) (ok_impl_NegI _) fun r11 hr11 => ?_
      refine Run.q (e := vIv) (gv := vT_Iv_Iv_I) (ok_impl_NegI _) fun r12 hr12 => ?_
      refine Run.q (e := vIv) (gv := vT_Iv_Iv_I) (ok_impl_DirectionI _ _) fun r13 hr13 => ?_
      refine Run.w (e := vT_Iv_B) (gv := vT_Iv_Iv_I) [4] (ok_impl_conic_inverseLat__pCn _ _) fun r14 hr14 => ?_
      refine Run.y (gv := vT_Iv_Iv_I) (fun h15 => ?_) (fun h15 => ?_)
      · exact Run.x 0
      · refine Run.q (e := vIv) (gv := vT_Iv_Iv_I) (ok_impl_DivI _ _) fun r16 hr16 => ?_
        refine Run.q (e := vT_Iv_Iv_I) (gv := vT_Iv_Iv_I) (ok_impl_onEarth _ _ _) fun r17 hr17 => ?_
        exact Run.x 0
    · refine Run.w (e := vT_Iv_B) (gv := vT_Iv_Iv_I) [4] (ok_impl_conic_inverseLat__pCn _ _) fun r18 hr18 => ?_
      refine Run.y (gv := vT_Iv_Iv_I) (fun h19 => ?_) (fun h19 => ?_)
      · exact Run.x 0
      · refine Run.q (e := vIv) (gv := vT_Iv_Iv_I) (ok_impl_DivI _ _) fun r20 hr20 => ?_
        refine Run.q (e := vT_Iv_Iv_I) (gv := vT_Iv_Iv_I) (ok_impl_onEarth _ _ _) fun r21 hr21 => ?_
        exact Run.x 0

theorem ok_laws_FnExactConicInverse (a0 : Pj) (a1 : Pn) : Fun Tryz.prog 7 [] #[vPj a0, vPn a1] (vB (F_laws_FnExactConicInverse a0 a1)) [] := by
  refine Fun.ofH 400 E_ok mixed Tryz.func7 (by kernel_rfl) (by kernel_rfl) ?_
  unfold F_laws_FnExactConicInverse
  refine Run.q (e := vPj) (gv := vB) (ok_laws_toProjection _) fun r1 _ => ?_
  refine Run.q (e := vPn) (gv := vB) (ok_laws_toPlanar _) fun r2 _ => ?_
  refine Run.q (e := vT_Iv_Iv_I) (gv := vB) (ok_spec_ConicInverse _ _) fun r3 _ => ?_
  refine Run.q (e := vPj) (gv := vB) (ok_laws_toProjection _) fun r4 _ => ?_
  refine Run.q (e := vPn) (gv := vB) (ok_laws_toPlanar _) fun r5 _ => ?_
  refine Run.q (e := vT_Iv_Iv_I) (gv := vB) (ok_impl_ConicInverse _ _) fun r6 _ => ?_
  refine Run.q (e := vB) (gv := vB) (ok_laws_eqInterval _ _) fun r7 _ => ?_
  refine Run.y (gv := vB) (fun _ => ?_) (fun _ => ?_)
  · refine Run.z [true, true, true, true, true, true, true, true, true] ?_
    exact Run.x 0
  · refine Run.z [false, false] ?_
    refine Run.q (e := vB) (gv := vB) (ok_laws_eqInterval _ _) fun r8 _ => ?_
    refine Run.z [false, false] ?_
    refine Run.y (gv := vB) (fun _ => ?_) (fun _ => ?_)
    · refine Run.z [true, true, true, true] ?_
      exact Run.x 0
    · refine Run.z [false, false, false] ?_
      refine Run.y (gv := vB) (fun _ => ?_) (fun _ => ?_)
      · exact Run.x 0
      · exact Run.x 0

theorem ok_spec_l22Family (a0 : I64) : Fun Tryz.prog 234 [] #[vI a0] (vI (F_spec_l22Family a0)) [] := by
  refine Fun.ofH 400 E_ok mixed Tryz.func234 (by kernel_rfl) (by kernel_rfl) ?_
  unfold F_spec_l22Family
  refine Run.q (e := vB) (gv := vI) (ok_spec_l00In _ _ _) fun r1 _ => ?_
  refine Run.y (gv := vI) (fun _ => ?_) (fun _ => ?_)
  · exact Run.x 0
  · refine Run.q (e := vB) (gv := vI) (ok_spec_l00In _ _ _) fun r2 _ => ?_
    refine Run.y (gv := vI) (fun _ => ?_) (fun _ => ?_)
    · exact Run.x 0
    · refine Run.q (e := vB) (gv := vI) (ok_spec_l00In _ _ _) fun r3 _ => ?_
      refine Run.y (gv := vI) (fun _ => ?_) (fun _ => ?_)
      · exact Run.x 0
      · refine Run.q (e := vB) (gv := vI) (ok_spec_l00In _ _ _) fun r4 _ => ?_
        refine Run.y (gv := vI) (fun _ => ?_) (fun _ => ?_)
        · exact Run.x 0
        · refine Run.y (gv := vI) (fun _ => ?_) (fun _ => ?_)
          · exact Run.x 0
          · exact Run.x 0

theorem ok_spec_l17Cylinder (a0 : Pj) : Fun Tryz.prog 314 [] #[vPj a0] (vB (F_spec_l17Cylinder a0)) [] := by
  refine Fun.ofH 400 E_ok mixed Tryz.func314 (by kernel_rfl) (by kernel_rfl) ?_
  unfold F_spec_l17Cylinder
  refine Run.q (e := vB) (gv := vB) (ok_spec_l17Ok _) fun r1 _ => ?_
  refine Run.y (gv := vB) (fun _ => ?_) (fun _ => ?_)
  · refine Run.z [true, true] ?_
    refine Run.q (e := vB) (gv := vB) (ok_spec_l00In _ _ _) fun r2 _ => ?_
    refine Run.z [true] ?_
    exact Run.x 0
  · refine Run.z [false, false, false] ?_
    exact Run.x 0

theorem ok_spec_l17Scales (a0 : Iv) (a1 : Iv) : Fun Tryz.prog 239 [] #[vIv a0, vIv a1] (vT_Iv_Iv_I (F_spec_l17Scales a0 a1)) [] := by
  refine Fun.ofH 400 E_ok mixed Tryz.func239 (by kernel_rfl) (by kernel_rfl) ?_
  unfold F_spec_l17Scales
  refine Run.q (e := vB) (gv := vT_Iv_Iv_I) (ok_spec_l04Ok _) fun r1 _ => ?_
  refine Run.y (gv := vT_Iv_Iv_I) (fun _ => ?_) (fun _ => ?_)
  · refine Run.z [true, true, true, true] ?_
    exact Run.x 0
  · refine Run.z [false] ?_
    refine Run.q (e := vB) (gv := vT_Iv_Iv_I) (ok_spec_l04Ok _) fun r2 _ => ?_
    refine Run.z [false, false] ?_
    refine Run.y (gv := vT_Iv_Iv_I) (fun _ => ?_) (fun _ => ?_)
    · exact Run.x 0
    · exact Run.x 0

theorem ok_spec_CylinderScales (a0 : Pj) (a1 : Pt) : Fun Tryz.prog 235 [] #[vPj a0, vPt a1] (vT_Iv_Iv_I (F_spec_CylinderScales a0 a1)) [] := by
  refine Fun.ofH 400 E_ok mixed Tryz.func235 (by kernel_rfl) (by kernel_rfl) ?_
  unfold F_spec_CylinderScales
  refine Run.q (e := vB) (gv := vT_Iv_Iv_I) (ok_spec_l17Cylinder _) fun r1 _ => ?_
  refine Run.y (gv := vT_Iv_Iv_I) (fun _ => ?_) (fun _ => ?_)
  · refine Run.z [true, true, true, true] ?_
    exact Run.x 0
  · refine Run.z [false] ?_
    refine Run.q (e := vB) (gv := vT_Iv_Iv_I) (ok_spec_l11Ok _) fun r2 _ => ?_
    refine Run.z [false, false] ?_
    refine Run.y (gv := vT_Iv_Iv_I) (fun _ => ?_) (fun _ => ?_)
    · exact Run.x 0
    · refine Run.q (e := vB) (gv := vT_Iv_Iv_I) (ok_spec_l11Pole _) fun r3 _ => ?_
      refine Run.y (gv := vT_Iv_Iv_I) (fun _ => ?_) (fun _ => ?_)
      · exact Run.x 0
      · refine Run.q (e := vIv) (gv := vT_Iv_Iv_I) (ok_spec_RadiansOf _) fun r4 _ => ?_
        refine Run.q (e := vIv) (gv := vT_Iv_Iv_I) (ok_spec_CosI _) fun r5 _ => ?_
        refine Run.q (e := vIv) (gv := vT_Iv_Iv_I) (ok_spec_LatOf _) fun r6 _ => ?_
        refine Run.q (e := vIv) (gv := vT_Iv_Iv_I) (ok_spec_CosI _) fun r7 _ => ?_
        refine Run.y (gv := vT_Iv_Iv_I) (fun _ => ?_) (fun _ => ?_)
        · refine Run.q (e := vIv) (gv := vT_Iv_Iv_I) (ok_spec_Integer _) fun r8 _ => ?_
          refine Run.q (e := vIv) (gv := vT_Iv_Iv_I) (ok_spec_DivI _ _) fun r9 _ => ?_
          refine Run.q (e := vT_Iv_Iv_I) (gv := vT_Iv_Iv_I) (ok_spec_l17Scales _ _) fun r10 _ => ?_
          exact Run.x 0
        · refine Run.y (gv := vT_Iv_Iv_I) (fun _ => ?_) (fun _ => ?_)
          · refine Run.q (e := vIv) (gv := vT_Iv_Iv_I) (ok_spec_Integer _) fun r11 _ => ?_
            refine Run.q (e := vIv) (gv := vT_Iv_Iv_I) (ok_spec_DivI _ _) fun r12 _ => ?_
            refine Run.q (e := vIv) (gv := vT_Iv_Iv_I) (ok_spec_Integer _) fun r13 _ => ?_
            refine Run.q (e := vIv) (gv := vT_Iv_Iv_I) (ok_spec_DivI _ _) fun r14 _ => ?_
            refine Run.q (e := vT_Iv_Iv_I) (gv := vT_Iv_Iv_I) (ok_spec_l17Scales _ _) fun r15 _ => ?_
            exact Run.x 0
          · refine Run.y (gv := vT_Iv_Iv_I) (fun _ => ?_) (fun _ => ?_)
            · refine Run.q (e := vIv) (gv := vT_Iv_Iv_I) (ok_spec_DivI _ _) fun r16 _ => ?_
              refine Run.q (e := vIv) (gv := vT_Iv_Iv_I) (ok_spec_DivI _ _) fun r17 _ => ?_
              refine Run.q (e := vT_Iv_Iv_I) (gv := vT_Iv_Iv_I) (ok_spec_l17Scales _ _) fun r18 _ => ?_
              exact Run.x 0
            · refine Run.q (e := vIv) (gv := vT_Iv_Iv_I) (ok_spec_Integer _) fun r19 _ => ?_
              refine Run.q (e := vIv) (gv := vT_Iv_Iv_I) (ok_spec_Quotient _ _) fun r20 _ => ?_
              refine Run.q (e := vIv) (gv := vT_Iv_Iv_I) (ok_spec_LatOf _) fun r21 _ => ?_
              refine Run.q (e := vIv) (gv := vT_Iv_Iv_I) (ok_spec_MulI _ _) fun r22 _ => ?_
              refine Run.q (e := vIv) (gv := vT_Iv_Iv_I) (ok_spec_CosI _) fun r23 _ => ?_
              refine Run.q (e := vIv) (gv := vT_Iv_Iv_I) (ok_spec_DivI _ _) fun r24 _ => ?_
              refine Run.q (e := vIv) (gv := vT_Iv_Iv_I) (ok_spec_Integer _) fun r25 _ => ?_
              refine Run.q (e := vIv) (gv := vT_Iv_Iv_I) (ok_spec_DivI _ _) fun r26 _ => ?_
              refine Run.q (e := vT_Iv_Iv_I) (gv := vT_Iv_Iv_I) (ok_spec_l17Scales _ _) fun r27 _ => ?_
              exact Run.x 0

theorem ok_spec_SamePlace (a0 : Pt) (a1 : Pt) : Fun Tryz.prog 373 [] #[vPt a0, vPt a1] (vT_B_I (F_spec_SamePlace a0 a1)) [] := by
  refine Fun.ofH 400 E_ok mixed Tryz.func373 (by kernel_rfl) (by kernel_rfl) ?_
  unfold F_spec_SamePlace
  refine Run.q (e := vB) (gv := vT_B_I) (ok_spec_l11Ok _) fun r1 _ => ?_
  refine Run.y (gv := vT_B_I) (fun _ => ?_) (fun _ => ?_)
  · refine Run.z [true, true, true, true] ?_
    exact Run.x 0
  · refine Run.z [false] ?_
    refine Run.q (e := vB) (gv := vT_B_I) (ok_spec_l11Ok _) fun r2 _ => ?_
    refine Run.z [false, false] ?_
    refine Run.y (gv := vT_B_I) (fun _ => ?_) (fun _ => ?_)
    · exact Run.x 0
    · refine Run.y (gv := vT_B_I) (fun _ => ?_) (fun _ => ?_)
      · refine Run.z [true, true, true, true, true, true, true] ?_
        exact Run.x 0
      · refine Run.z [false, false, false, false, false] ?_
        refine Run.y (gv := vT_B_I) (fun _ => ?_) (fun _ => ?_)
        · refine Run.z [true] ?_
          refine Run.q (e := vB) (gv := vT_B_I) (ok_spec_l11Pole _) fun r3 _ => ?_
          refine Run.z [false, true, false] ?_
          exact Run.x 0
        · refine Run.z [false, false, false, false] ?_
          exact Run.x 0

theorem ok_spec_l18Local__pPj (b0 : Pj) (a0 : Pt) : Fun Tryz.prog 374 [(#[.int .i64 b0.kind.val, .int .i64 b0.lat0.val, .int .i64 b0.lon0.val, .int .i64 b0.lat1.val, .int .i64 b0.lat2.val], 38)] #[.pointer (some ⟨0, 0, none⟩), vPt a0] (vVc (F_spec_l18Local__pPj b0 a0)) [(#[.int .i64 b0.kind.val, .int .i64 b0.lat0.val, .int .i64 b0.lon0.val, .int .i64 b0.lat1.val, .int .i64 b0.lat2.val], 38)] := by
  refine Fun.ofH 400 E_ok mixed Tryz.func374 (by kernel_rfl) (by kernel_rfl) ?_
  unfold F_spec_l18Local__pPj
  refine Run.q (e := vIv) (gv := vVc) (ok_spec_RadiansOf _) fun r1 _ => ?_
  refine Run.q (e := vIv) (gv := vVc) (ok_spec_RadiansOf _) fun r2 _ => ?_
  refine Run.q (e := vI) (gv := vVc) (ok_spec_l11Wrap _) fun r3 _ => ?_
  refine Run.q (e := vIv) (gv := vVc) (ok_spec_RadiansOf _) fun r4 _ => ?_
  refine Run.q (e := vIv) (gv := vVc) (ok_spec_CosI _) fun r5 _ => ?_
  refine Run.q (e := vIv) (gv := vVc) (ok_spec_SinI _) fun r6 _ => ?_
  refine Run.q (e := vIv) (gv := vVc) (ok_spec_MulI _ _) fun r7 _ => ?_
  refine Run.q (e := vIv) (gv := vVc) (ok_spec_CosI _) fun r8 _ => ?_
  refine Run.q (e := vIv) (gv := vVc) (ok_spec_SinI _) fun r9 _ => ?_
  refine Run.q (e := vIv) (gv := vVc) (ok_spec_MulI _ _) fun r10 _ => ?_
  refine Run.q (e := vIv) (gv := vVc) (ok_spec_SinI _) fun r11 _ => ?_
  refine Run.q (e := vIv) (gv := vVc) (ok_spec_CosI _) fun r12 _ => ?_
  refine Run.q (e := vIv) (gv := vVc) (ok_spec_MulI _ _) fun r13 _ => ?_
  refine Run.q (e := vIv) (gv := vVc) (ok_spec_CosI _) fun r14 _ => ?_
  refine Run.q (e := vIv) (gv := vVc) (ok_spec_MulI _ _) fun r15 _ => ?_
  refine Run.q (e := vIv) (gv := vVc) (ok_spec_SubI _ _) fun r16 _ => ?_
  refine Run.q (e := vIv) (gv := vVc) (ok_spec_SinI _) fun r17 _ => ?_
  refine Run.q (e := vIv) (gv := vVc) (ok_spec_SinI _) fun r18 _ => ?_
  refine Run.q (e := vIv) (gv := vVc) (ok_spec_MulI _ _) fun r19 _ => ?_
  refine Run.q (e := vIv) (gv := vVc) (ok_spec_CosI _) fun r20 _ => ?_
  refine Run.q (e := vIv) (gv := vVc) (ok_spec_CosI _) fun r21 _ => ?_
  refine Run.q (e := vIv) (gv := vVc) (ok_spec_MulI _ _) fun r22 _ => ?_
  refine Run.q (e := vIv) (gv := vVc) (ok_spec_CosI _) fun r23 _ => ?_
  refine Run.q (e := vIv) (gv := vVc) (ok_spec_MulI _ _) fun r24 _ => ?_
  refine Run.q (e := vIv) (gv := vVc) (ok_spec_AddI _ _) fun r25 _ => ?_
  exact Run.x 1

theorem ok_spec_l18Factor (a0 : I64) (a1 : Vc) : Fun Tryz.prog 375 [] #[vI a0, vVc a1] (vT_Iv_I (F_spec_l18Factor a0 a1)) [] := by
  refine Fun.ofH 400 E_ok mixed Tryz.func375 (by kernel_rfl) (by kernel_rfl) ?_
  unfold F_spec_l18Factor
  refine Run.q (e := vIv) (gv := vT_Iv_I) (ok_spec_Integer _) fun r1 _ => ?_
  refine Run.q (e := vIv) (gv := vT_Iv_I) (ok_spec_Integer _) fun r2 _ => ?_
  refine Run.y (gv := vT_Iv_I) (fun _ => ?_) (fun _ => ?_)
  · refine Run.q (e := vI) (gv := vT_Iv_I) (ok_spec_LessI _ _) fun r3 _ => ?_
    refine Run.y (gv := vT_Iv_I) (fun _ => ?_) (fun _ => ?_)
    · exact Run.x 0
    · refine Run.q (e := vIv) (gv := vT_Iv_I) (ok_spec_DivI _ _) fun r4 _ => ?_
      exact Run.x 0
  · refine Run.y (gv := vT_Iv_I) (fun _ => ?_) (fun _ => ?_)
    · refine Run.q (e := vIv) (gv := vT_Iv_I) (ok_spec_Integer _) fun r5 _ => ?_
      refine Run.q (e := vIv) (gv := vT_Iv_I) (ok_spec_AddI _ _) fun r6 _ => ?_
      refine Run.q (e := vIv) (gv := vT_Iv_I) (ok_spec_DivI _ _) fun r7 _ => ?_
      exact Run.x 0
    · refine Run.y (gv := vT_Iv_I) (fun _ => ?_) (fun _ => ?_)
      · refine Run.q (e := vI) (gv := vT_Iv_I) (ok_spec_LessI _ _) fun r8 _ => ?_
        refine Run.y (gv := vT_Iv_I) (fun _ => ?_) (fun _ => ?_)
        · exact Run.x 0
        · refine Run.y (gv := vT_Iv_I) (fun _ => ?_) (fun _ => ?_)
          · refine Run.q (e := vIv) (gv := vT_Iv_I) (ok_spec_Whole) fun r9 _ => ?_
            exact Run.x 0
          · exact Run.x 0
      · refine Run.y (gv := vT_Iv_I) (fun _ => ?_) (fun _ => ?_)
        · refine Run.q (e := vIv) (gv := vT_Iv_I) (ok_spec_l15Flat _) fun r10 _ => ?_
          refine Run.y (gv := vT_Iv_I) (fun _ => ?_) (fun _ => ?_)
          · refine Run.q (e := vIv) (gv := vT_Iv_I) (ok_spec_DirectionI _ _) fun r11 _ => ?_
            refine Run.q (e := vIv) (gv := vT_Iv_I) (ok_spec_DivI _ _) fun r12 _ => ?_
            exact Run.x 0
          · refine Run.q (e := vIv) (gv := vT_Iv_I) (ok_spec_DivI _ _) fun r13 _ => ?_
            refine Run.q (e := vIv) (gv := vT_Iv_I) (ok_spec_HullI _ _) fun r14 _ => ?_
            exact Run.x 0
        · refine Run.q (e := vIv) (gv := vT_Iv_I) (ok_spec_Integer _) fun r15 _ => ?_
          refine Run.q (e := vIv) (gv := vT_Iv_I) (ok_spec_AddI _ _) fun r16 _ => ?_
          refine Run.q (e := vIv) (gv := vT_Iv_I) (ok_spec_DivI _ _) fun r17 _ => ?_
          refine Run.q (e := vIv) (gv := vT_Iv_I) (ok_spec_SqrtI _) fun r18 _ => ?_
          exact Run.x 0

theorem ok_spec_AzimuthalForward (a0 : Pj) (a1 : Pt) : Fun Tryz.prog 315 [] #[vPj a0, vPt a1] (vT_Pn_I (F_spec_AzimuthalForward a0 a1)) [] := by
  refine Fun.ofH 400 E_ok mixed Tryz.func315 (by kernel_rfl) (by kernel_rfl) ?_
  unfold F_spec_AzimuthalForward
  refine Run.w (e := vB) (gv := vT_Pn_I) [0] (ok_spec_l18Ok__pPj _) fun r1 _ => ?_
  refine Run.y (gv := vT_Pn_I) (fun _ => ?_) (fun _ => ?_)
  · refine Run.z [true, true, true, true] ?_
    exact Run.x 0
  · refine Run.z [false] ?_
    refine Run.q (e := vB) (gv := vT_Pn_I) (ok_spec_l11Ok _) fun r2 _ => ?_
    refine Run.z [false, false] ?_
    refine Run.y (gv := vT_Pn_I) (fun _ => ?_) (fun _ => ?_)
    · exact Run.x 0
    · refine Run.q (e := vI) (gv := vT_Pn_I) (ok_spec_l11Wrap _) fun r3 _ => ?_
      refine Run.q (e := vT_B_I) (gv := vT_Pn_I) (ok_spec_SamePlace _ _) fun r4 _ => ?_
      refine Run.y (gv := vT_Pn_I) (fun _ => ?_) (fun _ => ?_)
      · exact Run.x 0
      · refine Run.w (e := vVc) (gv := vT_Pn_I) [0] (ok_spec_l18Local__pPj _ _) fun r5 _ => ?_
        refine Run.q (e := vT_Iv_I) (gv := vT_Pn_I) (ok_spec_l18Factor _ _) fun r6 _ => ?_
        refine Run.y (gv := vT_Pn_I) (fun _ => ?_) (fun _ => ?_)
        · exact Run.x 0
        · refine Run.q (e := vIv) (gv := vT_Pn_I) (ok_spec_MulI _ _) fun r7 _ => ?_
          refine Run.q (e := vIv) (gv := vT_Pn_I) (ok_spec_MulI _ _) fun r8 _ => ?_
          refine Run.q (e := vB) (gv := vT_Pn_I) (ok_spec_IsWhole _) fun r9 _ => ?_
          refine Run.y (gv := vT_Pn_I) (fun _ => ?_) (fun _ => ?_)
          · refine Run.z [true, true, true, true] ?_
            exact Run.x 0
          · refine Run.z [false, false] ?_
            refine Run.q (e := vB) (gv := vT_Pn_I) (ok_spec_IsWhole _) fun r10 _ => ?_
            refine Run.z [false] ?_
            refine Run.y (gv := vT_Pn_I) (fun _ => ?_) (fun _ => ?_)
            · exact Run.x 0
            · exact Run.x 0

theorem ok_spec_l15Vec (a0 : Pt) : Fun Tryz.prog 377 [] #[vPt a0] (vVc (F_spec_l15Vec a0)) [] := by
  refine Fun.ofH 400 E_ok mixed Tryz.func377 (by kernel_rfl) (by kernel_rfl) ?_
  unfold F_spec_l15Vec
  refine Run.q (e := vIv) (gv := vVc) (ok_spec_RadiansOf _) fun r1 _ => ?_
  refine Run.q (e := vIv) (gv := vVc) (ok_spec_RadiansOf _) fun r2 _ => ?_
  refine Run.q (e := vIv) (gv := vVc) (ok_spec_CosI _) fun r3 _ => ?_
  refine Run.q (e := vIv) (gv := vVc) (ok_spec_CosI _) fun r4 _ => ?_
  refine Run.q (e := vIv) (gv := vVc) (ok_spec_MulI _ _) fun r5 _ => ?_
  refine Run.q (e := vIv) (gv := vVc) (ok_spec_SinI _) fun r6 _ => ?_
  refine Run.q (e := vIv) (gv := vVc) (ok_spec_MulI _ _) fun r7 _ => ?_
  refine Run.q (e := vIv) (gv := vVc) (ok_spec_SinI _) fun r8 _ => ?_
  exact Run.x 0

theorem ok_spec_CrossV (a0 : Vc) (a1 : Vc) : Fun Tryz.prog 392 [] #[vVc a0, vVc a1] (vVc (F_spec_CrossV a0 a1)) [] := by
  refine Fun.ofH 400 E_ok mixed Tryz.func392 (by kernel_rfl) (by kernel_rfl) ?_
  unfold F_spec_CrossV
  refine Run.q (e := vIv) (gv := vVc) (ok_spec_MulI _ _) fun r1 _ => ?_
  refine Run.q (e := vIv) (gv := vVc) (ok_spec_MulI _ _) fun r2 _ => ?_
  refine Run.q (e := vIv) (gv := vVc) (ok_spec_SubI _ _) fun r3 _ => ?_
  refine Run.q (e := vIv) (gv := vVc) (ok_spec_MulI _ _) fun r4 _ => ?_
  refine Run.q (e := vIv) (gv := vVc) (ok_spec_MulI _ _) fun r5 _ => ?_
  refine Run.q (e := vIv) (gv := vVc) (ok_spec_SubI _ _) fun r6 _ => ?_
  refine Run.q (e := vIv) (gv := vVc) (ok_spec_MulI _ _) fun r7 _ => ?_
  refine Run.q (e := vIv) (gv := vVc) (ok_spec_MulI _ _) fun r8 _ => ?_
  refine Run.q (e := vIv) (gv := vVc) (ok_spec_SubI _ _) fun r9 _ => ?_
  exact Run.x 0

theorem ok_spec_l15Angle (a0 : Vc) (a1 : Vc) : Fun Tryz.prog 376 [] #[vVc a0, vVc a1] (vIv (F_spec_l15Angle a0 a1)) [] := by
  refine Fun.ofH 400 E_ok mixed Tryz.func376 (by kernel_rfl) (by kernel_rfl) ?_
  unfold F_spec_l15Angle
  refine Run.q (e := vVc) (gv := vIv) (ok_spec_CrossV _ _) fun r1 _ => ?_
  refine Run.q (e := vIv) (gv := vIv) (ok_spec_NormV _) fun r2 _ => ?_
  refine Run.q (e := vIv) (gv := vIv) (ok_spec_DotV _ _) fun r3 _ => ?_
  refine Run.q (e := vIv) (gv := vIv) (ok_spec_DirectionI _ _) fun r4 _ => ?_
  exact Run.x 0

theorem ok_spec_l15Known (a0 : Iv) : Fun Tryz.prog 319 [] #[vIv a0] (vT_Iv_I (F_spec_l15Known a0)) [] := by
  refine Fun.ofH 400 E_ok mixed Tryz.func319 (by kernel_rfl) (by kernel_rfl) ?_
  unfold F_spec_l15Known
  refine Run.q (e := vB) (gv := vT_Iv_I) (ok_spec_IsWhole _) fun r1 _ => ?_
  refine Run.y (gv := vT_Iv_I) (fun _ => ?_) (fun _ => ?_)
  · exact Run.x 0
  · exact Run.x 0

theorem ok_spec_AngleBetween (a0 : Pt) (a1 : Pt) : Fun Tryz.prog 316 [] #[vPt a0, vPt a1] (vT_Iv_I (F_spec_AngleBetween a0 a1)) [] := by
  refine Fun.ofH 400 E_ok mixed Tryz.func316 (by kernel_rfl) (by kernel_rfl) ?_
  unfold F_spec_AngleBetween
  refine Run.q (e := vB) (gv := vT_Iv_I) (ok_spec_l11Ok _) fun r1 _ => ?_
  refine Run.y (gv := vT_Iv_I) (fun _ => ?_) (fun _ => ?_)
  · refine Run.z [true, true, true, true] ?_
    exact Run.x 0
  · refine Run.z [false] ?_
    refine Run.q (e := vB) (gv := vT_Iv_I) (ok_spec_l11Ok _) fun r2 _ => ?_
    refine Run.z [false, false] ?_
    refine Run.y (gv := vT_Iv_I) (fun _ => ?_) (fun _ => ?_)
    · exact Run.x 0
    · refine Run.q (e := vVc) (gv := vT_Iv_I) (ok_spec_l15Vec _) fun r3 _ => ?_
      refine Run.q (e := vVc) (gv := vT_Iv_I) (ok_spec_l15Vec _) fun r4 _ => ?_
      refine Run.q (e := vIv) (gv := vT_Iv_I) (ok_spec_l15Angle _ _) fun r5 _ => ?_
      refine Run.q (e := vT_Iv_I) (gv := vT_Iv_I) (ok_spec_l15Known _) fun r6 _ => ?_
      exact Run.x 0

theorem ok_spec_l22Azimuthal (a0 : Pj) (a1 : Pt) : Fun Tryz.prog 236 [] #[vPj a0, vPt a1] (vT_Iv_Iv_I (F_spec_l22Azimuthal a0 a1)) [] := by
  refine Fun.ofH 400 E_ok mixed Tryz.func236 (by kernel_rfl) (by kernel_rfl) ?_
  unfold F_spec_l22Azimuthal
  refine Run.q (e := vT_Pn_I) (gv := vT_Iv_Iv_I) (ok_spec_AzimuthalForward _ _) fun r1 _ => ?_
  refine Run.y (gv := vT_Iv_Iv_I) (fun _ => ?_) (fun _ => ?_)
  · exact Run.x 0
  · refine Run.q (e := vT_Iv_I) (gv := vT_Iv_Iv_I) (ok_spec_AngleBetween _ _) fun r2 _ => ?_
    refine Run.y (gv := vT_Iv_Iv_I) (fun _ => ?_) (fun _ => ?_)
    · exact Run.x 0
    · refine Run.q (e := vIv) (gv := vT_Iv_Iv_I) (ok_spec_Integer _) fun r3 _ => ?_
      refine Run.q (e := vIv) (gv := vT_Iv_Iv_I) (ok_spec_CosI _) fun r4 _ => ?_
      refine Run.q (e := vIv) (gv := vT_Iv_Iv_I) (ok_spec_HalfI _) fun r5 _ => ?_
      refine Run.q (e := vIv) (gv := vT_Iv_Iv_I) (ok_spec_CosI _) fun r6 _ => ?_
      refine Run.y (gv := vT_Iv_Iv_I) (fun _ => ?_) (fun _ => ?_)
      · refine Run.q (e := vIv) (gv := vT_Iv_Iv_I) (ok_spec_SqrI _) fun r7 _ => ?_
        refine Run.q (e := vIv) (gv := vT_Iv_Iv_I) (ok_spec_DivI _ _) fun r8 _ => ?_
        refine Run.q (e := vIv) (gv := vT_Iv_Iv_I) (ok_spec_DivI _ _) fun r9 _ => ?_
        refine Run.q (e := vT_Iv_Iv_I) (gv := vT_Iv_Iv_I) (ok_spec_l17Scales _ _) fun r10 _ => ?_
        exact Run.x 0
      · refine Run.y (gv := vT_Iv_Iv_I) (fun _ => ?_) (fun _ => ?_)
        · refine Run.q (e := vIv) (gv := vT_Iv_Iv_I) (ok_spec_SqrI _) fun r11 _ => ?_
          refine Run.q (e := vIv) (gv := vT_Iv_Iv_I) (ok_spec_DivI _ _) fun r12 _ => ?_
          refine Run.q (e := vIv) (gv := vT_Iv_Iv_I) (ok_spec_SqrI _) fun r13 _ => ?_
          refine Run.q (e := vIv) (gv := vT_Iv_Iv_I) (ok_spec_DivI _ _) fun r14 _ => ?_
          refine Run.q (e := vT_Iv_Iv_I) (gv := vT_Iv_Iv_I) (ok_spec_l17Scales _ _) fun r15 _ => ?_
          exact Run.x 0
        · refine Run.y (gv := vT_Iv_Iv_I) (fun _ => ?_) (fun _ => ?_)
          · refine Run.q (e := vT_Iv_Iv_I) (gv := vT_Iv_Iv_I) (ok_spec_l17Scales _ _) fun r16 _ => ?_
            exact Run.x 0
          · refine Run.y (gv := vT_Iv_Iv_I) (fun _ => ?_) (fun _ => ?_)
            · refine Run.y (gv := vT_Iv_Iv_I) (fun _ => ?_) (fun _ => ?_)
              · refine Run.q (e := vIv) (gv := vT_Iv_Iv_I) (ok_spec_SinI _) fun r17 _ => ?_
                refine Run.q (e := vIv) (gv := vT_Iv_Iv_I) (ok_spec_DivI _ _) fun r18 _ => ?_
                refine Run.q (e := vT_Iv_Iv_I) (gv := vT_Iv_Iv_I) (ok_spec_l17Scales _ _) fun r19 _ => ?_
                exact Run.x 0
              · refine Run.q (e := vIv) (gv := vT_Iv_Iv_I) (ok_spec_DivI _ _) fun r20 _ => ?_
                refine Run.q (e := vIv) (gv := vT_Iv_Iv_I) (ok_spec_HullI _ _) fun r21 _ => ?_
                refine Run.q (e := vT_Iv_Iv_I) (gv := vT_Iv_Iv_I) (ok_spec_l17Scales _ _) fun r22 _ => ?_
                exact Run.x 0
            · refine Run.q (e := vIv) (gv := vT_Iv_Iv_I) (ok_spec_DivI _ _) fun r23 _ => ?_
              refine Run.q (e := vT_Iv_Iv_I) (gv := vT_Iv_Iv_I) (ok_spec_l17Scales _ _) fun r24 _ => ?_
              exact Run.x 0

theorem ok_spec_l19Scale (a0 : Pj) (a1 : Iv) : Fun Tryz.prog 317 [] #[vPj a0, vIv a1] (vIv (F_spec_l19Scale a0 a1)) [] := by
  refine Fun.ofH 400 E_ok mixed Tryz.func317 (by kernel_rfl) (by kernel_rfl) ?_
  unfold F_spec_l19Scale
  refine Run.q (e := vIv) (gv := vIv) (ok_spec_l19Cone _) fun r1 _ => ?_
  refine Run.q (e := vIv) (gv := vIv) (ok_spec_l19Constant _ _) fun r2 _ => ?_
  refine Run.q (e := vIv) (gv := vIv) (ok_spec_l19Radius _ _ _ _) fun r3 _ => ?_
  refine Run.q (e := vIv) (gv := vIv) (ok_spec_MulI _ _) fun r4 _ => ?_
  refine Run.q (e := vIv) (gv := vIv) (ok_spec_CosI _) fun r5 _ => ?_
  refine Run.q (e := vIv) (gv := vIv) (ok_spec_DivI _ _) fun r6 _ => ?_
  exact Run.x 0

theorem ok_spec_ConicScales (a0 : Pj) (a1 : Pt) : Fun Tryz.prog 237 [] #[vPj a0, vPt a1] (vT_Iv_Iv_I (F_spec_ConicScales a0 a1)) [] := by
  refine Fun.ofH 400 E_ok mixed Tryz.func237 (by kernel_rfl) (by kernel_rfl) ?_
  unfold F_spec_ConicScales
  refine Run.q (e := vB) (gv := vT_Iv_Iv_I) (ok_spec_l19Ok _) fun r1 _ => ?_
  refine Run.y (gv := vT_Iv_Iv_I) (fun _ => ?_) (fun _ => ?_)
  · refine Run.z [true, true, true, true] ?_
    exact Run.x 0
  · refine Run.z [false] ?_
    refine Run.q (e := vB) (gv := vT_Iv_Iv_I) (ok_spec_l11Ok _) fun r2 _ => ?_
    refine Run.z [false, false] ?_
    refine Run.y (gv := vT_Iv_Iv_I) (fun _ => ?_) (fun _ => ?_)
    · exact Run.x 0
    · refine Run.q (e := vB) (gv := vT_Iv_Iv_I) (ok_spec_l11Pole _) fun r3 _ => ?_
      refine Run.y (gv := vT_Iv_Iv_I) (fun _ => ?_) (fun _ => ?_)
      · exact Run.x 0
      · refine Run.q (e := vIv) (gv := vT_Iv_Iv_I) (ok_spec_LatOf _) fun r4 _ => ?_
        refine Run.q (e := vIv) (gv := vT_Iv_Iv_I) (ok_spec_l19Scale _ _) fun r5 _ => ?_
        refine Run.y (gv := vT_Iv_Iv_I) (fun _ => ?_) (fun _ => ?_)
        · refine Run.q (e := vIv) (gv := vT_Iv_Iv_I) (ok_spec_Integer _) fun r6 _ => ?_
          refine Run.q (e := vIv) (gv := vT_Iv_Iv_I) (ok_spec_DivI _ _) fun r7 _ => ?_
          refine Run.q (e := vT_Iv_Iv_I) (gv := vT_Iv_Iv_I) (ok_spec_l17Scales _ _) fun r8 _ => ?_
          exact Run.x 0
        · refine Run.y (gv := vT_Iv_Iv_I) (fun _ => ?_) (fun _ => ?_)
          · refine Run.q (e := vT_Iv_Iv_I) (gv := vT_Iv_Iv_I) (ok_spec_l17Scales _ _) fun r9 _ => ?_
            exact Run.x 0
          · refine Run.q (e := vIv) (gv := vT_Iv_Iv_I) (ok_spec_Integer _) fun r10 _ => ?_
            refine Run.q (e := vT_Iv_Iv_I) (gv := vT_Iv_Iv_I) (ok_spec_l17Scales _ _) fun r11 _ => ?_
            exact Run.x 0

theorem ok_spec_l21Ok__pPj (b0 : Pj) : Fun Tryz.prog 318 [(#[.int .i64 b0.kind.val, .int .i64 b0.lat0.val, .int .i64 b0.lon0.val, .int .i64 b0.lat1.val, .int .i64 b0.lat2.val], 38)] #[.pointer (some ⟨0, 0, none⟩)] (vB (F_spec_l21Ok__pPj b0)) [(#[.int .i64 b0.kind.val, .int .i64 b0.lat0.val, .int .i64 b0.lon0.val, .int .i64 b0.lat1.val, .int .i64 b0.lat2.val], 38)] := by
  refine Fun.ofH 400 E_ok mixed Tryz.func318 (by kernel_rfl) (by kernel_rfl) ?_
  unfold F_spec_l21Ok__pPj
  refine Run.y (gv := vB) (fun _ => ?_) (fun _ => ?_)
  · refine Run.z [true, true, true] ?_
    refine Run.q (e := vB) (gv := vB) (ok_spec_ValidProjection _) fun r1 _ => ?_
    refine Run.z [true] ?_
    exact Run.x 1
  · refine Run.z [false, false, false, false] ?_
    exact Run.x 1

theorem ok_spec_TransverseScale (a0 : Pj) (a1 : Pt) : Fun Tryz.prog 238 [] #[vPj a0, vPt a1] (vT_Iv_I (F_spec_TransverseScale a0 a1)) [] := by
  refine Fun.ofH 400 E_ok mixed Tryz.func238 (by kernel_rfl) (by kernel_rfl) ?_
  unfold F_spec_TransverseScale
  refine Run.w (e := vB) (gv := vT_Iv_I) [0] (ok_spec_l21Ok__pPj _) fun r1 _ => ?_
  refine Run.y (gv := vT_Iv_I) (fun _ => ?_) (fun _ => ?_)
  · refine Run.z [true, true, true, true] ?_
    exact Run.x 0
  · refine Run.z [false] ?_
    refine Run.q (e := vB) (gv := vT_Iv_I) (ok_spec_l11Ok _) fun r2 _ => ?_
    refine Run.z [false, false] ?_
    refine Run.y (gv := vT_Iv_I) (fun _ => ?_) (fun _ => ?_)
    · exact Run.x 0
    · refine Run.w (e := vB) (gv := vT_Iv_I) [0] (ok_spec_l21Edge__pPj _ _) fun r3 _ => ?_
      refine Run.y (gv := vT_Iv_I) (fun _ => ?_) (fun _ => ?_)
      · exact Run.x 0
      · refine Run.q (e := vIv) (gv := vT_Iv_I) (ok_spec_Integer _) fun r4 _ => ?_
        refine Run.q (e := vIv) (gv := vT_Iv_I) (ok_spec_Integer _) fun r5 _ => ?_
        refine Run.w (e := vIv) (gv := vT_Iv_I) [0] (ok_spec_l21Side__pPj _ _) fun r6 _ => ?_
        refine Run.q (e := vIv) (gv := vT_Iv_I) (ok_spec_SqrI _) fun r7 _ => ?_
        refine Run.q (e := vIv) (gv := vT_Iv_I) (ok_spec_SubI _ _) fun r8 _ => ?_
        refine Run.q (e := vIv) (gv := vT_Iv_I) (ok_spec_SqrtI _) fun r9 _ => ?_
        refine Run.q (e := vIv) (gv := vT_Iv_I) (ok_spec_DivI _ _) fun r10 _ => ?_
        refine Run.q (e := vT_Iv_I) (gv := vT_Iv_I) (ok_spec_l15Known _) fun r11 _ => ?_
        exact Run.x 0

theorem ok_spec_l22Scales (a0 : Pj) (a1 : Pt) : Fun Tryz.prog 110 [] #[vPj a0, vPt a1] (vT_Iv_Iv_I (F_spec_l22Scales a0 a1)) [] := by
  refine Fun.ofH 400 E_ok mixed Tryz.func110 (by kernel_rfl) (by kernel_rfl) ?_
  unfold F_spec_l22Scales
  refine Run.q (e := vB) (gv := vT_Iv_Iv_I) (ok_spec_l17Ok _) fun r1 _ => ?_
  refine Run.y (gv := vT_Iv_Iv_I) (fun _ => ?_) (fun _ => ?_)
  · refine Run.z [true, true, true, true] ?_
    exact Run.x 0
  · refine Run.z [false] ?_
    refine Run.q (e := vB) (gv := vT_Iv_Iv_I) (ok_spec_l11Ok _) fun r2 _ => ?_
    refine Run.z [false, false] ?_
    refine Run.y (gv := vT_Iv_Iv_I) (fun _ => ?_) (fun _ => ?_)
    · exact Run.x 0
    · refine Run.q (e := vI) (gv := vT_Iv_Iv_I) (ok_spec_l22Family _) fun r3 _ => ?_
      refine Run.y (gv := vT_Iv_Iv_I) (fun _ => ?_) (fun _ => ?_)
      · refine Run.q (e := vT_Iv_Iv_I) (gv := vT_Iv_Iv_I) (ok_spec_CylinderScales _ _) fun r4 _ => ?_
        exact Run.x 0
      · refine Run.y (gv := vT_Iv_Iv_I) (fun _ => ?_) (fun _ => ?_)
        · refine Run.q (e := vT_Iv_Iv_I) (gv := vT_Iv_Iv_I) (ok_spec_l22Azimuthal _ _) fun r5 _ => ?_
          exact Run.x 0
        · refine Run.y (gv := vT_Iv_Iv_I) (fun _ => ?_) (fun _ => ?_)
          · refine Run.q (e := vT_Iv_Iv_I) (gv := vT_Iv_Iv_I) (ok_spec_ConicScales _ _) fun r6 _ => ?_
            exact Run.x 0
          · refine Run.y (gv := vT_Iv_Iv_I) (fun _ => ?_) (fun _ => ?_)
            · refine Run.q (e := vT_Iv_I) (gv := vT_Iv_Iv_I) (ok_spec_TransverseScale _ _) fun r7 _ => ?_
              refine Run.y (gv := vT_Iv_Iv_I) (fun _ => ?_) (fun _ => ?_)
              · exact Run.x 0
              · refine Run.q (e := vT_Iv_Iv_I) (gv := vT_Iv_Iv_I) (ok_spec_l17Scales _ _) fun r8 _ => ?_
                exact Run.x 0
            · exact Run.x 0

theorem ok_spec_ScalesOf (a0 : Pj) (a1 : Pt) : Fun Tryz.prog 27 [] #[vPj a0, vPt a1] (vT_Iv_Iv_I (F_spec_ScalesOf a0 a1)) [] := by
  refine Fun.ofH 400 E_ok mixed Tryz.func27 (by kernel_rfl) (by kernel_rfl) ?_
  unfold F_spec_ScalesOf
  refine Run.q (e := vT_Iv_Iv_I) (gv := vT_Iv_Iv_I) (ok_spec_l22Scales _ _) fun r1 _ => ?_
  exact Run.x 0

theorem ok_impl_isCylindrical (a0 : I64) : Fun Tryz.prog 241 [] #[vI a0] (vB (F_impl_isCylindrical a0)) [] := by
  refine Fun.ofH 400 E_ok mixed Tryz.func241 (by kernel_rfl) (by kernel_rfl) ?_
  unfold F_impl_isCylindrical
  refine Run.q (e := vB) (gv := vB) (ok_impl_within _ _ _) fun r1 _ => ?_
  exact Run.x 0

theorem ok_impl_isPseudo (a0 : I64) : Fun Tryz.prog 242 [] #[vI a0] (vB (F_impl_isPseudo a0)) [] := by
  refine Fun.ofH 400 E_ok mixed Tryz.func242 (by kernel_rfl) (by kernel_rfl) ?_
  unfold F_impl_isPseudo
  refine Run.q (e := vB) (gv := vB) (ok_impl_within _ _ _) fun r1 _ => ?_
  exact Run.x 0

theorem ok_impl_FamilyOf (a0 : I64) : Fun Tryz.prog 112 [] #[vI a0] (vI (F_impl_FamilyOf a0)) [] := by
  refine Fun.ofH 400 E_ok mixed Tryz.func112 (by kernel_rfl) (by kernel_rfl) ?_
  unfold F_impl_FamilyOf
  refine Run.q (e := vB) (gv := vI) (ok_impl_isCylindrical _) fun r1 _ => ?_
  refine Run.y (gv := vI) (fun _ => ?_) (fun _ => ?_)
  · exact Run.x 0
  · refine Run.q (e := vB) (gv := vI) (ok_impl_isAzimuthal _) fun r2 _ => ?_
    refine Run.y (gv := vI) (fun _ => ?_) (fun _ => ?_)
    · exact Run.x 0
    · refine Run.q (e := vB) (gv := vI) (ok_impl_isConic _) fun r3 _ => ?_
      refine Run.y (gv := vI) (fun _ => ?_) (fun _ => ?_)
      · exact Run.x 0
      · refine Run.q (e := vB) (gv := vI) (ok_impl_isPseudo _) fun r4 _ => ?_
        refine Run.y (gv := vI) (fun _ => ?_) (fun _ => ?_)
        · exact Run.x 0
        · refine Run.y (gv := vI) (fun _ => ?_) (fun _ => ?_)
          · exact Run.x 0
          · exact Run.x 0

theorem ok_impl_CylinderScales (a0 : Pj) (a1 : Pt) : Fun Tryz.prog 113 [] #[vPj a0, vPt a1] (vT_Iv_Iv_I (F_impl_CylinderScales a0 a1)) [] := by
  refine Fun.ofH 400 E_ok mixed Tryz.func113 (by kernel_rfl) (by kernel_rfl) ?_
  unfold F_impl_CylinderScales
  refine Run.q (e := vB) (gv := vT_Iv_Iv_I) (ok_impl_ValidProjection _) fun r1 _ => ?_
  refine Run.y (gv := vT_Iv_Iv_I) (fun _ => ?_) (fun _ => ?_)
  · refine Run.z [true, true, true, true, true, true, true, true, true] ?_
    exact Run.x 0
  · refine Run.z [false] ?_
    refine Run.q (e := vB) (gv := vT_Iv_Iv_I) (ok_impl_ValidPoint _) fun r2 _ => ?_
    refine Run.z [false, false] ?_
    refine Run.y (gv := vT_Iv_Iv_I) (fun _ => ?_) (fun _ => ?_)
    · refine Run.z [true, true, true, true, true] ?_
      exact Run.x 0
    · refine Run.z [false, false] ?_
      refine Run.q (e := vB) (gv := vT_Iv_Iv_I) (ok_impl_isCylindrical _) fun r3 _ => ?_
      refine Run.z [false, false] ?_
      refine Run.y (gv := vT_Iv_Iv_I) (fun _ => ?_) (fun _ => ?_)
      · exact Run.x 0
      · refine Run.q (e := vB) (gv := vT_Iv_Iv_I) (ok_impl_isPole _) fun r4 _ => ?_
        refine Run.y (gv := vT_Iv_Iv_I) (fun _ => ?_) (fun _ => ?_)
        · exact Run.x 0
        · refine Run.q (e := vIv) (gv := vT_Iv_Iv_I) (ok_impl_RadiansOf _) fun r5 _ => ?_
          refine Run.q (e := vIv) (gv := vT_Iv_Iv_I) (ok_impl_CosI _) fun r6 _ => ?_
          refine Run.q (e := vIv) (gv := vT_Iv_Iv_I) (ok_impl_LatOf _) fun r7 _ => ?_
          refine Run.q (e := vIv) (gv := vT_Iv_Iv_I) (ok_impl_CosI _) fun r8 _ => ?_
          refine Run.q (e := vIv) (gv := vT_Iv_Iv_I) (ok_impl_Integer _) fun r9 _ => ?_
          refine Run.q (e := vIv) (gv := vT_Iv_Iv_I) (ok_impl_DivI _ _) fun r10 _ => ?_
          refine Run.y (gv := vT_Iv_Iv_I) (fun _ => ?_) (fun _ => ?_)
          · refine Run.q (e := vIv) (gv := vT_Iv_Iv_I) (ok_impl_Integer _) fun r11 _ => ?_
            refine Run.q (e := vIv) (gv := vT_Iv_Iv_I) (ok_impl_DivI _ _) fun r12 _ => ?_
            refine Run.q (e := vT_Iv_Iv_I) (gv := vT_Iv_Iv_I) (ok_impl_pair _ _) fun r13 _ => ?_
            exact Run.x 0
          · refine Run.y (gv := vT_Iv_Iv_I) (fun _ => ?_) (fun _ => ?_)
            · refine Run.q (e := vT_Iv_Iv_I) (gv := vT_Iv_Iv_I) (ok_impl_pair _ _) fun r14 _ => ?_
              exact Run.x 0
            · refine Run.y (gv := vT_Iv_Iv_I) (fun _ => ?_) (fun _ => ?_)
              · refine Run.q (e := vIv) (gv := vT_Iv_Iv_I) (ok_impl_DivI _ _) fun r15 _ => ?_
                refine Run.q (e := vIv) (gv := vT_Iv_Iv_I) (ok_impl_DivI _ _) fun r16 _ => ?_
                refine Run.q (e := vT_Iv_Iv_I) (gv := vT_Iv_Iv_I) (ok_impl_pair _ _) fun r17 _ => ?_
                exact Run.x 0
              · refine Run.q (e := vIv) (gv := vT_Iv_Iv_I) (ok_impl_Integer _) fun r18 _ => ?_
                refine Run.q (e := vIv) (gv := vT_Iv_Iv_I) (ok_impl_Quotient _ _) fun r19 _ => ?_
                refine Run.q (e := vIv) (gv := vT_Iv_Iv_I) (ok_impl_LatOf _) fun r20 _ => ?_
                refine Run.q (e := vIv) (gv := vT_Iv_Iv_I) (ok_impl_MulI _ _) fun r21 _ => ?_
                refine Run.q (e := vIv) (gv := vT_Iv_Iv_I) (ok_impl_CosI _) fun r22 _ => ?_
                refine Run.q (e := vIv) (gv := vT_Iv_Iv_I) (ok_impl_DivI _ _) fun r23 _ => ?_
                refine Run.q (e := vT_Iv_Iv_I) (gv := vT_Iv_Iv_I) (ok_impl_pair _ _) fun r24 _ => ?_
                exact Run.x 0

theorem ok_impl_differenceOf (a0 : Pt) (a1 : Pt) : Fun Tryz.prog 379 [] #[vPt a0, vPt a1] (vIv (F_impl_differenceOf a0 a1)) [] := by
  refine Fun.ofH 400 E_ok mixed Tryz.func379 (by kernel_rfl) (by kernel_rfl) ?_
  unfold F_impl_differenceOf
  refine Run.q (e := vI) (gv := vIv) (ok_impl_WrapLon _) fun r1 _ => ?_
  refine Run.q (e := vIv) (gv := vIv) (ok_impl_RadiansOf _) fun r2 _ => ?_
  exact Run.x 0

theorem ok_impl_localOf (a0 : Iv) (a1 : Iv) (a2 : Iv) : Fun Tryz.prog 378 [] #[vIv a0, vIv a1, vIv a2] (vVc (F_impl_localOf a0 a1 a2)) [] := by
  refine Fun.ofH 400 E_ok mixed Tryz.func378 (by kernel_rfl) (by kernel_rfl) ?_
  unfold F_impl_localOf
  refine Run.q (e := vIv) (gv := vVc) (ok_impl_CosI _) fun r1 _ => ?_
  refine Run.q (e := vIv) (gv := vVc) (ok_impl_SinI _) fun r2 _ => ?_
  refine Run.q (e := vIv) (gv := vVc) (ok_impl_MulI _ _) fun r3 _ => ?_
  refine Run.q (e := vIv) (gv := vVc) (ok_impl_CosI _) fun r4 _ => ?_
  refine Run.q (e := vIv) (gv := vVc) (ok_impl_SinI _) fun r5 _ => ?_
  refine Run.q (e := vIv) (gv := vVc) (ok_impl_MulI _ _) fun r6 _ => ?_
  refine Run.q (e := vIv) (gv := vVc) (ok_impl_SinI _) fun r7 _ => ?_
  refine Run.q (e := vIv) (gv := vVc) (ok_impl_CosI _) fun r8 _ => ?_
  refine Run.q (e := vIv) (gv := vVc) (ok_impl_MulI _ _) fun r9 _ => ?_
  refine Run.q (e := vIv) (gv := vVc) (ok_impl_CosI _) fun r10 _ => ?_
  refine Run.q (e := vIv) (gv := vVc) (ok_impl_MulI _ _) fun r11 _ => ?_
  refine Run.q (e := vIv) (gv := vVc) (ok_impl_SubI _ _) fun r12 _ => ?_
  refine Run.q (e := vIv) (gv := vVc) (ok_impl_SinI _) fun r13 _ => ?_
  refine Run.q (e := vIv) (gv := vVc) (ok_impl_SinI _) fun r14 _ => ?_
  refine Run.q (e := vIv) (gv := vVc) (ok_impl_MulI _ _) fun r15 _ => ?_
  refine Run.q (e := vIv) (gv := vVc) (ok_impl_CosI _) fun r16 _ => ?_
  refine Run.q (e := vIv) (gv := vVc) (ok_impl_CosI _) fun r17 _ => ?_
  refine Run.q (e := vIv) (gv := vVc) (ok_impl_MulI _ _) fun r18 _ => ?_
  refine Run.q (e := vIv) (gv := vVc) (ok_impl_CosI _) fun r19 _ => ?_
  refine Run.q (e := vIv) (gv := vVc) (ok_impl_MulI _ _) fun r20 _ => ?_
  refine Run.q (e := vIv) (gv := vVc) (ok_impl_AddI _ _) fun r21 _ => ?_
  exact Run.x 0

theorem ok_impl_LocalOf (a0 : Pj) (a1 : Pt) : Fun Tryz.prog 320 [] #[vPj a0, vPt a1] (vT_Vc_I (F_impl_LocalOf a0 a1)) [] := by
  refine Fun.ofH 400 E_ok mixed Tryz.func320 (by kernel_rfl) (by kernel_rfl) ?_
  unfold F_impl_LocalOf
  refine Run.q (e := vB) (gv := vT_Vc_I) (ok_impl_isAzimuthalOne _) fun r1 _ => ?_
  refine Run.y (gv := vT_Vc_I) (fun _ => ?_) (fun _ => ?_)
  · refine Run.z [true, true, true, true] ?_
    exact Run.x 0
  · refine Run.z [false] ?_
    refine Run.q (e := vB) (gv := vT_Vc_I) (ok_impl_ValidPoint _) fun r2 _ => ?_
    refine Run.z [false, false] ?_
    refine Run.y (gv := vT_Vc_I) (fun _ => ?_) (fun _ => ?_)
    · exact Run.x 0
    · refine Run.q (e := vPt) (gv := vT_Vc_I) (ok_impl_Projection_centre _) fun r3 _ => ?_
      refine Run.q (e := vIv) (gv := vT_Vc_I) (ok_impl_LatOf _) fun r4 _ => ?_
      refine Run.q (e := vIv) (gv := vT_Vc_I) (ok_impl_LatOf _) fun r5 _ => ?_
      refine Run.q (e := vPt) (gv := vT_Vc_I) (ok_impl_Projection_centre _) fun r6 _ => ?_
      refine Run.q (e := vIv) (gv := vT_Vc_I) (ok_impl_differenceOf _ _) fun r7 _ => ?_
      refine Run.q (e := vVc) (gv := vT_Vc_I) (ok_impl_localOf _ _ _) fun r8 _ => ?_
      exact Run.x 0

theorem ok_impl_Antipode (a0 : Pt) : Fun Tryz.prog 321 [] #[vPt a0] (vT_Pt_I (F_impl_Antipode a0)) [] := by
  refine Fun.ofH 400 E_ok mixed Tryz.func321 (by kernel_rfl) (by kernel_rfl) ?_
  unfold F_impl_Antipode
  refine Run.q (e := vB) (gv := vT_Pt_I) (ok_impl_ValidPoint _) fun r1 _ => ?_
  refine Run.y (gv := vT_Pt_I) (fun _ => ?_) (fun _ => ?_)
  · exact Run.x 0
  · refine Run.q (e := vI) (gv := vT_Pt_I) (ok_impl_WrapLon _) fun r2 _ => ?_
    exact Run.x 0

theorem ok_impl_samePlace (a0 : Pt) (a1 : Pt) : Fun Tryz.prog 322 [] #[vPt a0, vPt a1] (vB (F_impl_samePlace a0 a1)) [] := by
  refine Fun.ofH 400 E_ok mixed Tryz.func322 (by kernel_rfl) (by kernel_rfl) ?_
  unfold F_impl_samePlace
  refine Run.y (gv := vB) (fun _ => ?_) (fun _ => ?_)
  · refine Run.z [true, true, true, true] ?_
    exact Run.x 0
  · refine Run.z [false] ?_
    refine Run.q (e := vB) (gv := vB) (ok_impl_isPole _) fun r1 _ => ?_
    refine Run.z [false] ?_
    refine Run.y (gv := vB) (fun _ => ?_) (fun _ => ?_)
    · refine Run.z [true, true, true, true, false, true, false] ?_
      exact Run.x 0
    · refine Run.z [false, false, false, false, false, false, false] ?_
      exact Run.x 0

theorem ok_impl_forwardFactor (a0 : I64) (a1 : Vc) : Fun Tryz.prog 323 [] #[vI a0, vVc a1] (vIv (F_impl_forwardFactor a0 a1)) [] := by
  refine Fun.ofH 400 E_ok mixed Tryz.func323 (by kernel_rfl) (by kernel_rfl) ?_
  unfold F_impl_forwardFactor
  refine Run.y (gv := vIv) (fun _ => ?_) (fun _ => ?_)
  · refine Run.q (e := vIv) (gv := vIv) (ok_impl_Integer _) fun r1 _ => ?_
    refine Run.q (e := vIv) (gv := vIv) (ok_impl_DivI _ _) fun r2 _ => ?_
    exact Run.x 0
  · refine Run.y (gv := vIv) (fun _ => ?_) (fun _ => ?_)
    · refine Run.q (e := vIv) (gv := vIv) (ok_impl_Integer _) fun r3 _ => ?_
      refine Run.q (e := vIv) (gv := vIv) (ok_impl_Integer _) fun r4 _ => ?_
      refine Run.q (e := vIv) (gv := vIv) (ok_impl_AddI _ _) fun r5 _ => ?_
      refine Run.q (e := vIv) (gv := vIv) (ok_impl_DivI _ _) fun r6 _ => ?_
      exact Run.x 0
    · refine Run.y (gv := vIv) (fun _ => ?_) (fun _ => ?_)
      · refine Run.y (gv := vIv) (fun _ => ?_) (fun _ => ?_)
        · refine Run.q (e := vIv) (gv := vIv) (ok_impl_Whole) fun r7 _ => ?_
          exact Run.x 0
        · refine Run.q (e := vIv) (gv := vIv) (ok_impl_Integer _) fun r8 _ => ?_
          exact Run.x 0
      · refine Run.y (gv := vIv) (fun _ => ?_) (fun _ => ?_)
        · refine Run.q (e := vIv) (gv := vIv) (ok_impl_Integer _) fun r9 _ => ?_
          refine Run.q (e := vIv) (gv := vIv) (ok_impl_Integer _) fun r10 _ => ?_
          refine Run.q (e := vIv) (gv := vIv) (ok_impl_AddI _ _) fun r11 _ => ?_
          refine Run.q (e := vIv) (gv := vIv) (ok_impl_DivI _ _) fun r12 _ => ?_
          refine Run.q (e := vIv) (gv := vIv) (ok_impl_SqrtI _) fun r13 _ => ?_
          exact Run.x 0
        · refine Run.q (e := vIv) (gv := vIv) (ok_impl_fromAxis _) fun r14 _ => ?_
          refine Run.q (e := vB) (gv := vIv) (ok_impl_isPositive _) fun r15 _ => ?_
          refine Run.y (gv := vIv) (fun _ => ?_) (fun _ => ?_)
          · refine Run.q (e := vIv) (gv := vIv) (ok_impl_DirectionI _ _) fun r16 _ => ?_
            refine Run.q (e := vIv) (gv := vIv) (ok_impl_DivI _ _) fun r17 _ => ?_
            exact Run.x 0
          · refine Run.q (e := vIv) (gv := vIv) (ok_impl_Integer _) fun r18 _ => ?_
            refine Run.q (e := vIv) (gv := vIv) (ok_impl_Integer _) fun r19 _ => ?_
            refine Run.q (e := vIv) (gv := vIv) (ok_impl_DivI _ _) fun r20 _ => ?_
            refine Run.q (e := vIv) (gv := vIv) (ok_impl_HullI _ _) fun r21 _ => ?_
            exact Run.x 0

theorem ok_impl_AzimuthalForward (a0 : Pj) (a1 : Pt) : Fun Tryz.prog 243 [] #[vPj a0, vPt a1] (vT_Pn_I (F_impl_AzimuthalForward a0 a1)) [] := by
  refine Fun.ofH 400 E_ok mixed Tryz.func243 (by kernel_rfl) (by kernel_rfl) ?_
  unfold F_impl_AzimuthalForward
  refine Run.q (e := vT_Vc_I) (gv := vT_Pn_I) (ok_impl_LocalOf _ _) fun r1 _ => ?_
  refine Run.y (gv := vT_Pn_I) (fun _ => ?_) (fun _ => ?_)
  · exact Run.x 0
  · refine Run.q (e := vPt) (gv := vT_Pn_I) (ok_impl_Projection_centre _) fun r2 _ => ?_
    refine Run.q (e := vT_Pt_I) (gv := vT_Pn_I) (ok_impl_Antipode _) fun r3 _ => ?_
    refine Run.q (e := vB) (gv := vT_Pn_I) (ok_impl_samePlace _ _) fun r4 _ => ?_
    refine Run.y (gv := vT_Pn_I) (fun _ => ?_) (fun _ => ?_)
    · exact Run.x 0
    · refine Run.y (gv := vT_Pn_I) (fun _ => ?_) (fun _ => ?_)
      · refine Run.q (e := vIv) (gv := vT_Pn_I) (ok_impl_Integer _) fun r5 _ => ?_
        refine Run.z [true, true, true] ?_
        refine Run.q (e := vI) (gv := vT_Pn_I) (ok_impl_LessI _ _) fun r6 _ => ?_
        refine Run.z [true, true] ?_
        refine Run.y (gv := vT_Pn_I) (fun _ => ?_) (fun _ => ?_)
        · exact Run.x 0
        · refine Run.y (gv := vT_Pn_I) (fun _ => ?_) (fun _ => ?_)
          · refine Run.z [true, true] ?_
            refine Run.q (e := vIv) (gv := vT_Pn_I) (ok_impl_Integer _) fun r7 _ => ?_
            refine Run.z [true] ?_
            refine Run.q (e := vI) (gv := vT_Pn_I) (ok_impl_LessI _ _) fun r8 _ => ?_
            refine Run.z [true, true] ?_
            refine Run.y (gv := vT_Pn_I) (fun _ => ?_) (fun _ => ?_)
            · exact Run.x 0
            · refine Run.q (e := vIv) (gv := vT_Pn_I) (ok_impl_forwardFactor _ _) fun r9 _ => ?_
              refine Run.q (e := vIv) (gv := vT_Pn_I) (ok_impl_MulI _ _) fun r10 _ => ?_
              refine Run.q (e := vIv) (gv := vT_Pn_I) (ok_impl_MulI _ _) fun r11 _ => ?_
              refine Run.q (e := vT_Pn_I) (gv := vT_Pn_I) (ok_impl_planar _ _) fun r12 _ => ?_
              exact Run.x 0
          · refine Run.z [false, false, false, false, false, false] ?_
            refine Run.q (e := vIv) (gv := vT_Pn_I) (ok_impl_forwardFactor _ _) fun r13 _ => ?_
            refine Run.q (e := vIv) (gv := vT_Pn_I) (ok_impl_MulI _ _) fun r14 _ => ?_
            refine Run.q (e := vIv) (gv := vT_Pn_I) (ok_impl_MulI _ _) fun r15 _ => ?_
            refine Run.q (e := vT_Pn_I) (gv := vT_Pn_I) (ok_impl_planar _ _) fun r16 _ => ?_
            exact Run.x 0
      · refine Run.z [false, false, false, false, false, false] ?_
        refine Run.y (gv := vT_Pn_I) (fun _ => ?_) (fun _ => ?_)
        · refine Run.z [true, true] ?_
          refine Run.q (e := vIv) (gv := vT_Pn_I) (ok_impl_Integer _) fun r17 _ => ?_
          refine Run.z [true] ?_
          refine Run.q (e := vI) (gv := vT_Pn_I) (ok_impl_LessI _ _) fun r18 _ => ?_
          refine Run.z [true, true] ?_
          refine Run.y (gv := vT_Pn_I) (fun _ => ?_) (fun _ => ?_)
          · exact Run.x 0
          · refine Run.q (e := vIv) (gv := vT_Pn_I) (ok_impl_forwardFactor _ _) fun r19 _ => ?_
            refine Run.q (e := vIv) (gv := vT_Pn_I) (ok_impl_MulI _ _) fun r20 _ => ?_
            refine Run.q (e := vIv) (gv := vT_Pn_I) (ok_impl_MulI _ _) fun r21 _ => ?_
            refine Run.q (e := vT_Pn_I) (gv := vT_Pn_I) (ok_impl_planar _ _) fun r22 _ => ?_
            exact Run.x 0
        · refine Run.z [false, false, false, false, false, false] ?_
          refine Run.q (e := vIv) (gv := vT_Pn_I) (ok_impl_forwardFactor _ _) fun r23 _ => ?_
          refine Run.q (e := vIv) (gv := vT_Pn_I) (ok_impl_MulI _ _) fun r24 _ => ?_
          refine Run.q (e := vIv) (gv := vT_Pn_I) (ok_impl_MulI _ _) fun r25 _ => ?_
          refine Run.q (e := vT_Pn_I) (gv := vT_Pn_I) (ok_impl_planar _ _) fun r26 _ => ?_
          exact Run.x 0

theorem ok_impl_areValid (a0 : Pt) (a1 : Pt) : Fun Tryz.prog 324 [] #[vPt a0, vPt a1] (vB (F_impl_areValid a0 a1)) [] := by
  refine Fun.ofH 400 E_ok mixed Tryz.func324 (by kernel_rfl) (by kernel_rfl) ?_
  unfold F_impl_areValid
  refine Run.q (e := vB) (gv := vB) (ok_impl_ValidPoint _) fun r1 _ => ?_
  refine Run.y (gv := vB) (fun _ => ?_) (fun _ => ?_)
  · refine Run.z [true] ?_
    refine Run.q (e := vB) (gv := vB) (ok_impl_ValidPoint _) fun r2 _ => ?_
    refine Run.z [true] ?_
    exact Run.x 0
  · refine Run.z [false, false] ?_
    exact Run.x 0

theorem ok_impl_vectorOf (a0 : Pt) : Fun Tryz.prog 325 [] #[vPt a0] (vVc (F_impl_vectorOf a0)) [] := by
  refine Fun.ofH 400 E_ok mixed Tryz.func325 (by kernel_rfl) (by kernel_rfl) ?_
  unfold F_impl_vectorOf
  refine Run.q (e := vIv) (gv := vVc) (ok_impl_LatOf _) fun r1 _ => ?_
  refine Run.q (e := vIv) (gv := vVc) (ok_impl_LonOf _) fun r2 _ => ?_
  refine Run.q (e := vIv) (gv := vVc) (ok_impl_CosI _) fun r3 _ => ?_
  refine Run.q (e := vIv) (gv := vVc) (ok_impl_CosI _) fun r4 _ => ?_
  refine Run.q (e := vIv) (gv := vVc) (ok_impl_MulI _ _) fun r5 _ => ?_
  refine Run.q (e := vIv) (gv := vVc) (ok_impl_CosI _) fun r6 _ => ?_
  refine Run.q (e := vIv) (gv := vVc) (ok_impl_SinI _) fun r7 _ => ?_
  refine Run.q (e := vIv) (gv := vVc) (ok_impl_MulI _ _) fun r8 _ => ?_
  refine Run.q (e := vIv) (gv := vVc) (ok_impl_SinI _) fun r9 _ => ?_
  exact Run.x 0

theorem ok_impl_CrossV (a0 : Vc) (a1 : Vc) : Fun Tryz.prog 326 [] #[vVc a0, vVc a1] (vVc (F_impl_CrossV a0 a1)) [] := by
  refine Fun.ofH 400 E_ok mixed Tryz.func326 (by kernel_rfl) (by kernel_rfl) ?_
  unfold F_impl_CrossV
  refine Run.q (e := vIv) (gv := vVc) (ok_impl_MulI _ _) fun r1 _ => ?_
  refine Run.q (e := vIv) (gv := vVc) (ok_impl_MulI _ _) fun r2 _ => ?_
  refine Run.q (e := vIv) (gv := vVc) (ok_impl_SubI _ _) fun r3 _ => ?_
  refine Run.q (e := vIv) (gv := vVc) (ok_impl_MulI _ _) fun r4 _ => ?_
  refine Run.q (e := vIv) (gv := vVc) (ok_impl_MulI _ _) fun r5 _ => ?_
  refine Run.q (e := vIv) (gv := vVc) (ok_impl_SubI _ _) fun r6 _ => ?_
  refine Run.q (e := vIv) (gv := vVc) (ok_impl_MulI _ _) fun r7 _ => ?_
  refine Run.q (e := vIv) (gv := vVc) (ok_impl_MulI _ _) fun r8 _ => ?_
  refine Run.q (e := vIv) (gv := vVc) (ok_impl_SubI _ _) fun r9 _ => ?_
  exact Run.x 0

theorem ok_impl_AngleBetween (a0 : Pt) (a1 : Pt) : Fun Tryz.prog 244 [] #[vPt a0, vPt a1] (vT_Iv_I (F_impl_AngleBetween a0 a1)) [] := by
  refine Fun.ofH 400 E_ok mixed Tryz.func244 (by kernel_rfl) (by kernel_rfl) ?_
  unfold F_impl_AngleBetween
  refine Run.q (e := vB) (gv := vT_Iv_I) (ok_impl_areValid _ _) fun r1 _ => ?_
  refine Run.y (gv := vT_Iv_I) (fun _ => ?_) (fun _ => ?_)
  · exact Run.x 0
  · refine Run.q (e := vVc) (gv := vT_Iv_I) (ok_impl_vectorOf _) fun r2 _ => ?_
    refine Run.q (e := vVc) (gv := vT_Iv_I) (ok_impl_vectorOf _) fun r3 _ => ?_
    refine Run.q (e := vVc) (gv := vT_Iv_I) (ok_impl_CrossV _ _) fun r4 _ => ?_
    refine Run.q (e := vIv) (gv := vT_Iv_I) (ok_impl_NormV _) fun r5 _ => ?_
    refine Run.q (e := vIv) (gv := vT_Iv_I) (ok_impl_DotV _ _) fun r6 _ => ?_
    refine Run.q (e := vIv) (gv := vT_Iv_I) (ok_impl_DirectionI _ _) fun r7 _ => ?_
    refine Run.q (e := vT_Iv_I) (gv := vT_Iv_I) (ok_impl_knownI _) fun r8 _ => ?_
    exact Run.x 0

theorem ok_impl_azimuthalScales (a0 : I64) (a1 : Iv) : Fun Tryz.prog 245 [] #[vI a0, vIv a1] (vT_Iv_Iv (F_impl_azimuthalScales a0 a1)) [] := by
  refine Fun.ofH 400 E_ok mixed Tryz.func245 (by kernel_rfl) (by kernel_rfl) ?_
  unfold F_impl_azimuthalScales
  refine Run.q (e := vIv) (gv := vT_Iv_Iv) (ok_impl_Integer _) fun r1 _ => ?_
  refine Run.q (e := vIv) (gv := vT_Iv_Iv) (ok_impl_HalfI _) fun r2 _ => ?_
  refine Run.q (e := vIv) (gv := vT_Iv_Iv) (ok_impl_CosI _) fun r3 _ => ?_
  refine Run.y (gv := vT_Iv_Iv) (fun _ => ?_) (fun _ => ?_)
  · refine Run.q (e := vIv) (gv := vT_Iv_Iv) (ok_impl_CosI _) fun r4 _ => ?_
    refine Run.q (e := vIv) (gv := vT_Iv_Iv) (ok_impl_SqrI _) fun r5 _ => ?_
    refine Run.q (e := vIv) (gv := vT_Iv_Iv) (ok_impl_DivI _ _) fun r6 _ => ?_
    refine Run.q (e := vIv) (gv := vT_Iv_Iv) (ok_impl_CosI _) fun r7 _ => ?_
    refine Run.q (e := vIv) (gv := vT_Iv_Iv) (ok_impl_DivI _ _) fun r8 _ => ?_
    exact Run.x 0
  · refine Run.y (gv := vT_Iv_Iv) (fun _ => ?_) (fun _ => ?_)
    · refine Run.q (e := vIv) (gv := vT_Iv_Iv) (ok_impl_SqrI _) fun r9 _ => ?_
      refine Run.q (e := vIv) (gv := vT_Iv_Iv) (ok_impl_DivI _ _) fun r10 _ => ?_
      exact Run.x 0
    · refine Run.y (gv := vT_Iv_Iv) (fun _ => ?_) (fun _ => ?_)
      · refine Run.q (e := vIv) (gv := vT_Iv_Iv) (ok_impl_CosI _) fun r11 _ => ?_
        exact Run.x 0
      · refine Run.y (gv := vT_Iv_Iv) (fun _ => ?_) (fun _ => ?_)
        · refine Run.q (e := vIv) (gv := vT_Iv_Iv) (ok_impl_DivI _ _) fun r12 _ => ?_
          exact Run.x 0
        · refine Run.q (e := vB) (gv := vT_Iv_Iv) (ok_impl_isPositive _) fun r13 _ => ?_
          refine Run.y (gv := vT_Iv_Iv) (fun _ => ?_) (fun _ => ?_)
          · refine Run.q (e := vIv) (gv := vT_Iv_Iv) (ok_impl_SinI _) fun r14 _ => ?_
            refine Run.q (e := vIv) (gv := vT_Iv_Iv) (ok_impl_DivI _ _) fun r15 _ => ?_
            exact Run.x 0
          · refine Run.q (e := vIv) (gv := vT_Iv_Iv) (ok_impl_CosI _) fun r16 _ => ?_
            refine Run.q (e := vIv) (gv := vT_Iv_Iv) (ok_impl_DivI _ _) fun r17 _ => ?_
            refine Run.q (e := vIv) (gv := vT_Iv_Iv) (ok_impl_HullI _ _) fun r18 _ => ?_
            exact Run.x 0

theorem ok_impl_centreScales (a0 : Pj) (a1 : Pt) : Fun Tryz.prog 114 [] #[vPj a0, vPt a1] (vT_Iv_Iv_I (F_impl_centreScales a0 a1)) [] := by
  refine Fun.ofH 400 E_ok mixed Tryz.func114 (by kernel_rfl) (by kernel_rfl) ?_
  unfold F_impl_centreScales
  refine Run.q (e := vT_Pn_I) (gv := vT_Iv_Iv_I) (ok_impl_AzimuthalForward _ _) fun r1 _ => ?_
  refine Run.y (gv := vT_Iv_Iv_I) (fun _ => ?_) (fun _ => ?_)
  · exact Run.x 0
  · refine Run.q (e := vPt) (gv := vT_Iv_Iv_I) (ok_impl_Projection_centre _) fun r2 _ => ?_
    refine Run.q (e := vT_Iv_I) (gv := vT_Iv_Iv_I) (ok_impl_AngleBetween _ _) fun r3 _ => ?_
    refine Run.y (gv := vT_Iv_Iv_I) (fun _ => ?_) (fun _ => ?_)
    · exact Run.x 0
    · refine Run.q (e := vT_Iv_Iv) (gv := vT_Iv_Iv_I) (ok_impl_azimuthalScales _ _) fun r4 _ => ?_
      refine Run.q (e := vT_Iv_Iv_I) (gv := vT_Iv_Iv_I) (ok_impl_pair _ _) fun r5 _ => ?_
      exact Run.x 0

theorem ok_impl_conic_scale__pCn (b0 : Cn) (a0 : Iv) : Fun Tryz.prog 246 [(#[.int .i64 b0.p.kind.val, .int .i64 b0.p.lat0.val, .int .i64 b0.p.lon0.val, .int .i64 b0.p.lat1.val, .int .i64 b0.p.lat2.val, .int .i64 b0.a.lo.val, .int .i64 b0.a.hi.val, .int .i64 b0.b.lo.val, .int .i64 b0.b.hi.val, .int .i64 b0.o.lo.val, .int .i64 b0.o.hi.val, .int .i64 b0.n.lo.val, .int .i64 b0.n.hi.val, .int .i64 b0.g.lo.val, .int .i64 b0.g.hi.val], 87)] #[.pointer (some ⟨0, 0, none⟩), vIv a0] (vIv (F_impl_conic_scale__pCn b0 a0)) [(#[.int .i64 b0.p.kind.val, .int .i64 b0.p.lat0.val, .int .i64 b0.p.lon0.val, .int .i64 b0.p.lat1.val, .int .i64 b0.p.lat2.val, .int .i64 b0.a.lo.val, .int .i64 b0.a.hi.val, .int .i64 b0.b.lo.val, .int .i64 b0.b.hi.val, .int .i64 b0.o.lo.val, .int .i64 b0.o.hi.val, .int .i64 b0.n.lo.val, .int .i64 b0.n.hi.val, .int .i64 b0.g.lo.val, .int .i64 b0.g.hi.val], 87)] := by
  refine Fun.ofH 400 E_ok mixed Tryz.func246 (by kernel_rfl) (by kernel_rfl) ?_
  unfold F_impl_conic_scale__pCn
  refine Run.w (e := vIv) (gv := vIv) [0] (ok_impl_conic_radius__pCn _ _) fun r1 _ => ?_
  refine Run.q (e := vIv) (gv := vIv) (ok_impl_MulI _ _) fun r2 _ => ?_
  refine Run.q (e := vIv) (gv := vIv) (ok_impl_CosI _) fun r3 _ => ?_
  refine Run.q (e := vIv) (gv := vIv) (ok_impl_DivI _ _) fun r4 _ => ?_
  exact Run.x 1

theorem ok_impl_ConicScales (a0 : Pj) (a1 : Pt) : Fun Tryz.prog 115 [] #[vPj a0, vPt a1] (vT_Iv_Iv_I (F_impl_ConicScales a0 a1)) [] := by
  refine Fun.ofH 400 E_ok mixed Tryz.func115 (by kernel_rfl) (by kernel_rfl) ?_
  unfold F_impl_ConicScales
  refine Run.bmb (nn := fun r : Cn × I64 => (r.2.val != 0)) (cl := fun r : Cn × I64 => (vCn r.1).cells) (gv := vT_Iv_Iv_I) (by kernel_rfl) (by kernel_rfl) (ok_impl_newConic _) (by kernel_rfl) (fun _ => rfl) (fun r1 hr1 => ?_) (fun r1 hr1 => ?_)
  · refine Run.z [true, true, true, true, true] ?_
    exact Run.x 0
  · refine Run.z [false, false] ?_
    refine Run.q (e := vB) (gv := vT_Iv_Iv_I) (ok_impl_ValidPoint _) fun r2 hr2 => ?_
    refine Run.z [false, false] ?_
    refine Run.y (gv := vT_Iv_Iv_I) (fun h3 => ?_) (fun h3 => ?_)
    · exact Run.x 0
    · refine Run.q (e := vB) (gv := vT_Iv_Iv_I) (ok_impl_isPole _) fun r4 hr4 => ?_
      refine Run.y (gv := vT_Iv_Iv_I) (fun h5 => ?_) (fun h5 => ?_)
      · exact Run.x 0
      · refine Run.q (e := vIv) (gv := vT_Iv_Iv_I) (ok_impl_LatOf _) fun r6 hr6 => ?_
        refine Run.w (e := vIv) (gv := vT_Iv_Iv_I) [4] (ok_impl_conic_scale__pCn _ _) fun r7 hr7 => ?_
        refine Run.y (gv := vT_Iv_Iv_I) (fun h8 => ?_) (fun h8 => ?_)
        · refine Run.q (e := vIv) (gv := vT_Iv_Iv_I) (ok_impl_Integer _) fun r9 hr9 => ?_
          refine Run.q (e := vIv) (gv := vT_Iv_Iv_I) (ok_impl_DivI _ _) fun r10 hr10 => ?_
          refine Run.q (e := vT_Iv_Iv_I) (gv := vT_Iv_Iv_I) (ok_impl_pair _ _) fun r11 hr11 => ?_
          exact Run.x 0
        · refine Run.y (gv := vT_Iv_Iv_I) (fun h12 => ?_) (fun h12 => ?_)
          · refine Run.q (e := vT_Iv_Iv_I) (gv := vT_Iv_Iv_I) (ok_impl_pair _ _) fun r13 hr13 => ?_
            exact Run.x 0
          · refine Run.q (e := vIv) (gv := vT_Iv_Iv_I) (ok_impl_Integer _) fun r14 hr14 => ?_
            refine Run.q (e := vT_Iv_Iv_I) (gv := vT_Iv_Iv_I) (ok_impl_pair _ _) fun r15 hr15 => ?_
            exact Run.x 0

theorem ok_impl_TransverseScale (a0 : Pj) (a1 : Pt) : Fun Tryz.prog 116 [] #[vPj a0, vPt a1] (vT_Iv_I (F_impl_TransverseScale a0 a1)) [] := by
  refine Fun.ofH 400 E_ok mixed Tryz.func116 (by kernel_rfl) (by kernel_rfl) ?_
  unfold F_impl_TransverseScale
  refine Run.q (e := vT_Iv_Iv_Iv_I) (gv := vT_Iv_I) (ok_impl_transverse _ _) fun r1 _ => ?_
  refine Run.y (gv := vT_Iv_I) (fun _ => ?_) (fun _ => ?_)
  · exact Run.x 0
  · refine Run.q (e := vIv) (gv := vT_Iv_I) (ok_impl_Integer _) fun r2 _ => ?_
    refine Run.q (e := vIv) (gv := vT_Iv_I) (ok_impl_SqrI _) fun r3 _ => ?_
    refine Run.q (e := vIv) (gv := vT_Iv_I) (ok_impl_oneLess _) fun r4 _ => ?_
    refine Run.q (e := vIv) (gv := vT_Iv_I) (ok_impl_SqrtI _) fun r5 _ => ?_
    refine Run.q (e := vIv) (gv := vT_Iv_I) (ok_impl_DivI _ _) fun r6 _ => ?_
    refine Run.q (e := vT_Iv_I) (gv := vT_Iv_I) (ok_impl_knownI _) fun r7 _ => ?_
    exact Run.x 0

theorem ok_impl_ScalesOf (a0 : Pj) (a1 : Pt) : Fun Tryz.prog 28 [] #[vPj a0, vPt a1] (vT_Iv_Iv_I (F_impl_ScalesOf a0 a1)) [] := by
  refine Fun.ofH 400 E_ok mixed Tryz.func28 (by kernel_rfl) (by kernel_rfl) ?_
  unfold F_impl_ScalesOf
  refine Run.q (e := vB) (gv := vT_Iv_Iv_I) (ok_impl_ValidProjection _) fun r1 _ => ?_
  refine Run.y (gv := vT_Iv_Iv_I) (fun _ => ?_) (fun _ => ?_)
  · refine Run.z [true, true, true, true] ?_
    exact Run.x 0
  · refine Run.z [false] ?_
    refine Run.q (e := vB) (gv := vT_Iv_Iv_I) (ok_impl_ValidPoint _) fun r2 _ => ?_
    refine Run.z [false, false] ?_
    refine Run.y (gv := vT_Iv_Iv_I) (fun _ => ?_) (fun _ => ?_)
    · exact Run.x 0
    · refine Run.q (e := vI) (gv := vT_Iv_Iv_I) (ok_impl_FamilyOf _) fun r3 _ => ?_
      refine Run.y (gv := vT_Iv_Iv_I) (fun _ => ?_) (fun _ => ?_)
      · refine Run.q (e := vT_Iv_Iv_I) (gv := vT_Iv_Iv_I) (ok_impl_CylinderScales _ _) fun r4 _ => ?_
        exact Run.x 0
      · refine Run.y (gv := vT_Iv_Iv_I) (fun _ => ?_) (fun _ => ?_)
        · refine Run.q (e := vT_Iv_Iv_I) (gv := vT_Iv_Iv_I) (ok_impl_centreScales _ _) fun r5 _ => ?_
          exact Run.x 0
        · refine Run.y (gv := vT_Iv_Iv_I) (fun _ => ?_) (fun _ => ?_)
          · refine Run.q (e := vT_Iv_Iv_I) (gv := vT_Iv_Iv_I) (ok_impl_ConicScales _ _) fun r6 _ => ?_
            exact Run.x 0
          · refine Run.y (gv := vT_Iv_Iv_I) (fun _ => ?_) (fun _ => ?_)
            · refine Run.q (e := vT_Iv_I) (gv := vT_Iv_Iv_I) (ok_impl_TransverseScale _ _) fun r7 _ => ?_
              exact Run.x 0
            · exact Run.x 0

theorem ok_laws_FnExactScalesOf (a0 : Pj) (a1 : Pt) : Fun Tryz.prog 8 [] #[vPj a0, vPt a1] (vB (F_laws_FnExactScalesOf a0 a1)) [] := by
  refine Fun.ofH 400 E_ok mixed Tryz.func8 (by kernel_rfl) (by kernel_rfl) ?_
  unfold F_laws_FnExactScalesOf
  refine Run.q (e := vPj) (gv := vB) (ok_laws_toProjection _) fun r1 _ => ?_
  refine Run.q (e := vPt) (gv := vB) (ok_laws_toPoint _) fun r2 _ => ?_
  refine Run.q (e := vT_Iv_Iv_I) (gv := vB) (ok_spec_ScalesOf _ _) fun r3 _ => ?_
  refine Run.q (e := vPj) (gv := vB) (ok_laws_toProjection _) fun r4 _ => ?_
  refine Run.q (e := vPt) (gv := vB) (ok_laws_toPoint _) fun r5 _ => ?_
  refine Run.q (e := vT_Iv_Iv_I) (gv := vB) (ok_impl_ScalesOf _ _) fun r6 _ => ?_
  refine Run.q (e := vB) (gv := vB) (ok_laws_eqInterval _ _) fun r7 _ => ?_
  refine Run.y (gv := vB) (fun _ => ?_) (fun _ => ?_)
  · refine Run.z [true, true, true, true, true, true, true, true, true] ?_
    exact Run.x 0
  · refine Run.z [false, false] ?_
    refine Run.q (e := vB) (gv := vB) (ok_laws_eqInterval _ _) fun r8 _ => ?_
    refine Run.z [false, false] ?_
    refine Run.y (gv := vB) (fun _ => ?_) (fun _ => ?_)
    · refine Run.z [true, true, true, true] ?_
      exact Run.x 0
    · refine Run.z [false, false, false] ?_
      refine Run.y (gv := vB) (fun _ => ?_) (fun _ => ?_)
      · exact Run.x 0
      · exact Run.x 0

end Go.Proofs.YtclbkeejhnmeoaaGreat.Abs
