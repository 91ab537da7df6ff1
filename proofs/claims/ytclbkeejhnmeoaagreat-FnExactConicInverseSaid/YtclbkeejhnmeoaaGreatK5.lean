/- The program's functions are these; part 5 (written by w.py). -/
import Derived.Test.YtclbkeejhnmeoaaGreatK4
import Derived.Test.YtclbkeejhnmeoaaGreatF6
set_option linter.unusedVariables false
set_option linter.unusedSimpArgs false
namespace Go.Proofs.YtclbkeejhnmeoaaGreat.Abs
open Go Go.RowKit

theorem ok_spec_ValidEllipsoid (a0 : El) : Fun Tryz.prog 73 [] #[vEl a0] (vB (F_spec_ValidEllipsoid a0)) [] := by
  refine Fun.ofH 400 E_ok mixed Tryz.func73 (by kernel_rfl) (by kernel_rfl) ?_
  unfold F_spec_ValidEllipsoid
  refine Run.q (e := vB) (gv := vB) (ok_spec_l12Ok _) fun r1 _ => ?_
  exact Run.x 0

theorem ok_spec_l23Ok__pSf (b0 : Sf) : Fun Tryz.prog 74 [(#[.int .i64 b0.tx.val, .int .i64 b0.ty.val, .int .i64 b0.tz.val, .int .i64 b0.rx.val, .int .i64 b0.ry.val, .int .i64 b0.rz.val, .int .i64 b0.sc.val], 59)] #[.pointer (some ⟨0, 0, none⟩)] (vB (F_spec_l23Ok__pSf b0)) [(#[.int .i64 b0.tx.val, .int .i64 b0.ty.val, .int .i64 b0.tz.val, .int .i64 b0.rx.val, .int .i64 b0.ry.val, .int .i64 b0.rz.val, .int .i64 b0.sc.val], 59)] := by
  refine Fun.ofH 400 E_ok mixed Tryz.func74 (by kernel_rfl) (by kernel_rfl) ?_
  unfold F_spec_l23Ok__pSf
  refine Run.u 400 E_ok mixed Tryz.func74 ?_
  refine Run.z [true, true] ?_
  refine Run.q (e := vB) (gv := vB) (ok_spec_l00In _ _ _) fun r1 _ => ?_
  refine Run.y (gv := vB) (fun _ => ?_) (fun _ => ?_)
  · refine Run.z [true, true, true, true, true, true, true] ?_
    exact Run.x 1
  · refine Run.z [false, false, true, false, false] ?_
    refine Run.q (e := vB) (gv := vB) (ok_spec_l00In _ _ _) fun r2 _ => ?_
    refine Run.z [false, false] ?_
    refine Run.y (gv := vB) (fun _ => ?_) (fun _ => ?_)
    · exact Run.x 1
    · refine Run.u 400 E_ok mixed Tryz.func74 ?_
      refine Run.z [true, true] ?_
      refine Run.q (e := vB) (gv := vB) (ok_spec_l00In _ _ _) fun r3 _ => ?_
      refine Run.y (gv := vB) (fun _ => ?_) (fun _ => ?_)
      · refine Run.z [true, true, true, true, true, true, true] ?_
        exact Run.x 1
      · refine Run.z [false, false, true, false, false] ?_
        refine Run.q (e := vB) (gv := vB) (ok_spec_l00In _ _ _) fun r4 _ => ?_
        refine Run.z [false, false] ?_
        refine Run.y (gv := vB) (fun _ => ?_) (fun _ => ?_)
        · exact Run.x 1
        · refine Run.u 400 E_ok mixed Tryz.func74 ?_
          refine Run.z [true, true] ?_
          refine Run.q (e := vB) (gv := vB) (ok_spec_l00In _ _ _) fun r5 _ => ?_
          refine Run.y (gv := vB) (fun _ => ?_) (fun _ => ?_)
          · refine Run.z [true, true, true, true, true, true, true] ?_
            exact Run.x 1
          · refine Run.z [false, false, true, false, false] ?_
            refine Run.q (e := vB) (gv := vB) (ok_spec_l00In _ _ _) fun r6 _ => ?_
            refine Run.z [false, false] ?_
            refine Run.y (gv := vB) (fun _ => ?_) (fun _ => ?_)
            · exact Run.x 1
            · refine Run.u 400 E_ok mixed Tryz.func74 ?_
              refine Run.z [false] ?_
              refine Run.q (e := vB) (gv := vB) (ok_spec_l00In _ _ _) fun r7 _ => ?_
              exact Run.x 1

theorem ok_spec_l14Ok__pPl (b0 : Pl) : Fun Tryz.prog 75 [(#[.int .i64 b0.point.lat.val, .int .i64 b0.point.lon.val, .int .i64 b0.height.val], 62)] #[.pointer (some ⟨0, 0, none⟩)] (vB (F_spec_l14Ok__pPl b0)) [(#[.int .i64 b0.point.lat.val, .int .i64 b0.point.lon.val, .int .i64 b0.height.val], 62)] := by
  refine Fun.ofH 400 E_ok mixed Tryz.func75 (by kernel_rfl) (by kernel_rfl) ?_
  unfold F_spec_l14Ok__pPl
  refine Run.q (e := vB) (gv := vB) (ok_spec_l11Ok _) fun r1 _ => ?_
  refine Run.y (gv := vB) (fun _ => ?_) (fun _ => ?_)
  · refine Run.z [true, true, true, true] ?_
    refine Run.q (e := vB) (gv := vB) (ok_spec_l00In _ _ _) fun r2 _ => ?_
    refine Run.z [true] ?_
    exact Run.x 1
  · refine Run.z [false, false, false, false, false] ?_
    exact Run.x 1

theorem ok_spec_l23Arc (a0 : I64) : Fun Tryz.prog 183 [] #[vI a0] (vIv (F_spec_l23Arc a0)) [] := by
  refine Fun.ofH 400 E_ok mixed Tryz.func183 (by kernel_rfl) (by kernel_rfl) ?_
  unfold F_spec_l23Arc
  refine Run.q (e := vIv) (gv := vIv) (ok_spec_PiI) fun r1 _ => ?_
  refine Run.q (e := vIv) (gv := vIv) (ok_spec_Quotient _ _) fun r2 _ => ?_
  refine Run.q (e := vIv) (gv := vIv) (ok_spec_MulI _ _) fun r3 _ => ?_
  exact Run.x 0

theorem ok_spec_l23Affine__pSf (b0 : Sf) : Fun Tryz.prog 78 [(#[.int .i64 b0.tx.val, .int .i64 b0.ty.val, .int .i64 b0.tz.val, .int .i64 b0.rx.val, .int .i64 b0.ry.val, .int .i64 b0.rz.val, .int .i64 b0.sc.val], 59)] #[.pointer (some ⟨0, 0, none⟩)] (vAf (F_spec_l23Affine__pSf b0)) [(#[.int .i64 b0.tx.val, .int .i64 b0.ty.val, .int .i64 b0.tz.val, .int .i64 b0.rx.val, .int .i64 b0.ry.val, .int .i64 b0.rz.val, .int .i64 b0.sc.val], 59)] := by
  refine Fun.ofH 400 E_ok mixed Tryz.func78 (by kernel_rfl) (by kernel_rfl) ?_
  unfold F_spec_l23Affine__pSf
  refine Run.q (e := vIv) (gv := vAf) (ok_spec_Integer _) fun r1 _ => ?_
  refine Run.q (e := vIv) (gv := vAf) (ok_spec_Quotient _ _) fun r2 _ => ?_
  refine Run.q (e := vIv) (gv := vAf) (ok_spec_AddI _ _) fun r3 _ => ?_
  refine Run.q (e := vIv) (gv := vAf) (ok_spec_l23Arc _) fun r4 _ => ?_
  refine Run.q (e := vIv) (gv := vAf) (ok_spec_MulI _ _) fun r5 _ => ?_
  refine Run.q (e := vIv) (gv := vAf) (ok_spec_l23Arc _) fun r6 _ => ?_
  refine Run.q (e := vIv) (gv := vAf) (ok_spec_MulI _ _) fun r7 _ => ?_
  refine Run.q (e := vIv) (gv := vAf) (ok_spec_l23Arc _) fun r8 _ => ?_
  refine Run.q (e := vIv) (gv := vAf) (ok_spec_MulI _ _) fun r9 _ => ?_
  refine Run.q (e := vIv) (gv := vAf) (ok_spec_NegI _) fun r10 _ => ?_
  refine Run.q (e := vIv) (gv := vAf) (ok_spec_NegI _) fun r11 _ => ?_
  refine Run.q (e := vIv) (gv := vAf) (ok_spec_NegI _) fun r12 _ => ?_
  refine Run.q (e := vIv) (gv := vAf) (ok_spec_Quotient _ _) fun r13 _ => ?_
  refine Run.q (e := vIv) (gv := vAf) (ok_spec_Quotient _ _) fun r14 _ => ?_
  refine Run.q (e := vIv) (gv := vAf) (ok_spec_Quotient _ _) fun r15 _ => ?_
  exact Run.x 1

theorem ok_spec_MajorI (a0 : El) : Fun Tryz.prog 179 [] #[vEl a0] (vIv (F_spec_MajorI a0)) [] := by
  refine Fun.ofH 400 E_ok mixed Tryz.func179 (by kernel_rfl) (by kernel_rfl) ?_
  unfold F_spec_MajorI
  refine Run.q (e := vB) (gv := vIv) (ok_spec_l12Ok _) fun r1 _ => ?_
  refine Run.y (gv := vIv) (fun _ => ?_) (fun _ => ?_)
  · refine Run.q (e := vIv) (gv := vIv) (ok_spec_l04Whole) fun r2 _ => ?_
    exact Run.x 0
  · refine Run.q (e := vIv) (gv := vIv) (ok_spec_Quotient _ _) fun r3 _ => ?_
    exact Run.x 0

theorem ok_spec_FlatteningI (a0 : El) : Fun Tryz.prog 284 [] #[vEl a0] (vIv (F_spec_FlatteningI a0)) [] := by
  refine Fun.ofH 400 E_ok mixed Tryz.func284 (by kernel_rfl) (by kernel_rfl) ?_
  unfold F_spec_FlatteningI
  refine Run.q (e := vB) (gv := vIv) (ok_spec_l12Ok _) fun r1 _ => ?_
  refine Run.y (gv := vIv) (fun _ => ?_) (fun _ => ?_)
  · refine Run.q (e := vIv) (gv := vIv) (ok_spec_l04Whole) fun r2 _ => ?_
    exact Run.x 0
  · refine Run.q (e := vIv) (gv := vIv) (ok_spec_Quotient _ _) fun r3 _ => ?_
    exact Run.x 0

theorem ok_spec_EccI (a0 : El) : Fun Tryz.prog 178 [] #[vEl a0] (vIv (F_spec_EccI a0)) [] := by
  refine Fun.ofH 400 E_ok mixed Tryz.func178 (by kernel_rfl) (by kernel_rfl) ?_
  unfold F_spec_EccI
  refine Run.q (e := vIv) (gv := vIv) (ok_spec_FlatteningI _) fun r1 _ => ?_
  refine Run.q (e := vIv) (gv := vIv) (ok_spec_Integer _) fun r2 _ => ?_
  refine Run.q (e := vIv) (gv := vIv) (ok_spec_SubI _ _) fun r3 _ => ?_
  refine Run.q (e := vIv) (gv := vIv) (ok_spec_MulI _ _) fun r4 _ => ?_
  exact Run.x 0

theorem ok_spec_l12W (a0 : El) (a1 : Iv) : Fun Tryz.prog 288 [] #[vEl a0, vIv a1] (vIv (F_spec_l12W a0 a1)) [] := by
  refine Fun.ofH 400 E_ok mixed Tryz.func288 (by kernel_rfl) (by kernel_rfl) ?_
  unfold F_spec_l12W
  refine Run.q (e := vIv) (gv := vIv) (ok_spec_Integer _) fun r1 _ => ?_
  refine Run.q (e := vIv) (gv := vIv) (ok_spec_EccI _) fun r2 _ => ?_
  refine Run.q (e := vIv) (gv := vIv) (ok_spec_SinI _) fun r3 _ => ?_
  refine Run.q (e := vIv) (gv := vIv) (ok_spec_SqrI _) fun r4 _ => ?_
  refine Run.q (e := vIv) (gv := vIv) (ok_spec_MulI _ _) fun r5 _ => ?_
  refine Run.q (e := vIv) (gv := vIv) (ok_spec_SubI _ _) fun r6 _ => ?_
  exact Run.x 0

theorem ok_spec_RadiusN (a0 : El) (a1 : Iv) : Fun Tryz.prog 184 [] #[vEl a0, vIv a1] (vIv (F_spec_RadiusN a0 a1)) [] := by
  refine Fun.ofH 400 E_ok mixed Tryz.func184 (by kernel_rfl) (by kernel_rfl) ?_
  unfold F_spec_RadiusN
  refine Run.q (e := vIv) (gv := vIv) (ok_spec_MajorI _) fun r1 _ => ?_
  refine Run.q (e := vIv) (gv := vIv) (ok_spec_l12W _ _) fun r2 _ => ?_
  refine Run.q (e := vIv) (gv := vIv) (ok_spec_SqrtI _) fun r3 _ => ?_
  refine Run.q (e := vIv) (gv := vIv) (ok_spec_DivI _ _) fun r4 _ => ?_
  exact Run.x 0

theorem ok_spec_l14To__pPl (b0 : Pl) (a0 : El) : Fun Tryz.prog 79 [(#[.int .i64 b0.point.lat.val, .int .i64 b0.point.lon.val, .int .i64 b0.height.val], 62)] #[vEl a0, .pointer (some ⟨0, 0, none⟩)] (vVc (F_spec_l14To__pPl b0 a0)) [(#[.int .i64 b0.point.lat.val, .int .i64 b0.point.lon.val, .int .i64 b0.height.val], 62)] := by
  refine Fun.ofH 400 E_ok mixed Tryz.func79 (by kernel_rfl) (by kernel_rfl) ?_
  unfold F_spec_l14To__pPl
  refine Run.q (e := vIv) (gv := vVc) (ok_spec_RadiansOf _) fun r1 _ => ?_
  refine Run.q (e := vIv) (gv := vVc) (ok_spec_RadiansOf _) fun r2 _ => ?_
  refine Run.q (e := vIv) (gv := vVc) (ok_spec_RadiusN _ _) fun r3 _ => ?_
  refine Run.q (e := vIv) (gv := vVc) (ok_spec_Quotient _ _) fun r4 _ => ?_
  refine Run.q (e := vIv) (gv := vVc) (ok_spec_AddI _ _) fun r5 _ => ?_
  refine Run.q (e := vIv) (gv := vVc) (ok_spec_CosI _) fun r6 _ => ?_
  refine Run.q (e := vIv) (gv := vVc) (ok_spec_MulI _ _) fun r7 _ => ?_
  refine Run.q (e := vIv) (gv := vVc) (ok_spec_Integer _) fun r8 _ => ?_
  refine Run.q (e := vIv) (gv := vVc) (ok_spec_EccI _) fun r9 _ => ?_
  refine Run.q (e := vIv) (gv := vVc) (ok_spec_SubI _ _) fun r10 _ => ?_
  refine Run.q (e := vIv) (gv := vVc) (ok_spec_MulI _ _) fun r11 _ => ?_
  refine Run.q (e := vIv) (gv := vVc) (ok_spec_AddI _ _) fun r12 _ => ?_
  refine Run.q (e := vIv) (gv := vVc) (ok_spec_SinI _) fun r13 _ => ?_
  refine Run.q (e := vIv) (gv := vVc) (ok_spec_MulI _ _) fun r14 _ => ?_
  refine Run.q (e := vIv) (gv := vVc) (ok_spec_CosI _) fun r15 _ => ?_
  refine Run.q (e := vIv) (gv := vVc) (ok_spec_MulI _ _) fun r16 _ => ?_
  refine Run.q (e := vIv) (gv := vVc) (ok_spec_SinI _) fun r17 _ => ?_
  refine Run.q (e := vIv) (gv := vVc) (ok_spec_MulI _ _) fun r18 _ => ?_
  exact Run.x 1

theorem ok_spec_DotV (a0 : Vc) (a1 : Vc) : Fun Tryz.prog 285 [] #[vVc a0, vVc a1] (vIv (F_spec_DotV a0 a1)) [] := by
  refine Fun.ofH 400 E_ok mixed Tryz.func285 (by kernel_rfl) (by kernel_rfl) ?_
  unfold F_spec_DotV
  refine Run.q (e := vIv) (gv := vIv) (ok_spec_MulI _ _) fun r1 _ => ?_
  refine Run.q (e := vIv) (gv := vIv) (ok_spec_MulI _ _) fun r2 _ => ?_
  refine Run.q (e := vIv) (gv := vIv) (ok_spec_AddI _ _) fun r3 _ => ?_
  refine Run.q (e := vIv) (gv := vIv) (ok_spec_MulI _ _) fun r4 _ => ?_
  refine Run.q (e := vIv) (gv := vIv) (ok_spec_AddI _ _) fun r5 _ => ?_
  exact Run.x 0

theorem ok_spec_ApplyM (a0 : Mt) (a1 : Vc) : Fun Tryz.prog 181 [] #[vMt a0, vVc a1] (vVc (F_spec_ApplyM a0 a1)) [] := by
  refine Fun.ofH 400 E_ok mixed Tryz.func181 (by kernel_rfl) (by kernel_rfl) ?_
  unfold F_spec_ApplyM
  refine Run.q (e := vIv) (gv := vVc) (ok_spec_DotV _ _) fun r1 _ => ?_
  refine Run.q (e := vIv) (gv := vVc) (ok_spec_DotV _ _) fun r2 _ => ?_
  refine Run.q (e := vIv) (gv := vVc) (ok_spec_DotV _ _) fun r3 _ => ?_
  exact Run.x 0

theorem ok_spec_AddV (a0 : Vc) (a1 : Vc) : Fun Tryz.prog 180 [] #[vVc a0, vVc a1] (vVc (F_spec_AddV a0 a1)) [] := by
  refine Fun.ofH 400 E_ok mixed Tryz.func180 (by kernel_rfl) (by kernel_rfl) ?_
  unfold F_spec_AddV
  refine Run.q (e := vIv) (gv := vVc) (ok_spec_AddI _ _) fun r1 _ => ?_
  refine Run.q (e := vIv) (gv := vVc) (ok_spec_AddI _ _) fun r2 _ => ?_
  refine Run.q (e := vIv) (gv := vVc) (ok_spec_AddI _ _) fun r3 _ => ?_
  exact Run.x 0

theorem ok_spec_ApplyAffine (a0 : Af) (a1 : Vc) : Fun Tryz.prog 77 [] #[vAf a0, vVc a1] (vVc (F_spec_ApplyAffine a0 a1)) [] := by
  refine Fun.ofH 400 E_ok mixed Tryz.func77 (by kernel_rfl) (by kernel_rfl) ?_
  unfold F_spec_ApplyAffine
  refine Run.q (e := vVc) (gv := vVc) (ok_spec_ApplyM _ _) fun r1 _ => ?_
  refine Run.q (e := vVc) (gv := vVc) (ok_spec_AddV _ _) fun r2 _ => ?_
  exact Run.x 0

theorem ok_spec_l14Far (a0 : El) (a1 : Vc) : Fun Tryz.prog 176 [] #[vEl a0, vVc a1] (vI (F_spec_l14Far a0 a1)) [] := by
  refine Fun.ofH 400 E_ok mixed Tryz.func176 (by kernel_rfl) (by kernel_rfl) ?_
  unfold F_spec_l14Far
  refine Run.q (e := vB) (gv := vI) (ok_spec_ValidEllipsoid _) fun r1 _ => ?_
  refine Run.y (gv := vI) (fun _ => ?_) (fun _ => ?_)
  · exact Run.x 0
  · refine Run.q (e := vIv) (gv := vI) (ok_spec_NormV _) fun r2 _ => ?_
    refine Run.q (e := vIv) (gv := vI) (ok_spec_MajorI _) fun r3 _ => ?_
    refine Run.q (e := vIv) (gv := vI) (ok_spec_HalfI _) fun r4 _ => ?_
    refine Run.q (e := vI) (gv := vI) (ok_spec_LessI _ _) fun r5 _ => ?_
    refine Run.y (gv := vI) (fun _ => ?_) (fun _ => ?_)
    · exact Run.x 0
    · refine Run.y (gv := vI) (fun _ => ?_) (fun _ => ?_)
      · exact Run.x 0
      · exact Run.x 0

theorem ok_spec_l14Side (a0 : El) (a1 : Iv) (a2 : Iv) (a3 : I64) : Fun Tryz.prog 283 [] #[vEl a0, vIv a1, vIv a2, vI a3] (vIv (F_spec_l14Side a0 a1 a2 a3)) [] := by
  refine Fun.ofH 400 E_ok mixed Tryz.func283 (by kernel_rfl) (by kernel_rfl) ?_
  unfold F_spec_l14Side
  refine Run.q (e := vIv) (gv := vIv) (ok_spec_SinAt _) fun r1 _ => ?_
  refine Run.q (e := vIv) (gv := vIv) (ok_spec_CosAt _) fun r2 _ => ?_
  refine Run.q (e := vIv) (gv := vIv) (ok_spec_l05At _) fun r3 _ => ?_
  refine Run.q (e := vIv) (gv := vIv) (ok_spec_RadiusN _ _) fun r4 _ => ?_
  refine Run.q (e := vIv) (gv := vIv) (ok_spec_MulI _ _) fun r5 _ => ?_
  refine Run.q (e := vIv) (gv := vIv) (ok_spec_MulI _ _) fun r6 _ => ?_
  refine Run.q (e := vIv) (gv := vIv) (ok_spec_SubI _ _) fun r7 _ => ?_
  refine Run.q (e := vIv) (gv := vIv) (ok_spec_EccI _) fun r8 _ => ?_
  refine Run.q (e := vIv) (gv := vIv) (ok_spec_MulI _ _) fun r9 _ => ?_
  refine Run.q (e := vIv) (gv := vIv) (ok_spec_MulI _ _) fun r10 _ => ?_
  refine Run.q (e := vIv) (gv := vIv) (ok_spec_MulI _ _) fun r11 _ => ?_
  refine Run.q (e := vIv) (gv := vIv) (ok_spec_SubI _ _) fun r12 _ => ?_
  exact Run.x 0

theorem ok_spec_l14Lat_L1 : ∀ (fu : Nat) (a0 : El) (a1 : Vc) (r1 : Iv) (x_from : I64) (x_low : I64) (x_high : I64) (q0 : -6746518853 ≤ x_low.val) (q1 : x_low.val ≤ x_high.val) (q2 : x_high.val ≤ 6746518853) (hm : (x_high.val - x_low.val).toNat < fu) (t : Array Value) (ht : maskA t [0, 1, 8, 10, 11, 12, 13, 14, 15, 16, 17, 18, 19, 20, 21, 22, 23, 24, 25, 26, 27, 28, 29, 30, 31, 32, 33, 34, 35, 36, 37, 38, 39, 40, 41, 42, 43, 44, 45, 46, 47, 48, 49, 50, 51, 52, 53, 54, 55, 56, 57, 58, 59] = #[undef, undef, .pointer (some ⟨0, 0, none⟩), .pointer (some ⟨1, 0, none⟩), .pointer (some ⟨2, 0, none⟩), .pointer (some ⟨3, 0, none⟩), .int .i64 x_low.val, .int .i64 x_high.val, undef, .int .i64 x_from.val, undef, undef, undef, undef, undef, undef, undef, undef, undef, undef, undef, undef, undef, undef, undef, undef, undef, undef, undef, undef, undef, undef, undef, undef, undef, undef, undef, undef, undef, undef, undef, undef, undef, undef, undef, undef, undef, undef, undef, undef, undef, undef, undef, undef, undef, undef, undef, undef, undef, undef]), Cfg Tryz.prog 177 (loopAt Tryz.f177 1) t [(#[.int .i64 a0.a.val, .int .i64 a0.num.val, .int .i64 a0.den.val], 57), (#[.int .i64 a1.x.lo.val, .int .i64 a1.x.hi.val, .int .i64 a1.y.lo.val, .int .i64 a1.y.hi.val, .int .i64 a1.z.lo.val, .int .i64 a1.z.hi.val], 91), (#[.int .i64 0, .int .i64 0], 25), (#[.int .i64 r1.lo.val, .int .i64 r1.hi.val], 25)] (RvH [] (vIv (F_spec_l14Lat_L1 fu a0 a1 r1 x_from x_low x_high))) := by
  intro fu
  induction fu with
  | zero => intro a0 a1 r1 x_from x_low x_high q0 q1 q2 hm; exact absurd hm (Nat.not_lt_zero _)
  | succ fu ih =>
    intro a0 a1 r1 x_from x_low x_high q0 q1 q2 hm t ht
    refine Cfg.round E_ok mixed Tryz.func177 ht fun g => ?_
    unfold F_spec_l14Lat_L1
    refine Run.y (gv := vIv) (fun h8 => ?_) (fun h8 => ?_)
    · refine Run.z [true] ?_
      refine Run.q (e := vIv) (gv := vIv) (ok_spec_l14Side _ _ _ _) fun r9 hr9 => ?_
      refine Run.y (gv := vIv) (fun h10 => ?_) (fun h10 => ?_)
      · exact Run.l (by kernel_rfl) (by kernel_rfl) (by kernel_rfl) (by kernel_rfl) (ih a0 a1 r1 x_from x_low (ishr (w64 (x_low.val + x_high.val)) 1) (by first | exact Nat.lt_succ_self _ | (simp only [shr1_val, w64_val, c64_val, decide_eq_true_eq, decide_eq_false_iff_not, cond_true, cond_false] at *; omega)) (by first | exact Nat.lt_succ_self _ | (simp only [shr1_val, w64_val, c64_val, decide_eq_true_eq, decide_eq_false_iff_not, cond_true, cond_false] at *; omega)) (by first | exact Nat.lt_succ_self _ | (simp only [shr1_val, w64_val, c64_val, decide_eq_true_eq, decide_eq_false_iff_not, cond_true, cond_false] at *; omega)) (by first | exact Nat.lt_succ_self _ | (simp only [shr1_val, w64_val, c64_val, decide_eq_true_eq, decide_eq_false_iff_not, cond_true, cond_false] at *; omega)))
      · exact Run.l (by kernel_rfl) (by kernel_rfl) (by kernel_rfl) (by kernel_rfl) (ih a0 a1 r1 x_from (ishr (w64 (x_low.val + x_high.val)) 1) x_high (by first | exact Nat.lt_succ_self _ | (simp only [shr1_val, w64_val, c64_val, decide_eq_true_eq, decide_eq_false_iff_not, cond_true, cond_false] at *; omega)) (by first | exact Nat.lt_succ_self _ | (simp only [shr1_val, w64_val, c64_val, decide_eq_true_eq, decide_eq_false_iff_not, cond_true, cond_false] at *; omega)) (by first | exact Nat.lt_succ_self _ | (simp only [shr1_val, w64_val, c64_val, decide_eq_true_eq, decide_eq_false_iff_not, cond_true, cond_false] at *; omega)) (by first | exact Nat.lt_succ_self _ | (simp only [shr1_val, w64_val, c64_val, decide_eq_true_eq, decide_eq_false_iff_not, cond_true, cond_false] at *; omega)))
    · exact Run.x 0

theorem ok_spec_l14Lat_L0 : ∀ (fu : Nat) (a0 : El) (a1 : Vc) (r1 : Iv) (x_low : I64) (x_high : I64) (q0 : -6746518853 ≤ x_low.val) (q1 : x_low.val ≤ x_high.val) (q2 : x_high.val ≤ 6746518853) (hm : (x_high.val - x_low.val).toNat < fu) (t : Array Value) (ht : maskA t [0, 1, 8, 9, 10, 11, 12, 13, 14, 15, 16, 17, 18, 19, 20, 21, 22, 23, 24, 25, 26, 27, 28, 29, 30, 31, 32, 33, 34, 35, 36, 37, 38, 39, 40, 41, 42, 43, 44, 45, 46, 47, 48, 49, 50, 51, 52, 53, 54, 55, 56, 57, 58, 59] = #[undef, undef, .pointer (some ⟨0, 0, none⟩), .pointer (some ⟨1, 0, none⟩), .pointer (some ⟨2, 0, none⟩), .pointer (some ⟨3, 0, none⟩), .int .i64 x_low.val, .int .i64 x_high.val, undef, undef, undef, undef, undef, undef, undef, undef, undef, undef, undef, undef, undef, undef, undef, undef, undef, undef, undef, undef, undef, undef, undef, undef, undef, undef, undef, undef, undef, undef, undef, undef, undef, undef, undef, undef, undef, undef, undef, undef, undef, undef, undef, undef, undef, undef, undef, undef, undef, undef, undef, undef]), Cfg Tryz.prog 177 (loopAt Tryz.f177 0) t [(#[.int .i64 a0.a.val, .int .i64 a0.num.val, .int .i64 a0.den.val], 57), (#[.int .i64 a1.x.lo.val, .int .i64 a1.x.hi.val, .int .i64 a1.y.lo.val, .int .i64 a1.y.hi.val, .int .i64 a1.z.lo.val, .int .i64 a1.z.hi.val], 91), (#[.int .i64 0, .int .i64 0], 25), (#[.int .i64 r1.lo.val, .int .i64 r1.hi.val], 25)] (RvH [] (vIv (F_spec_l14Lat_L0 fu a0 a1 r1 x_low x_high))) := by
  intro fu
  induction fu with
  | zero => intro a0 a1 r1 x_low x_high q0 q1 q2 hm; exact absurd hm (Nat.not_lt_zero _)
  | succ fu ih =>
    intro a0 a1 r1 x_low x_high q0 q1 q2 hm t ht
    refine Cfg.round E_ok mixed Tryz.func177 ht fun g => ?_
    unfold F_spec_l14Lat_L0
    refine Run.y (gv := vIv) (fun h4 => ?_) (fun h4 => ?_)
    · refine Run.z [true] ?_
      refine Run.q (e := vIv) (gv := vIv) (ok_spec_l14Side _ _ _ _) fun r5 hr5 => ?_
      refine Run.y (gv := vIv) (fun h6 => ?_) (fun h6 => ?_)
      · exact Run.l (by kernel_rfl) (by kernel_rfl) (by kernel_rfl) (by kernel_rfl) (ih a0 a1 r1 (ishr (w64 (x_low.val + x_high.val)) 1) x_high (by first | exact Nat.lt_succ_self _ | (simp only [shr1_val, w64_val, c64_val, decide_eq_true_eq, decide_eq_false_iff_not, cond_true, cond_false] at *; omega)) (by first | exact Nat.lt_succ_self _ | (simp only [shr1_val, w64_val, c64_val, decide_eq_true_eq, decide_eq_false_iff_not, cond_true, cond_false] at *; omega)) (by first | exact Nat.lt_succ_self _ | (simp only [shr1_val, w64_val, c64_val, decide_eq_true_eq, decide_eq_false_iff_not, cond_true, cond_false] at *; omega)) (by first | exact Nat.lt_succ_self _ | (simp only [shr1_val, w64_val, c64_val, decide_eq_true_eq, decide_eq_false_iff_not, cond_true, cond_false] at *; omega)))
      · exact Run.l (by kernel_rfl) (by kernel_rfl) (by kernel_rfl) (by kernel_rfl) (ih a0 a1 r1 x_low (ishr (w64 (x_low.val + x_high.val)) 1) (by first | exact Nat.lt_succ_self _ | (simp only [shr1_val, w64_val, c64_val, decide_eq_true_eq, decide_eq_false_iff_not, cond_true, cond_false] at *; omega)) (by first | exact Nat.lt_succ_self _ | (simp only [shr1_val, w64_val, c64_val, decide_eq_true_eq, decide_eq_false_iff_not, cond_true, cond_false] at *; omega)) (by first | exact Nat.lt_succ_self _ | (simp only [shr1_val, w64_val, c64_val, decide_eq_true_eq, decide_eq_false_iff_not, cond_true, cond_false] at *; omega)) (by first | exact Nat.lt_succ_self _ | (simp only [shr1_val, w64_val, c64_val, decide_eq_true_eq, decide_eq_false_iff_not, cond_true, cond_false] at *; omega)))
    · refine Run.q (e := vIv) (gv := vIv) (ok_spec_l05Turn _ (by decide)) fun r7 hr7 => ?_
      exact Run.l (by kernel_rfl) (by kernel_rfl) (by kernel_rfl) (by kernel_rfl) (ok_spec_l14Lat_L1 ((r7.hi.val - x_low.val).toNat + 1) a0 a1 r1 x_low x_low r7.hi (by first | exact Nat.lt_succ_self _ | (have z := spec_turn1; rw [← hr7] at z; omega) | (have z := spec_turn1; (try simp only [w64_val]); subst_vars; (try simp only [w64_val]); omega)) (by first | exact Nat.lt_succ_self _ | (have z := spec_turn1; rw [← hr7] at z; omega) | (have z := spec_turn1; (try simp only [w64_val]); subst_vars; (try simp only [w64_val]); omega)) (by first | exact Nat.lt_succ_self _ | (have z := spec_turn1; rw [← hr7] at z; omega) | (have z := spec_turn1; (try simp only [w64_val]); subst_vars; (try simp only [w64_val]); omega)) (by first | exact Nat.lt_succ_self _ | (have z := spec_turn1; rw [← hr7] at z; omega) | (have z := spec_turn1; (try simp only [w64_val]); subst_vars; (try simp only [w64_val]); omega)))

theorem ok_spec_l14Lat (a0 : El) (a1 : Vc) : Fun Tryz.prog 177 [] #[vEl a0, vVc a1] (vIv (F_spec_l14Lat a0 a1)) [] := by
  refine Fun.ofH 400 E_ok mixed Tryz.func177 (by kernel_rfl) (by kernel_rfl) ?_
  unfold F_spec_l14Lat
  refine Run.q (e := vIv) (gv := vIv) (ok_spec_l15Flat _) fun r1 hr1 => ?_
  refine Run.q (e := vIv) (gv := vIv) (ok_spec_l05Turn _ (by decide)) fun r2 hr2 => ?_
  refine Run.q (e := vIv) (gv := vIv) (ok_spec_l05Turn _ (by decide)) fun r3 hr3 => ?_
  exact Run.l (by kernel_rfl) (by kernel_rfl) (by kernel_rfl) (by kernel_rfl) (ok_spec_l14Lat_L0 ((r3.hi.val - (w64 (0 - r2.hi.val)).val).toNat + 1) a0 a1 r1 (w64 (0 - r2.hi.val)) r3.hi (by first | exact Nat.lt_succ_self _ | (have z := spec_turn1; rw [← hr7] at z; omega) | (have z := spec_turn1; (try simp only [w64_val]); subst_vars; (try simp only [w64_val]); omega)) (by first | exact Nat.lt_succ_self _ | (have z := spec_turn1; rw [← hr7] at z; omega) | (have z := spec_turn1; (try simp only [w64_val]); subst_vars; (try simp only [w64_val]); omega)) (by first | exact Nat.lt_succ_self _ | (have z := spec_turn1; rw [← hr7] at z; omega) | (have z := spec_turn1; (try simp only [w64_val]); subst_vars; (try simp only [w64_val]); omega)) (by first | exact Nat.lt_succ_self _ | (have z := spec_turn1; rw [← hr7] at z; omega) | (have z := spec_turn1; (try simp only [w64_val]); subst_vars; (try simp only [w64_val]); omega)))

theorem ok_spec_FromCartesian (a0 : El) (a1 : Vc) : Fun Tryz.prog 76 [] #[vEl a0, vVc a1] (vT_Iv_Iv_Iv_I (F_spec_FromCartesian a0 a1)) [] := by
  refine Fun.ofH 400 E_ok mixed Tryz.func76 (by kernel_rfl) (by kernel_rfl) ?_
  unfold F_spec_FromCartesian
  refine Run.q (e := vI) (gv := vT_Iv_Iv_Iv_I) (ok_spec_l14Far _ _) fun r1 _ => ?_
  refine Run.y (gv := vT_Iv_Iv_Iv_I) (fun _ => ?_) (fun _ => ?_)
  · exact Run.x 0
  · refine Run.q (e := vIv) (gv := vT_Iv_Iv_Iv_I) (ok_spec_l14Lat _ _) fun r2 _ => ?_
    refine Run.q (e := vIv) (gv := vT_Iv_Iv_Iv_I) (ok_spec_SinI _) fun r3 _ => ?_
    refine Run.q (e := vIv) (gv := vT_Iv_Iv_Iv_I) (ok_spec_Integer _) fun r4 _ => ?_
    refine Run.q (e := vIv) (gv := vT_Iv_Iv_Iv_I) (ok_spec_EccI _) fun r5 _ => ?_
    refine Run.q (e := vIv) (gv := vT_Iv_Iv_Iv_I) (ok_spec_SqrI _) fun r6 _ => ?_
    refine Run.q (e := vIv) (gv := vT_Iv_Iv_Iv_I) (ok_spec_MulI _ _) fun r7 _ => ?_
    refine Run.q (e := vIv) (gv := vT_Iv_Iv_Iv_I) (ok_spec_SubI _ _) fun r8 _ => ?_
    refine Run.q (e := vIv) (gv := vT_Iv_Iv_Iv_I) (ok_spec_SqrtI _) fun r9 _ => ?_
    refine Run.q (e := vIv) (gv := vT_Iv_Iv_Iv_I) (ok_spec_l15Flat _) fun r10 _ => ?_
    refine Run.q (e := vIv) (gv := vT_Iv_Iv_Iv_I) (ok_spec_CosI _) fun r11 _ => ?_
    refine Run.q (e := vIv) (gv := vT_Iv_Iv_Iv_I) (ok_spec_MulI _ _) fun r12 _ => ?_
    refine Run.q (e := vIv) (gv := vT_Iv_Iv_Iv_I) (ok_spec_MulI _ _) fun r13 _ => ?_
    refine Run.q (e := vIv) (gv := vT_Iv_Iv_Iv_I) (ok_spec_AddI _ _) fun r14 _ => ?_
    refine Run.q (e := vIv) (gv := vT_Iv_Iv_Iv_I) (ok_spec_MajorI _) fun r15 _ => ?_
    refine Run.q (e := vIv) (gv := vT_Iv_Iv_Iv_I) (ok_spec_MulI _ _) fun r16 _ => ?_
    refine Run.q (e := vIv) (gv := vT_Iv_Iv_Iv_I) (ok_spec_SubI _ _) fun r17 _ => ?_
    refine Run.q (e := vB) (gv := vT_Iv_Iv_Iv_I) (ok_spec_IsWhole _) fun r18 _ => ?_
    refine Run.y (gv := vT_Iv_Iv_Iv_I) (fun _ => ?_) (fun _ => ?_)
    · exact Run.x 0
    · refine Run.q (e := vIv) (gv := vT_Iv_Iv_Iv_I) (ok_spec_DirectionI _ _) fun r19 _ => ?_
      exact Run.x 0

theorem ok_spec_MovePlace (a0 : El) (a1 : Sf) (a2 : El) (a3 : Pl) : Fun Tryz.prog 20 [] #[vEl a0, vSf a1, vEl a2, vPl a3] (vT_Iv_Iv_Iv_I (F_spec_MovePlace a0 a1 a2 a3)) [] := by
  refine Fun.ofH 400 E_ok mixed Tryz.func20 (by kernel_rfl) (by kernel_rfl) ?_
  unfold F_spec_MovePlace
  refine Run.q (e := vB) (gv := vT_Iv_Iv_Iv_I) (ok_spec_ValidEllipsoid _) fun r1 _ => ?_
  refine Run.y (gv := vT_Iv_Iv_Iv_I) (fun _ => ?_) (fun _ => ?_)
  · refine Run.z [true, true, true, true, true, true, true, true, true, true] ?_
    exact Run.x 0
  · refine Run.w (e := vB) (gv := vT_Iv_Iv_Iv_I) [1] (ok_spec_l23Ok__pSf _) fun r2 _ => ?_
    refine Run.z [false, false] ?_
    refine Run.y (gv := vT_Iv_Iv_Iv_I) (fun _ => ?_) (fun _ => ?_)
    · refine Run.z [true, true, true, true, true, true, true] ?_
      exact Run.x 0
    · refine Run.z [false] ?_
      refine Run.q (e := vB) (gv := vT_Iv_Iv_Iv_I) (ok_spec_ValidEllipsoid _) fun r3 _ => ?_
      refine Run.z [false, false] ?_
      refine Run.y (gv := vT_Iv_Iv_Iv_I) (fun _ => ?_) (fun _ => ?_)
      · refine Run.z [true, true, true] ?_
        exact Run.x 0
      · refine Run.w (e := vB) (gv := vT_Iv_Iv_Iv_I) [3] (ok_spec_l14Ok__pPl _) fun r4 _ => ?_
        refine Run.z [false, false] ?_
        refine Run.y (gv := vT_Iv_Iv_Iv_I) (fun _ => ?_) (fun _ => ?_)
        · exact Run.x 0
        · refine Run.w (e := vAf) (gv := vT_Iv_Iv_Iv_I) [1] (ok_spec_l23Affine__pSf _) fun r5 _ => ?_
          refine Run.w (e := vVc) (gv := vT_Iv_Iv_Iv_I) [3] (ok_spec_l14To__pPl _ _) fun r6 _ => ?_
          refine Run.q (e := vVc) (gv := vT_Iv_Iv_Iv_I) (ok_spec_ApplyAffine _ _) fun r7 _ => ?_
          refine Run.q (e := vT_Iv_Iv_Iv_I) (gv := vT_Iv_Iv_Iv_I) (ok_spec_FromCartesian _ _) fun r8 _ => ?_
          exact Run.x 0

theorem ok_impl_ValidEllipsoid (a0 : El) : Fun Tryz.prog 80 [] #[vEl a0] (vB (F_impl_ValidEllipsoid a0)) [] := by
  refine Fun.ofH 400 E_ok mixed Tryz.func80 (by kernel_rfl) (by kernel_rfl) ?_
  unfold F_impl_ValidEllipsoid
  refine Run.q (e := vB) (gv := vB) (ok_impl_within _ _ _) fun r1 _ => ?_
  refine Run.y (gv := vB) (fun _ => ?_) (fun _ => ?_)
  · refine Run.z [true, true] ?_
    refine Run.q (e := vB) (gv := vB) (ok_impl_within _ _ _) fun r2 _ => ?_
    refine Run.z [true] ?_
    refine Run.y (gv := vB) (fun _ => ?_) (fun _ => ?_)
    · refine Run.z [true, true, true, true, true, true] ?_
      refine Run.q (e := vB) (gv := vB) (ok_impl_within _ _ _) fun r3 _ => ?_
      refine Run.z [true] ?_
      exact Run.x 0
    · refine Run.z [false, false, false, false, false, false] ?_
      exact Run.x 0
  · refine Run.z [false, false, false, false, false, false, false, false, false, false] ?_
    exact Run.x 0

theorem ok_impl_areWithin__s3 (b0_0 : I64) (b0_1 : I64) (b0_2 : I64) (a0 : I64) : Fun Tryz.prog 185 [(#[.int .i64 b0_0.val, .int .i64 b0_1.val, .int .i64 b0_2.val], 2)] #[vI a0, .slice (some ⟨0, 0, none⟩) 3 3] (vB (F_impl_areWithin__s3 b0_0 b0_1 b0_2 a0)) [(#[.int .i64 b0_0.val, .int .i64 b0_1.val, .int .i64 b0_2.val], 2)] := by
  refine Fun.ofH 400 E_ok mixed Tryz.func185 (by kernel_rfl) (by kernel_rfl) ?_
  unfold F_impl_areWithin__s3
  refine Run.u 400 E_ok mixed Tryz.func185 ?_
  refine Run.z [true, true] ?_
  refine Run.q (e := vB) (gv := vB) (ok_impl_within _ _ _) fun r1 _ => ?_
  refine Run.y (gv := vB) (fun _ => ?_) (fun _ => ?_)
  · exact Run.x 1
  · refine Run.u 400 E_ok mixed Tryz.func185 ?_
    refine Run.z [true, true] ?_
    refine Run.q (e := vB) (gv := vB) (ok_impl_within _ _ _) fun r2 _ => ?_
    refine Run.y (gv := vB) (fun _ => ?_) (fun _ => ?_)
    · exact Run.x 1
    · refine Run.u 400 E_ok mixed Tryz.func185 ?_
      refine Run.z [true, true] ?_
      refine Run.q (e := vB) (gv := vB) (ok_impl_within _ _ _) fun r3 _ => ?_
      refine Run.y (gv := vB) (fun _ => ?_) (fun _ => ?_)
      · exact Run.x 1
      · refine Run.u 400 E_ok mixed Tryz.func185 ?_
        refine Run.z [false] ?_
        exact Run.x 1

theorem ok_impl_areWithin__s1 (b0 : I64) (a0 : I64) : Fun Tryz.prog 185 [(#[.int .i64 b0.val], 2)] #[vI a0, .slice (some ⟨0, 0, none⟩) 1 1] (vB (F_impl_areWithin__s1 b0 a0)) [(#[.int .i64 b0.val], 2)] := by
  refine Fun.ofH 400 E_ok mixed Tryz.func185 (by kernel_rfl) (by kernel_rfl) ?_
  unfold F_impl_areWithin__s1
  refine Run.u 400 E_ok mixed Tryz.func185 ?_
  refine Run.z [true, true] ?_
  refine Run.q (e := vB) (gv := vB) (ok_impl_within _ _ _) fun r1 _ => ?_
  refine Run.y (gv := vB) (fun _ => ?_) (fun _ => ?_)
  · exact Run.x 1
  · refine Run.u 400 E_ok mixed Tryz.func185 ?_
    refine Run.z [false] ?_
    exact Run.x 1

theorem ok_impl_ValidShift (a0 : Sf) : Fun Tryz.prog 81 [] #[vSf a0] (vB (F_impl_ValidShift a0)) [] := by
  refine Fun.ofH 400 E_ok mixed Tryz.func81 (by kernel_rfl) (by kernel_rfl) ?_
  unfold F_impl_ValidShift
  refine Run.w (e := vB) (gv := vB) [1] (ok_impl_areWithin__s3 _ _ _ _) fun r1 _ => ?_
  refine Run.y (gv := vB) (fun _ => ?_) (fun _ => ?_)
  · refine Run.z [true, true, true, true, true, true, true] ?_
    refine Run.w (e := vB) (gv := vB) [2] (ok_impl_areWithin__s3 _ _ _ _) fun r2 _ => ?_
    refine Run.z [true] ?_
    refine Run.y (gv := vB) (fun _ => ?_) (fun _ => ?_)
    · refine Run.z [true, true, true] ?_
      refine Run.w (e := vB) (gv := vB) [3] (ok_impl_areWithin__s1 _ _) fun r3 _ => ?_
      refine Run.z [true] ?_
      exact Run.x 0
    · refine Run.z [false, false, false, false] ?_
      exact Run.x 0
  · refine Run.z [false, false, false, false, false, false, false, false, false, false, false, false, false] ?_
    exact Run.x 0

theorem ok_impl_isHeight (a0 : I64) : Fun Tryz.prog 186 [] #[vI a0] (vB (F_impl_isHeight a0)) [] := by
  refine Fun.ofH 400 E_ok mixed Tryz.func186 (by kernel_rfl) (by kernel_rfl) ?_
  unfold F_impl_isHeight
  refine Run.q (e := vB) (gv := vB) (ok_impl_within _ _ _) fun r1 _ => ?_
  exact Run.x 0

theorem ok_impl_ValidPlace (a0 : Pl) : Fun Tryz.prog 82 [] #[vPl a0] (vB (F_impl_ValidPlace a0)) [] := by
  refine Fun.ofH 400 E_ok mixed Tryz.func82 (by kernel_rfl) (by kernel_rfl) ?_
  unfold F_impl_ValidPlace
  refine Run.q (e := vB) (gv := vB) (ok_impl_ValidPoint _) fun r1 _ => ?_
  refine Run.y (gv := vB) (fun _ => ?_) (fun _ => ?_)
  · refine Run.z [true, true] ?_
    refine Run.q (e := vB) (gv := vB) (ok_impl_isHeight _) fun r2 _ => ?_
    refine Run.z [true] ?_
    exact Run.x 0
  · refine Run.z [false, false, false] ?_
    exact Run.x 0

theorem ok_impl_affineOf_1__pIv (b0 : Iv) (a0 : I64) : Fun Tryz.prog 195 [(#[.int .i64 b0.lo.val, .int .i64 b0.hi.val], 25)] #[vI a0, .pointer (some ⟨0, 0, none⟩)] (vIv (F_impl_affineOf_1__pIv b0 a0)) [(#[.int .i64 b0.lo.val, .int .i64 b0.hi.val], 25)] := by
  refine Fun.ofH 400 E_ok mixed Tryz.func195 (by kernel_rfl) (by kernel_rfl) ?_
  unfold F_impl_affineOf_1__pIv
  refine Run.q (e := vIv) (gv := vIv) (ok_impl_PiI) fun r1 _ => ?_
  refine Run.q (e := vIv) (gv := vIv) (ok_impl_Quotient _ _) fun r2 _ => ?_
  refine Run.q (e := vIv) (gv := vIv) (ok_impl_MulI _ _) fun r3 _ => ?_
  refine Run.q (e := vIv) (gv := vIv) (ok_impl_MulI _ _) fun r4 _ => ?_
  exact Run.x 1

theorem ok_impl_affineOf (a0 : Sf) : Fun Tryz.prog 85 [] #[vSf a0] (vAf (F_impl_affineOf a0)) [] := by
  refine Fun.ofH 400 E_ok mixed Tryz.func85 (by kernel_rfl) (by kernel_rfl) ?_
  unfold F_impl_affineOf
  refine Run.q (e := vIv) (gv := vAf) (ok_impl_Integer _) fun r1 _ => ?_
  refine Run.q (e := vIv) (gv := vAf) (ok_impl_Quotient _ _) fun r2 _ => ?_
  refine Run.q (e := vIv) (gv := vAf) (ok_impl_AddI _ _) fun r3 _ => ?_
  refine Run.w (e := vIv) (gv := vAf) [2] (ok_impl_affineOf_1__pIv _ _) fun r4 _ => ?_
  refine Run.w (e := vIv) (gv := vAf) [2] (ok_impl_affineOf_1__pIv _ _) fun r5 _ => ?_
  refine Run.w (e := vIv) (gv := vAf) [2] (ok_impl_affineOf_1__pIv _ _) fun r6 _ => ?_
  refine Run.q (e := vIv) (gv := vAf) (ok_impl_NegI _) fun r7 _ => ?_
  refine Run.q (e := vIv) (gv := vAf) (ok_impl_NegI _) fun r8 _ => ?_
  refine Run.q (e := vIv) (gv := vAf) (ok_impl_NegI _) fun r9 _ => ?_
  refine Run.q (e := vIv) (gv := vAf) (ok_impl_Quotient _ _) fun r10 _ => ?_
  refine Run.q (e := vIv) (gv := vAf) (ok_impl_Quotient _ _) fun r11 _ => ?_
  refine Run.q (e := vIv) (gv := vAf) (ok_impl_Quotient _ _) fun r12 _ => ?_
  exact Run.x 0

theorem ok_impl_LonOf (a0 : Pt) : Fun Tryz.prog 196 [] #[vPt a0] (vIv (F_impl_LonOf a0)) [] := by
  refine Fun.ofH 400 E_ok mixed Tryz.func196 (by kernel_rfl) (by kernel_rfl) ?_
  unfold F_impl_LonOf
  refine Run.q (e := vB) (gv := vIv) (ok_impl_ValidPoint _) fun r1 _ => ?_
  refine Run.y (gv := vIv) (fun _ => ?_) (fun _ => ?_)
  · refine Run.q (e := vIv) (gv := vIv) (ok_impl_Whole) fun r2 _ => ?_
    exact Run.x 0
  · refine Run.q (e := vIv) (gv := vIv) (ok_impl_RadiansOf _) fun r3 _ => ?_
    exact Run.x 0

theorem ok_impl_MajorI_1__pEl (b0 : El) : Fun Tryz.prog 291 [(#[.int .i64 b0.a.val, .int .i64 b0.num.val, .int .i64 b0.den.val], 57)] #[.pointer (some ⟨0, 0, none⟩)] (vIv (F_impl_MajorI_1__pEl b0)) [(#[.int .i64 b0.a.val, .int .i64 b0.num.val, .int .i64 b0.den.val], 57)] := by
  refine Fun.ofH 400 E_ok mixed Tryz.func291 (by kernel_rfl) (by kernel_rfl) ?_
  unfold F_impl_MajorI_1__pEl
  refine Run.q (e := vIv) (gv := vIv) (ok_impl_Quotient _ _) fun r1 _ => ?_
  exact Run.x 1

theorem ok_impl_ifValid__impl_MajorI_1_pEl (b0 : El) (a0 : El) : Fun Tryz.prog 290 [(#[.int .i64 b0.a.val, .int .i64 b0.num.val, .int .i64 b0.den.val], 57)] #[vEl a0, .func (.func 291) #[] #[.pointer (some ⟨0, 0, none⟩)]] (vIv (F_impl_ifValid__impl_MajorI_1_pEl b0 a0)) [(#[.int .i64 b0.a.val, .int .i64 b0.num.val, .int .i64 b0.den.val], 57)] := by
  refine Fun.ofH 400 E_ok mixed Tryz.func290 (by kernel_rfl) (by kernel_rfl) ?_
  unfold F_impl_ifValid__impl_MajorI_1_pEl
  refine Run.q (e := vB) (gv := vIv) (ok_impl_ValidEllipsoid _) fun r1 _ => ?_
  refine Run.y (gv := vIv) (fun _ => ?_) (fun _ => ?_)
  · refine Run.q (e := vIv) (gv := vIv) (ok_impl_Whole) fun r2 _ => ?_
    exact Run.x 1
  · refine Run.w (e := vIv) (gv := vIv) [0] (ok_impl_MajorI_1__pEl _) fun r3 _ => ?_
    exact Run.x 1

theorem ok_impl_MajorI (a0 : El) : Fun Tryz.prog 189 [] #[vEl a0] (vIv (F_impl_MajorI a0)) [] := by
  refine Fun.ofH 400 E_ok mixed Tryz.func189 (by kernel_rfl) (by kernel_rfl) ?_
  unfold F_impl_MajorI
  refine Run.w (e := vIv) (gv := vIv) [0] (ok_impl_ifValid__impl_MajorI_1_pEl _ _) fun r1 _ => ?_
  exact Run.x 0

theorem ok_impl_FlatteningI_1__pEl (b0 : El) : Fun Tryz.prog 364 [(#[.int .i64 b0.a.val, .int .i64 b0.num.val, .int .i64 b0.den.val], 57)] #[.pointer (some ⟨0, 0, none⟩)] (vIv (F_impl_FlatteningI_1__pEl b0)) [(#[.int .i64 b0.a.val, .int .i64 b0.num.val, .int .i64 b0.den.val], 57)] := by
  refine Fun.ofH 400 E_ok mixed Tryz.func364 (by kernel_rfl) (by kernel_rfl) ?_
  unfold F_impl_FlatteningI_1__pEl
  refine Run.q (e := vIv) (gv := vIv) (ok_impl_Quotient _ _) fun r1 _ => ?_
  exact Run.x 1

theorem ok_impl_ifValid__impl_FlatteningI_1_pEl (b0 : El) (a0 : El) : Fun Tryz.prog 290 [(#[.int .i64 b0.a.val, .int .i64 b0.num.val, .int .i64 b0.den.val], 57)] #[vEl a0, .func (.func 364) #[] #[.pointer (some ⟨0, 0, none⟩)]] (vIv (F_impl_ifValid__impl_FlatteningI_1_pEl b0 a0)) [(#[.int .i64 b0.a.val, .int .i64 b0.num.val, .int .i64 b0.den.val], 57)] := by
  refine Fun.ofH 400 E_ok mixed Tryz.func290 (by kernel_rfl) (by kernel_rfl) ?_
  unfold F_impl_ifValid__impl_FlatteningI_1_pEl
  refine Run.q (e := vB) (gv := vIv) (ok_impl_ValidEllipsoid _) fun r1 _ => ?_
  refine Run.y (gv := vIv) (fun _ => ?_) (fun _ => ?_)
  · refine Run.q (e := vIv) (gv := vIv) (ok_impl_Whole) fun r2 _ => ?_
    exact Run.x 1
  · refine Run.w (e := vIv) (gv := vIv) [0] (ok_impl_FlatteningI_1__pEl _) fun r3 _ => ?_
    exact Run.x 1

theorem ok_impl_FlatteningI (a0 : El) : Fun Tryz.prog 295 [] #[vEl a0] (vIv (F_impl_FlatteningI a0)) [] := by
  refine Fun.ofH 400 E_ok mixed Tryz.func295 (by kernel_rfl) (by kernel_rfl) ?_
  unfold F_impl_FlatteningI
  refine Run.w (e := vIv) (gv := vIv) [0] (ok_impl_ifValid__impl_FlatteningI_1_pEl _ _) fun r1 _ => ?_
  exact Run.x 0

theorem ok_impl_EccI (a0 : El) : Fun Tryz.prog 199 [] #[vEl a0] (vIv (F_impl_EccI a0)) [] := by
  refine Fun.ofH 400 E_ok mixed Tryz.func199 (by kernel_rfl) (by kernel_rfl) ?_
  unfold F_impl_EccI
  refine Run.q (e := vIv) (gv := vIv) (ok_impl_FlatteningI _) fun r1 _ => ?_
  refine Run.q (e := vIv) (gv := vIv) (ok_impl_Integer _) fun r2 _ => ?_
  refine Run.q (e := vIv) (gv := vIv) (ok_impl_SubI _ _) fun r3 _ => ?_
  refine Run.q (e := vIv) (gv := vIv) (ok_impl_MulI _ _) fun r4 _ => ?_
  exact Run.x 0

theorem ok_impl_weightOf (a0 : El) (a1 : Iv) : Fun Tryz.prog 190 [] #[vEl a0, vIv a1] (vIv (F_impl_weightOf a0 a1)) [] := by
  refine Fun.ofH 400 E_ok mixed Tryz.func190 (by kernel_rfl) (by kernel_rfl) ?_
  unfold F_impl_weightOf
  refine Run.q (e := vIv) (gv := vIv) (ok_impl_EccI _) fun r1 _ => ?_
  refine Run.q (e := vIv) (gv := vIv) (ok_impl_SqrI _) fun r2 _ => ?_
  refine Run.q (e := vIv) (gv := vIv) (ok_impl_MulI _ _) fun r3 _ => ?_
  refine Run.q (e := vIv) (gv := vIv) (ok_impl_oneLess _) fun r4 _ => ?_
  exact Run.x 0

theorem ok_impl_RadiusN (a0 : El) (a1 : Iv) : Fun Tryz.prog 197 [] #[vEl a0, vIv a1] (vIv (F_impl_RadiusN a0 a1)) [] := by
  refine Fun.ofH 400 E_ok mixed Tryz.func197 (by kernel_rfl) (by kernel_rfl) ?_
  unfold F_impl_RadiusN
  refine Run.q (e := vIv) (gv := vIv) (ok_impl_MajorI _) fun r1 _ => ?_
  refine Run.q (e := vIv) (gv := vIv) (ok_impl_SinI _) fun r2 _ => ?_
  refine Run.q (e := vIv) (gv := vIv) (ok_impl_weightOf _ _) fun r3 _ => ?_
  refine Run.q (e := vIv) (gv := vIv) (ok_impl_SqrtI _) fun r4 _ => ?_
  refine Run.q (e := vIv) (gv := vIv) (ok_impl_DivI _ _) fun r5 _ => ?_
  exact Run.x 0

theorem ok_impl_HeightI (a0 : I64) : Fun Tryz.prog 198 [] #[vI a0] (vIv (F_impl_HeightI a0)) [] := by
  refine Fun.ofH 400 E_ok mixed Tryz.func198 (by kernel_rfl) (by kernel_rfl) ?_
  unfold F_impl_HeightI
  refine Run.q (e := vB) (gv := vIv) (ok_impl_isHeight _) fun r1 _ => ?_
  refine Run.y (gv := vIv) (fun _ => ?_) (fun _ => ?_)
  · refine Run.q (e := vIv) (gv := vIv) (ok_impl_Whole) fun r2 _ => ?_
    exact Run.x 0
  · refine Run.q (e := vIv) (gv := vIv) (ok_impl_Quotient _ _) fun r3 _ => ?_
    exact Run.x 0

theorem ok_impl_toCartesian (a0 : El) (a1 : Pl) : Fun Tryz.prog 86 [] #[vEl a0, vPl a1] (vVc (F_impl_toCartesian a0 a1)) [] := by
  refine Fun.ofH 400 E_ok mixed Tryz.func86 (by kernel_rfl) (by kernel_rfl) ?_
  unfold F_impl_toCartesian
  refine Run.q (e := vIv) (gv := vVc) (ok_impl_LatOf _) fun r1 _ => ?_
  refine Run.q (e := vIv) (gv := vVc) (ok_impl_LonOf _) fun r2 _ => ?_
  refine Run.q (e := vIv) (gv := vVc) (ok_impl_RadiusN _ _) fun r3 _ => ?_
  refine Run.q (e := vIv) (gv := vVc) (ok_impl_HeightI _) fun r4 _ => ?_
  refine Run.q (e := vIv) (gv := vVc) (ok_impl_AddI _ _) fun r5 _ => ?_
  refine Run.q (e := vIv) (gv := vVc) (ok_impl_CosI _) fun r6 _ => ?_
  refine Run.q (e := vIv) (gv := vVc) (ok_impl_MulI _ _) fun r7 _ => ?_
  refine Run.q (e := vIv) (gv := vVc) (ok_impl_CosI _) fun r8 _ => ?_
  refine Run.q (e := vIv) (gv := vVc) (ok_impl_MulI _ _) fun r9 _ => ?_
  refine Run.q (e := vIv) (gv := vVc) (ok_impl_SinI _) fun r10 _ => ?_
  refine Run.q (e := vIv) (gv := vVc) (ok_impl_MulI _ _) fun r11 _ => ?_
  refine Run.q (e := vIv) (gv := vVc) (ok_impl_EccI _) fun r12 _ => ?_
  refine Run.q (e := vIv) (gv := vVc) (ok_impl_oneLess _) fun r13 _ => ?_
  refine Run.q (e := vIv) (gv := vVc) (ok_impl_MulI _ _) fun r14 _ => ?_
  refine Run.q (e := vIv) (gv := vVc) (ok_impl_AddI _ _) fun r15 _ => ?_
  refine Run.q (e := vIv) (gv := vVc) (ok_impl_SinI _) fun r16 _ => ?_
  refine Run.q (e := vIv) (gv := vVc) (ok_impl_MulI _ _) fun r17 _ => ?_
  exact Run.x 0

theorem ok_impl_DotV (a0 : Vc) (a1 : Vc) : Fun Tryz.prog 292 [] #[vVc a0, vVc a1] (vIv (F_impl_DotV a0 a1)) [] := by
  refine Fun.ofH 400 E_ok mixed Tryz.func292 (by kernel_rfl) (by kernel_rfl) ?_
  unfold F_impl_DotV
  refine Run.q (e := vIv) (gv := vIv) (ok_impl_MulI _ _) fun r1 _ => ?_
  refine Run.q (e := vIv) (gv := vIv) (ok_impl_MulI _ _) fun r2 _ => ?_
  refine Run.q (e := vIv) (gv := vIv) (ok_impl_AddI _ _) fun r3 _ => ?_
  refine Run.q (e := vIv) (gv := vIv) (ok_impl_MulI _ _) fun r4 _ => ?_
  refine Run.q (e := vIv) (gv := vIv) (ok_impl_AddI _ _) fun r5 _ => ?_
  exact Run.x 0

theorem ok_impl_ApplyM (a0 : Mt) (a1 : Vc) : Fun Tryz.prog 193 [] #[vMt a0, vVc a1] (vVc (F_impl_ApplyM a0 a1)) [] := by
  refine Fun.ofH 400 E_ok mixed Tryz.func193 (by kernel_rfl) (by kernel_rfl) ?_
  unfold F_impl_ApplyM
  refine Run.q (e := vIv) (gv := vVc) (ok_impl_DotV _ _) fun r1 _ => ?_
  refine Run.q (e := vIv) (gv := vVc) (ok_impl_DotV _ _) fun r2 _ => ?_
  refine Run.q (e := vIv) (gv := vVc) (ok_impl_DotV _ _) fun r3 _ => ?_
  exact Run.x 0

theorem ok_impl_AddV (a0 : Vc) (a1 : Vc) : Fun Tryz.prog 192 [] #[vVc a0, vVc a1] (vVc (F_impl_AddV a0 a1)) [] := by
  refine Fun.ofH 400 E_ok mixed Tryz.func192 (by kernel_rfl) (by kernel_rfl) ?_
  unfold F_impl_AddV
  refine Run.q (e := vIv) (gv := vVc) (ok_impl_AddI _ _) fun r1 _ => ?_
  refine Run.q (e := vIv) (gv := vVc) (ok_impl_AddI _ _) fun r2 _ => ?_
  refine Run.q (e := vIv) (gv := vVc) (ok_impl_AddI _ _) fun r3 _ => ?_
  exact Run.x 0

theorem ok_impl_ApplyAffine (a0 : Af) (a1 : Vc) : Fun Tryz.prog 84 [] #[vAf a0, vVc a1] (vVc (F_impl_ApplyAffine a0 a1)) [] := by
  refine Fun.ofH 400 E_ok mixed Tryz.func84 (by kernel_rfl) (by kernel_rfl) ?_
  unfold F_impl_ApplyAffine
  refine Run.q (e := vVc) (gv := vVc) (ok_impl_ApplyM _ _) fun r1 _ => ?_
  refine Run.q (e := vVc) (gv := vVc) (ok_impl_AddV _ _) fun r2 _ => ?_
  exact Run.x 0

theorem ok_impl_centreCode (a0 : El) (a1 : Vc) : Fun Tryz.prog 187 [] #[vEl a0, vVc a1] (vI (F_impl_centreCode a0 a1)) [] := by
  refine Fun.ofH 400 E_ok mixed Tryz.func187 (by kernel_rfl) (by kernel_rfl) ?_
  unfold F_impl_centreCode
  refine Run.q (e := vB) (gv := vI) (ok_impl_ValidEllipsoid _) fun r1 _ => ?_
  refine Run.y (gv := vI) (fun _ => ?_) (fun _ => ?_)
  · exact Run.x 0
  · refine Run.q (e := vIv) (gv := vI) (ok_impl_NormV _) fun r2 _ => ?_
    refine Run.q (e := vIv) (gv := vI) (ok_impl_MajorI _) fun r3 _ => ?_
    refine Run.q (e := vIv) (gv := vI) (ok_impl_HalfI _) fun r4 _ => ?_
    refine Run.q (e := vI) (gv := vI) (ok_impl_LessI _ _) fun r5 _ => ?_
    refine Run.y (gv := vI) (fun _ => ?_) (fun _ => ?_)
    · exact Run.x 0
    · refine Run.y (gv := vI) (fun _ => ?_) (fun _ => ?_)
      · exact Run.x 0
      · exact Run.x 0

theorem ok_impl_quarter : Fun Tryz.prog 229 [] #[] (vI (F_impl_quarter)) [] := by
  refine Fun.ofH 400 E_ok mixed Tryz.func229 (by kernel_rfl) (by kernel_rfl) ?_
  unfold F_impl_quarter
  refine Run.q (e := vIv) (gv := vI) (ok_impl_TurnI _) fun r1 _ => ?_
  exact Run.x 0

theorem ok_impl_SideAt (a0 : El) (a1 : Vc) (a2 : I64) : Fun Tryz.prog 289 [] #[vEl a0, vVc a1, vI a2] (vIv (F_impl_SideAt a0 a1 a2)) [] := by
  refine Fun.ofH 400 E_ok mixed Tryz.func289 (by kernel_rfl) (by kernel_rfl) ?_
  unfold F_impl_SideAt
  refine Run.q (e := vB) (gv := vIv) (ok_impl_ValidEllipsoid _) fun r1 _ => ?_
  refine Run.y (gv := vIv) (fun _ => ?_) (fun _ => ?_)
  · refine Run.q (e := vIv) (gv := vIv) (ok_impl_Whole) fun r2 _ => ?_
    exact Run.x 0
  · refine Run.q (e := vIv) (gv := vIv) (ok_impl_SinAt _) fun r3 _ => ?_
    refine Run.q (e := vIv) (gv := vIv) (ok_impl_CosAt _) fun r4 _ => ?_
    refine Run.q (e := vIv) (gv := vIv) (ok_impl_EccI _) fun r5 _ => ?_
    refine Run.q (e := vIv) (gv := vIv) (ok_impl_at _) fun r6 _ => ?_
    refine Run.q (e := vIv) (gv := vIv) (ok_impl_RadiusN _ _) fun r7 _ => ?_
    refine Run.q (e := vIv) (gv := vIv) (ok_impl_MulI _ _) fun r8 _ => ?_
    refine Run.q (e := vIv) (gv := vIv) (ok_impl_MulI _ _) fun r9 _ => ?_
    refine Run.q (e := vIv) (gv := vIv) (ok_impl_MulI _ _) fun r10 _ => ?_
    refine Run.q (e := vIv) (gv := vIv) (ok_impl_fromAxis _) fun r11 _ => ?_
    refine Run.q (e := vIv) (gv := vIv) (ok_impl_MulI _ _) fun r12 _ => ?_
    refine Run.q (e := vIv) (gv := vIv) (ok_impl_MulI _ _) fun r13 _ => ?_
    refine Run.q (e := vIv) (gv := vIv) (ok_impl_SubI _ _) fun r14 _ => ?_
    refine Run.q (e := vIv) (gv := vIv) (ok_impl_SubI _ _) fun r15 _ => ?_
    exact Run.x 0

theorem ok_impl_latitudeOf_L1 : ∀ (fu : Nat) (a0 : El) (a1 : Vc) (x_low : I64) (x_lowq : I64) (x_high : I64) (q0 : -6746518853 ≤ x_lowq.val) (q1 : x_lowq.val ≤ x_high.val) (q2 : x_high.val ≤ 6746518853) (hm : (x_high.val - x_lowq.val).toNat < fu) (t : Array Value) (ht : maskA t [0, 1, 7, 9, 10, 11, 12, 13, 14, 15, 16, 17, 18, 19, 20, 21, 22, 23, 24, 25, 26, 27, 28, 29, 30, 31, 32, 33, 34, 35, 36, 37, 38, 39, 40, 41, 42, 43, 44, 45, 46, 47, 48, 49, 50] = #[undef, undef, .pointer (some ⟨0, 0, none⟩), .pointer (some ⟨1, 0, none⟩), .pointer (some ⟨2, 0, none⟩), .int .i64 x_lowq.val, .int .i64 x_high.val, undef, .pointer (some ⟨3, 0, none⟩), undef, undef, undef, undef, undef, undef, undef, undef, undef, undef, undef, undef, undef, undef, undef, undef, undef, undef, undef, undef, undef, undef, undef, undef, undef, undef, undef, undef, undef, undef, undef, undef, undef, undef, undef, undef, undef, undef, undef, undef, undef, undef]), Cfg Tryz.prog 188 (loopAt Tryz.f188 1) t [(#[.int .i64 a0.a.val, .int .i64 a0.num.val, .int .i64 a0.den.val], 57), (#[.int .i64 a1.x.lo.val, .int .i64 a1.x.hi.val, .int .i64 a1.y.lo.val, .int .i64 a1.y.hi.val, .int .i64 a1.z.lo.val, .int .i64 a1.z.hi.val], 91), (#[.int .i64 0, .int .i64 0], 25), (#[.int .i64 x_low.val, .int .i64 0], 25)] (RvH [] (vIv (F_impl_latitudeOf_L1 fu a0 a1 x_low x_lowq x_high))) := by
  intro fu
  induction fu with
  | zero => intro a0 a1 x_low x_lowq x_high q0 q1 q2 hm; exact absurd hm (Nat.not_lt_zero _)
  | succ fu ih =>
    intro a0 a1 x_low x_lowq x_high q0 q1 q2 hm t ht
    refine Cfg.round E_ok mixed Tryz.func188 ht fun g => ?_
    unfold F_impl_latitudeOf_L1
    refine Run.y (gv := vIv) (fun h7 => ?_) (fun h7 => ?_)
    · refine Run.z [true] ?_
      refine Run.q (e := vIv) (gv := vIv) (ok_impl_SideAt _ _ _) fun r8 hr8 => ?_
      refine Run.y (gv := vIv) (fun h9 => ?_) (fun h9 => ?_)
      · exact Run.l (by kernel_rfl) (by kernel_rfl) (by kernel_rfl) (by kernel_rfl) (ih a0 a1 x_low x_lowq (ishr (w64 (x_lowq.val + x_high.val)) 1) (by first | exact Nat.lt_succ_self _ | (simp only [shr1_val, w64_val, c64_val, decide_eq_true_eq, decide_eq_false_iff_not, cond_true, cond_false] at *; omega)) (by first | exact Nat.lt_succ_self _ | (simp only [shr1_val, w64_val, c64_val, decide_eq_true_eq, decide_eq_false_iff_not, cond_true, cond_false] at *; omega)) (by first | exact Nat.lt_succ_self _ | (simp only [shr1_val, w64_val, c64_val, decide_eq_true_eq, decide_eq_false_iff_not, cond_true, cond_false] at *; omega)) (by first | exact Nat.lt_succ_self _ | (simp only [shr1_val, w64_val, c64_val, decide_eq_true_eq, decide_eq_false_iff_not, cond_true, cond_false] at *; omega)))
      · exact Run.l (by kernel_rfl) (by kernel_rfl) (by kernel_rfl) (by kernel_rfl) (ih a0 a1 x_low (ishr (w64 (x_lowq.val + x_high.val)) 1) x_high (by first | exact Nat.lt_succ_self _ | (simp only [shr1_val, w64_val, c64_val, decide_eq_true_eq, decide_eq_false_iff_not, cond_true, cond_false] at *; omega)) (by first | exact Nat.lt_succ_self _ | (simp only [shr1_val, w64_val, c64_val, decide_eq_true_eq, decide_eq_false_iff_not, cond_true, cond_false] at *; omega)) (by first | exact Nat.lt_succ_self _ | (simp only [shr1_val, w64_val, c64_val, decide_eq_true_eq, decide_eq_false_iff_not, cond_true, cond_false] at *; omega)) (by first | exact Nat.lt_succ_self _ | (simp only [shr1_val, w64_val, c64_val, decide_eq_true_eq, decide_eq_false_iff_not, cond_true, cond_false] at *; omega)))
    · exact Run.x 0

theorem ok_impl_latitudeOf_L0 : ∀ (fu : Nat) (a0 : El) (a1 : Vc) (x_low : I64) (x_high : I64) (q0 : -6746518853 ≤ x_low.val) (q1 : x_low.val ≤ x_high.val) (q2 : x_high.val ≤ 6746518853) (hm : (x_high.val - x_low.val).toNat < fu) (t : Array Value) (ht : maskA t [0, 1, 7, 8, 9, 10, 11, 12, 13, 14, 15, 16, 17, 18, 19, 20, 21, 22, 23, 24, 25, 26, 27, 28, 29, 30, 31, 32, 33, 34, 35, 36, 37, 38, 39, 40, 41, 42, 43, 44, 45, 46, 47, 48, 49, 50] = #[undef, undef, .pointer (some ⟨0, 0, none⟩), .pointer (some ⟨1, 0, none⟩), .pointer (some ⟨2, 0, none⟩), .int .i64 x_low.val, .int .i64 x_high.val, undef, undef, undef, undef, undef, undef, undef, undef, undef, undef, undef, undef, undef, undef, undef, undef, undef, undef, undef, undef, undef, undef, undef, undef, undef, undef, undef, undef, undef, undef, undef, undef, undef, undef, undef, undef, undef, undef, undef, undef, undef, undef, undef, undef]), Cfg Tryz.prog 188 (loopAt Tryz.f188 0) t [(#[.int .i64 a0.a.val, .int .i64 a0.num.val, .int .i64 a0.den.val], 57), (#[.int .i64 a1.x.lo.val, .int .i64 a1.x.hi.val, .int .i64 a1.y.lo.val, .int .i64 a1.y.hi.val, .int .i64 a1.z.lo.val, .int .i64 a1.z.hi.val], 91), (#[.int .i64 0, .int .i64 0], 25)] (RvH [] (vIv (F_impl_latitudeOf_L0 fu a0 a1 x_low x_high))) := by
  intro fu
  induction fu with
  | zero => intro a0 a1 x_low x_high q0 q1 q2 hm; exact absurd hm (Nat.not_lt_zero _)
  | succ fu ih =>
    intro a0 a1 x_low x_high q0 q1 q2 hm t ht
    refine Cfg.round E_ok mixed Tryz.func188 ht fun g => ?_
    unfold F_impl_latitudeOf_L0
    refine Run.y (gv := vIv) (fun h3 => ?_) (fun h3 => ?_)
    · refine Run.z [true] ?_
      refine Run.q (e := vIv) (gv := vIv) (ok_impl_SideAt _ _ _) fun r4 hr4 => ?_
      refine Run.y (gv := vIv) (fun h5 => ?_) (fun h5 => ?_)
      · exact Run.l (by kernel_rfl) (by kernel_rfl) (by kernel_rfl) (by kernel_rfl) (ih a0 a1 (ishr (w64 (x_low.val + x_high.val)) 1) x_high (by first | exact Nat.lt_succ_self _ | (simp only [shr1_val, w64_val, c64_val, decide_eq_true_eq, decide_eq_false_iff_not, cond_true, cond_false] at *; omega)) (by first | exact Nat.lt_succ_self _ | (simp only [shr1_val, w64_val, c64_val, decide_eq_true_eq, decide_eq_false_iff_not, cond_true, cond_false] at *; omega)) (by first | exact Nat.lt_succ_self _ | (simp only [shr1_val, w64_val, c64_val, decide_eq_true_eq, decide_eq_false_iff_not, cond_true, cond_false] at *; omega)) (by first | exact Nat.lt_succ_self _ | (simp only [shr1_val, w64_val, c64_val, decide_eq_true_eq, decide_eq_false_iff_not, cond_true, cond_false] at *; omega)))
      · exact Run.l (by kernel_rfl) (by kernel_rfl) (by kernel_rfl) (by kernel_rfl) (ih a0 a1 x_low (ishr (w64 (x_low.val + x_high.val)) 1) (by first | exact Nat.lt_succ_self _ | (simp only [shr1_val, w64_val, c64_val, decide_eq_true_eq, decide_eq_false_iff_not, cond_true, cond_false] at *; omega)) (by first | exact Nat.lt_succ_self _ | (simp only [shr1_val, w64_val, c64_val, decide_eq_true_eq, decide_eq_false_iff_not, cond_true, cond_false] at *; omega)) (by first | exact Nat.lt_succ_self _ | (simp only [shr1_val, w64_val, c64_val, decide_eq_true_eq, decide_eq_false_iff_not, cond_true, cond_false] at *; omega)) (by first | exact Nat.lt_succ_self _ | (simp only [shr1_val, w64_val, c64_val, decide_eq_true_eq, decide_eq_false_iff_not, cond_true, cond_false] at *; omega)))
    · refine Run.q (e := vI) (gv := vIv) (ok_impl_quarter) fun r6 hr6 => ?_
      exact Run.l (by kernel_rfl) (by kernel_rfl) (by kernel_rfl) (by kernel_rfl) (ok_impl_latitudeOf_L1 ((r6.val - x_low.val).toNat + 1) a0 a1 x_low x_low r6 (by first | exact Nat.lt_succ_self _ | (have z := impl_quarter1; rw [← hr6] at z; omega) | (have z := impl_quarter1; (try simp only [w64_val]); subst_vars; (try simp only [w64_val]); omega)) (by first | exact Nat.lt_succ_self _ | (have z := impl_quarter1; rw [← hr6] at z; omega) | (have z := impl_quarter1; (try simp only [w64_val]); subst_vars; (try simp only [w64_val]); omega)) (by first | exact Nat.lt_succ_self _ | (have z := impl_quarter1; rw [← hr6] at z; omega) | (have z := impl_quarter1; (try simp only [w64_val]); subst_vars; (try simp only [w64_val]); omega)) (by first | exact Nat.lt_succ_self _ | (have z := impl_quarter1; rw [← hr6] at z; omega) | (have z := impl_quarter1; (try simp only [w64_val]); subst_vars; (try simp only [w64_val]); omega)))

theorem ok_impl_latitudeOf (a0 : El) (a1 : Vc) : Fun Tryz.prog 188 [] #[vEl a0, vVc a1] (vIv (F_impl_latitudeOf a0 a1)) [] := by
  refine Fun.ofH 400 E_ok mixed Tryz.func188 (by kernel_rfl) (by kernel_rfl) ?_
  unfold F_impl_latitudeOf
  refine Run.q (e := vI) (gv := vIv) (ok_impl_quarter) fun r1 hr1 => ?_
  refine Run.q (e := vI) (gv := vIv) (ok_impl_quarter) fun r2 hr2 => ?_
  exact Run.l (by kernel_rfl) (by kernel_rfl) (by kernel_rfl) (by kernel_rfl) (ok_impl_latitudeOf_L0 ((r2.val - (w64 (0 - r1.val)).val).toNat + 1) a0 a1 (w64 (0 - r1.val)) r2 (by first | exact Nat.lt_succ_self _ | (have z := impl_quarter1; rw [← hr6] at z; omega) | (have z := impl_quarter1; (try simp only [w64_val]); subst_vars; (try simp only [w64_val]); omega)) (by first | exact Nat.lt_succ_self _ | (have z := impl_quarter1; rw [← hr6] at z; omega) | (have z := impl_quarter1; (try simp only [w64_val]); subst_vars; (try simp only [w64_val]); omega)) (by first | exact Nat.lt_succ_self _ | (have z := impl_quarter1; rw [← hr6] at z; omega) | (have z := impl_quarter1; (try simp only [w64_val]); subst_vars; (try simp only [w64_val]); omega)) (by first | exact Nat.lt_succ_self _ | (have z := impl_quarter1; rw [← hr6] at z; omega) | (have z := impl_quarter1; (try simp only [w64_val]); subst_vars; (try simp only [w64_val]); omega)))

theorem ok_impl_FromCartesian (a0 : El) (a1 : Vc) : Fun Tryz.prog 83 [] #[vEl a0, vVc a1] (vT_Iv_Iv_Iv_I (F_impl_FromCartesian a0 a1)) [] := by
  refine Fun.ofH 400 E_ok mixed Tryz.func83 (by kernel_rfl) (by kernel_rfl) ?_
  unfold F_impl_FromCartesian
  refine Run.q (e := vI) (gv := vT_Iv_Iv_Iv_I) (ok_impl_centreCode _ _) fun r1 _ => ?_
  refine Run.y (gv := vT_Iv_Iv_Iv_I) (fun _ => ?_) (fun _ => ?_)
  · exact Run.x 0
  · refine Run.q (e := vIv) (gv := vT_Iv_Iv_Iv_I) (ok_impl_latitudeOf _ _) fun r2 _ => ?_
    refine Run.q (e := vIv) (gv := vT_Iv_Iv_Iv_I) (ok_impl_SinI _) fun r3 _ => ?_
    refine Run.q (e := vIv) (gv := vT_Iv_Iv_Iv_I) (ok_impl_fromAxis _) fun r4 _ => ?_
    refine Run.q (e := vIv) (gv := vT_Iv_Iv_Iv_I) (ok_impl_CosI _) fun r5 _ => ?_
    refine Run.q (e := vIv) (gv := vT_Iv_Iv_Iv_I) (ok_impl_MulI _ _) fun r6 _ => ?_
    refine Run.q (e := vIv) (gv := vT_Iv_Iv_Iv_I) (ok_impl_MulI _ _) fun r7 _ => ?_
    refine Run.q (e := vIv) (gv := vT_Iv_Iv_Iv_I) (ok_impl_AddI _ _) fun r8 _ => ?_
    refine Run.q (e := vIv) (gv := vT_Iv_Iv_Iv_I) (ok_impl_MajorI _) fun r9 _ => ?_
    refine Run.q (e := vIv) (gv := vT_Iv_Iv_Iv_I) (ok_impl_weightOf _ _) fun r10 _ => ?_
    refine Run.q (e := vIv) (gv := vT_Iv_Iv_Iv_I) (ok_impl_SqrtI _) fun r11 _ => ?_
    refine Run.q (e := vIv) (gv := vT_Iv_Iv_Iv_I) (ok_impl_MulI _ _) fun r12 _ => ?_
    refine Run.q (e := vIv) (gv := vT_Iv_Iv_Iv_I) (ok_impl_SubI _ _) fun r13 _ => ?_
    refine Run.q (e := vB) (gv := vT_Iv_Iv_Iv_I) (ok_impl_IsWhole _) fun r14 _ => ?_
    refine Run.y (gv := vT_Iv_Iv_Iv_I) (fun _ => ?_) (fun _ => ?_)
    · exact Run.x 0
    · refine Run.q (e := vIv) (gv := vT_Iv_Iv_Iv_I) (ok_impl_DirectionI _ _) fun r15 _ => ?_
      exact Run.x 0

theorem ok_impl_MovePlace (a0 : El) (a1 : Sf) (a2 : El) (a3 : Pl) : Fun Tryz.prog 24 [] #[vEl a0, vSf a1, vEl a2, vPl a3] (vT_Iv_Iv_Iv_I (F_impl_MovePlace a0 a1 a2 a3)) [] := by
  refine Fun.ofH 400 E_ok mixed Tryz.func24 (by kernel_rfl) (by kernel_rfl) ?_
  unfold F_impl_MovePlace
  refine Run.q (e := vB) (gv := vT_Iv_Iv_Iv_I) (ok_impl_ValidEllipsoid _) fun r1 _ => ?_
  refine Run.y (gv := vT_Iv_Iv_Iv_I) (fun _ => ?_) (fun _ => ?_)
  · refine Run.z [true, true, true, true, true, true, true, true, true, true, true, true] ?_
    exact Run.x 0
  · refine Run.z [false] ?_
    refine Run.q (e := vB) (gv := vT_Iv_Iv_Iv_I) (ok_impl_ValidEllipsoid _) fun r2 _ => ?_
    refine Run.z [false, false] ?_
    refine Run.y (gv := vT_Iv_Iv_Iv_I) (fun _ => ?_) (fun _ => ?_)
    · refine Run.z [true, true, true, true, true, true, true, true] ?_
      exact Run.x 0
    · refine Run.z [false] ?_
      refine Run.q (e := vB) (gv := vT_Iv_Iv_Iv_I) (ok_impl_ValidShift _) fun r3 _ => ?_
      refine Run.z [false, false] ?_
      refine Run.y (gv := vT_Iv_Iv_Iv_I) (fun _ => ?_) (fun _ => ?_)
      · refine Run.z [true, true, true, true] ?_
        exact Run.x 0
      · refine Run.z [false] ?_
        refine Run.q (e := vB) (gv := vT_Iv_Iv_Iv_I) (ok_impl_ValidPlace _) fun r4 _ => ?_
        refine Run.z [false, false] ?_
        refine Run.y (gv := vT_Iv_Iv_Iv_I) (fun _ => ?_) (fun _ => ?_)
        · exact Run.x 0
        · refine Run.q (e := vAf) (gv := vT_Iv_Iv_Iv_I) (ok_impl_affineOf _) fun r5 _ => ?_
          refine Run.q (e := vVc) (gv := vT_Iv_Iv_Iv_I) (ok_impl_toCartesian _ _) fun r6 _ => ?_
          refine Run.q (e := vVc) (gv := vT_Iv_Iv_Iv_I) (ok_impl_ApplyAffine _ _) fun r7 _ => ?_
          refine Run.q (e := vT_Iv_Iv_Iv_I) (gv := vT_Iv_Iv_Iv_I) (ok_impl_FromCartesian _ _) fun r8 _ => ?_
          exact Run.x 0

theorem ok_laws_FnExactMovePlace (a0 : El) (a1 : Sf) (a2 : El) (a3 : Pl) : Fun Tryz.prog 6 [] #[vEl a0, vSf a1, vEl a2, vPl a3] (vB (F_laws_FnExactMovePlace a0 a1 a2 a3)) [] := by
  refine Fun.ofH 400 E_ok mixed Tryz.func6 (by kernel_rfl) (by kernel_rfl) ?_
  unfold F_laws_FnExactMovePlace
  refine Run.q (e := vEl) (gv := vB) (ok_laws_toEllipsoid _) fun r1 _ => ?_
  refine Run.q (e := vSf) (gv := vB) (ok_laws_toShift _) fun r2 _ => ?_
  refine Run.q (e := vEl) (gv := vB) (ok_laws_toEllipsoid _) fun r3 _ => ?_
  refine Run.q (e := vPl) (gv := vB) (ok_laws_toPlace _) fun r4 _ => ?_
  refine Run.q (e := vT_Iv_Iv_Iv_I) (gv := vB) (ok_spec_MovePlace _ _ _ _) fun r5 _ => ?_
  refine Run.q (e := vEl) (gv := vB) (ok_laws_toEllipsoid _) fun r6 _ => ?_
  refine Run.q (e := vSf) (gv := vB) (ok_laws_toShift _) fun r7 _ => ?_
  refine Run.q (e := vEl) (gv := vB) (ok_laws_toEllipsoid _) fun r8 _ => ?_
  refine Run.q (e := vPl) (gv := vB) (ok_laws_toPlace _) fun r9 _ => ?_
  refine Run.q (e := vT_Iv_Iv_Iv_I) (gv := vB) (ok_impl_MovePlace _ _ _ _) fun r10 _ => ?_
  refine Run.q (e := vB) (gv := vB) (ok_laws_eqInterval _ _) fun r11 _ => ?_
  refine Run.y (gv := vB) (fun _ => ?_) (fun _ => ?_)
  · refine Run.z [true, true, true, true, true, true, true, true, true, true, true, true, true, true] ?_
    exact Run.x 0
  · refine Run.z [false, false] ?_
    refine Run.q (e := vB) (gv := vB) (ok_laws_eqInterval _ _) fun r12 _ => ?_
    refine Run.z [false, false] ?_
    refine Run.y (gv := vB) (fun _ => ?_) (fun _ => ?_)
    · refine Run.z [true, true, true, true, true, true, true, true, true] ?_
      exact Run.x 0
    · refine Run.z [false, false] ?_
      refine Run.q (e := vB) (gv := vB) (ok_laws_eqInterval _ _) fun r13 _ => ?_
      refine Run.z [false, false] ?_
      refine Run.y (gv := vB) (fun _ => ?_) (fun _ => ?_)
      · refine Run.z [true, true, true, true] ?_
        exact Run.x 0
      · refine Run.z [false, false, false] ?_
        refine Run.y (gv := vB) (fun _ => ?_) (fun _ => ?_)
        · exact Run.x 0
        · exact Run.x 0

theorem ok_spec_WideMul (a0 : I64) (a1 : I64) : Fun Tryz.prog 365 [] #[vI a0, vI a1] (vWd (F_spec_WideMul a0 a1)) [] := by
  refine Fun.ofH 400 E_ok mixed Tryz.func365 (by kernel_rfl) (by kernel_rfl) ?_
  unfold F_spec_WideMul
  refine Run.q (e := vWd) (gv := vWd) (ok_spec_l02Mul _ _) fun r1 _ => ?_
  exact Run.x 0

theorem ok_spec_CircleAt (a0 : I64) : Fun Tryz.prog 300 [] #[vI a0] (vIv (F_spec_CircleAt a0)) [] := by
  refine Fun.ofH 400 E_ok mixed Tryz.func300 (by kernel_rfl) (by kernel_rfl) ?_
  unfold F_spec_CircleAt
  refine Run.q (e := vB) (gv := vIv) (ok_spec_l00In _ _ _) fun r1 _ => ?_
  refine Run.y (gv := vIv) (fun _ => ?_) (fun _ => ?_)
  · refine Run.q (e := vIv) (gv := vIv) (ok_spec_Whole) fun r2 _ => ?_
    exact Run.x 0
  · refine Run.q (e := vT_I_B) (gv := vIv) (ok_spec_SqrtFloor _ _) fun r3 _ => ?_
    refine Run.q (e := vWd) (gv := vIv) (ok_spec_WideMul _ _) fun r4 _ => ?_
    refine Run.q (e := vWd) (gv := vIv) (ok_spec_WideMul _ _) fun r5 _ => ?_
    refine Run.y (gv := vIv) (fun _ => ?_) (fun _ => ?_)
    · exact Run.x 0
    · exact Run.x 0

theorem ok_spec_AsinAt (a0 : I64) : Fun Tryz.prog 210 [] #[vI a0] (vIv (F_spec_AsinAt a0)) [] := by
  refine Fun.ofH 400 E_ok mixed Tryz.func210 (by kernel_rfl) (by kernel_rfl) ?_
  unfold F_spec_AsinAt
  refine Run.q (e := vB) (gv := vIv) (ok_spec_l00In _ _ _) fun r1 _ => ?_
  refine Run.y (gv := vIv) (fun _ => ?_) (fun _ => ?_)
  · refine Run.q (e := vIv) (gv := vIv) (ok_spec_Whole) fun r2 _ => ?_
    exact Run.x 0
  · refine Run.q (e := vIv) (gv := vIv) (ok_spec_l05At _) fun r3 _ => ?_
    refine Run.q (e := vIv) (gv := vIv) (ok_spec_Integer _) fun r4 _ => ?_
    refine Run.q (e := vIv) (gv := vIv) (ok_spec_CircleAt _) fun r5 _ => ?_
    refine Run.q (e := vIv) (gv := vIv) (ok_spec_AddI _ _) fun r6 _ => ?_
    refine Run.q (e := vIv) (gv := vIv) (ok_spec_DivI _ _) fun r7 _ => ?_
    refine Run.q (e := vIv) (gv := vIv) (ok_spec_AtanI _) fun r8 _ => ?_
    refine Run.q (e := vIv) (gv := vIv) (ok_spec_DoubleI _) fun r9 _ => ?_
    refine Run.q (e := vIv) (gv := vIv) (ok_spec_l07Quarter) fun r10 _ => ?_
    refine Run.q (e := vT_Iv_B) (gv := vIv) (ok_spec_MeetI _ _) fun r11 _ => ?_
    exact Run.x 0

theorem ok_spec_AsinI (a0 : Iv) : Fun Tryz.prog 98 [] #[vIv a0] (vIv (F_spec_AsinI a0)) [] := by
  refine Fun.ofH 400 E_ok mixed Tryz.func98 (by kernel_rfl) (by kernel_rfl) ?_
  unfold F_spec_AsinI
  refine Run.q (e := vIv) (gv := vIv) (ok_spec_l06Ring) fun r1 _ => ?_
  refine Run.q (e := vT_Iv_B) (gv := vIv) (ok_spec_MeetI _ _) fun r2 _ => ?_
  refine Run.y (gv := vIv) (fun _ => ?_) (fun _ => ?_)
  · refine Run.q (e := vIv) (gv := vIv) (ok_spec_Whole) fun r3 _ => ?_
    exact Run.x 0
  · refine Run.q (e := vIv) (gv := vIv) (ok_spec_AsinAt _) fun r4 _ => ?_
    refine Run.q (e := vIv) (gv := vIv) (ok_spec_AsinAt _) fun r5 _ => ?_
    refine Run.q (e := vIv) (gv := vIv) (ok_spec_HullI _ _) fun r6 _ => ?_
    exact Run.x 0

theorem ok_spec_l17Back (a0 : Pj) (a1 : Iv) (a2 : Iv) : Fun Tryz.prog 97 [] #[vPj a0, vIv a1, vIv a2] (vT_Iv_Iv_I (F_spec_l17Back a0 a1 a2)) [] := by
  refine Fun.ofH 400 E_ok mixed Tryz.func97 (by kernel_rfl) (by kernel_rfl) ?_
  unfold F_spec_l17Back
  refine Run.q (e := vIv) (gv := vT_Iv_Iv_I) (ok_spec_l05Turn _ (by simp only [w64_val, wu64_val, c64_val, cu64_val, decide_eq_true_eq, decide_eq_false_iff_not, cond_true, cond_false] at *; omega)) fun r1 hr1 => ?_
  refine Run.q (e := vIv) (gv := vT_Iv_Iv_I) (ok_spec_l05Turn _ (by simp only [w64_val, wu64_val, c64_val, cu64_val, decide_eq_true_eq, decide_eq_false_iff_not, cond_true, cond_false] at *; omega)) fun r2 hr2 => ?_
  refine Run.q (e := vB) (gv := vT_Iv_Iv_I) (ok_spec_l04Ok _) fun r3 hr3 => ?_
  refine Run.y (gv := vT_Iv_Iv_I) (fun h4 => ?_) (fun h4 => ?_)
  · refine Run.z [true, true, true, true, true] ?_
    refine Run.q (e := vB) (gv := vT_Iv_Iv_I) (ok_spec_OverlapI _ _) fun r5 hr5 => ?_
    refine Run.z [true, true] ?_
    refine Run.y (gv := vT_Iv_Iv_I) (fun h6 => ?_) (fun h6 => ?_)
    · refine Run.z [true, true, true, true, true] ?_
      exact Run.x 0
    · refine Run.z [false] ?_
      refine Run.q (e := vB) (gv := vT_Iv_Iv_I) (ok_spec_l04Ok _) fun r7 hr7 => ?_
      refine Run.z [false] ?_
      refine Run.y (gv := vT_Iv_Iv_I) (fun h8 => ?_) (fun h8 => ?_)
      · refine Run.z [true, true, true, true, true] ?_
        refine Run.q (e := vB) (gv := vT_Iv_Iv_I) (ok_spec_OverlapI _ _) fun r9 hr9 => ?_
        refine Run.z [true, false, true, false] ?_
        refine Run.y (gv := vT_Iv_Iv_I) (fun h10 => ?_) (fun h10 => ?_)
        · exact Run.x 0
        · refine Run.q (e := vIv) (gv := vT_Iv_Iv_I) (ok_spec_RadiansOf _) fun r11 hr11 => ?_
          refine Run.q (e := vIv) (gv := vT_Iv_Iv_I) (ok_spec_AddI _ _) fun r12 hr12 => ?_
          refine Run.q (e := vB) (gv := vT_Iv_Iv_I) (ok_spec_l04Ok _) fun r13 hr13 => ?_
          refine Run.y (gv := vT_Iv_Iv_I) (fun h14 => ?_) (fun h14 => ?_)
          · refine Run.z [true, true, true, true] ?_
            exact Run.x 0
          · refine Run.z [false] ?_
            refine Run.q (e := vB) (gv := vT_Iv_Iv_I) (ok_spec_l04Ok _) fun r15 hr15 => ?_
            refine Run.z [false, false] ?_
            refine Run.y (gv := vT_Iv_Iv_I) (fun h16 => ?_) (fun h16 => ?_)
            · exact Run.x 0
            · exact Run.x 0
      · refine Run.z [false, false, false, false, false, false, false, false, false, false] ?_
        refine Run.q (e := vIv) (gv := vT_Iv_Iv_I) (ok_spec_RadiansOf _) fun r17 hr17 => ?_
        refine Run.q (e := vIv) (gv := vT_Iv_Iv_I) (ok_spec_AddI _ _) fun r18 hr18 => ?_
        refine Run.q (e := vB) (gv := vT_Iv_Iv_I) (ok_spec_l04Ok _) fun r19 hr19 => ?_
        refine Run.y (gv := vT_Iv_Iv_I) (fun h20 => ?_) (fun h20 => ?_)
        · refine Run.z [true, true, true, true] ?_
          exact Run.x 0
        · refine Run.z [false] ?_
          refine Run.q (e := vB) (gv := vT_Iv_Iv_I) (ok_spec_l04Ok _) fun r21 hr21 => ?_
          refine Run.z [false, false] ?_
          refine Run.y (gv := vT_Iv_Iv_I) (fun h22 => ?_) (fun h22 => ?_)
          · exact Run.x 0
          · exact Run.x 0
  · refine Run.z [false, false, false, false, false, false, false, false, false] ?_
    refine Run.q (e := vB) (gv := vT_Iv_Iv_I) (ok_spec_l04Ok _) fun r23 hr23 => ?_
    refine Run.z [false] ?_
    refine Run.y (gv := vT_Iv_Iv_I) (fun h24 => ?_) (fun h24 => ?_)
    · refine Run.z [true, true, true, true, true] ?_
      refine Run.q (e := vB) (gv := vT_Iv_Iv_I) (ok_spec_OverlapI _ _) fun r25 hr25 => ?_
      refine Run.z [true, false, true, false] ?_
      refine Run.y (gv := vT_Iv_Iv_I) (fun h26 => ?_) (fun h26 => ?_)
      · exact Run.x 0
      · refine Run.q (e := vIv) (gv := vT_Iv_Iv_I) (ok_spec_RadiansOf _) fun r27 hr27 => ?_
        refine Run.q (e := vIv) (gv := vT_Iv_Iv_I) (ok_spec_AddI _ _) fun r28 hr28 => ?_
        refine Run.q (e := vB) (gv := vT_Iv_Iv_I) (ok_spec_l04Ok _) fun r29 hr29 => ?_
        refine Run.y (gv := vT_Iv_Iv_I) (fun h30 => ?_) (fun h30 => ?_)
        · refine Run.z [true, true, true, true] ?_
          exact Run.x 0
        · refine Run.z [false] ?_
          refine Run.q (e := vB) (gv := vT_Iv_Iv_I) (ok_spec_l04Ok _) fun r31 hr31 => ?_
          refine Run.z [false, false] ?_
          refine Run.y (gv := vT_Iv_Iv_I) (fun h32 => ?_) (fun h32 => ?_)
          · exact Run.x 0
          · exact Run.x 0
    · refine Run.z [false, false, false, false, false, false, false, false, false, false] ?_
      refine Run.q (e := vIv) (gv := vT_Iv_Iv_I) (ok_spec_RadiansOf _) fun r33 hr33 => ?_
      refine Run.q (e := vIv) (gv := vT_Iv_Iv_I) (ok_spec_AddI _ _) fun r34 hr34 => ?_
      refine Run.q (e := vB) (gv := vT_Iv_Iv_I) (ok_spec_l04Ok _) fun r35 hr35 => ?_
      refine Run.y (gv := vT_Iv_Iv_I) (fun h36 => ?_) (fun h36 => ?_)
      · refine Run.z [true, true, true, true] ?_
        exact Run.x 0
      · refine Run.z [false] ?_
        refine Run.q (e := vB) (gv := vT_Iv_Iv_I) (ok_spec_l04Ok _) fun r37 hr37 => ?_
        refine Run.z [false, false] ?_
        refine Run.y (gv := vT_Iv_Iv_I) (fun h38 => ?_) (fun h38 => ?_)
        · exact Run.x 0
        · exact Run.x 0

end Go.Proofs.YtclbkeejhnmeoaaGreat.Abs
