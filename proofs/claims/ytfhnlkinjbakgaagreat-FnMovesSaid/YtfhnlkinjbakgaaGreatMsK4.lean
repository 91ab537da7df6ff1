/- The program's functions are these; part 4 (written by w.py). -/
import Derived.Test.YtfhnlkinjbakgaaGreatMsE
import Derived.Test.YtfhnlkinjbakgaaGreatMsF4
import Derived.Test.YtfhnlkinjbakgaaGreatMsQpre
import Derived.Test.YtfhnlkinjbakgaaGreatMsK0
set_option linter.unusedVariables false
set_option linter.unusedSimpArgs false
namespace Go.Proofs.YtfhnlkinjbakgaaGreat.Abs
open Go Go.RowKit
theorem oi_within (a0 : I64) (a1 : I64) (a2 : I64) : Fun Tryz.prog 92 [] #[vI a0,vI a1,vI a2] (vB (I_within a0 a1 a2)) []:=by
 refine Fun.ofH 400 E_ok mixed Tryz.func92 (by kernel_rfl) (by kernel_rfl) ?_
 unfold I_within
 refine Run.y (gv:=vB) (fun _=>?_) (fun _=>?_)
 ·refine Run.z [true,true,true] ?_
  exact Run.x 0
 ·refine Run.z [false,false,false] ?_
  exact Run.x 0
theorem oi_ValidEllipsoid (a0 : El) : Fun Tryz.prog 65 [] #[vEl a0] (vB (I_ValidEllipsoid a0)) []:=by
 refine Fun.ofH 400 E_ok mixed Tryz.func65 (by kernel_rfl) (by kernel_rfl) ?_
 unfold I_ValidEllipsoid
 refine Run.q (e:=vB) (gv:=vB) (oi_within _ _ _) fun r1 _=>?_
 refine Run.y (gv:=vB) (fun _=>?_) (fun _=>?_)
 ·refine Run.z [true,true] ?_
  refine Run.q (e:=vB) (gv:=vB) (oi_within _ _ _) fun r2 _=>?_
  refine Run.z [true] ?_
  refine Run.y (gv:=vB) (fun _=>?_) (fun _=>?_)
  ·refine Run.z [true,true,true,true,true,true] ?_
   refine Run.q (e:=vB) (gv:=vB) (oi_within _ _ _) fun r3 _=>?_
   refine Run.z [true] ?_
   exact Run.x 0
  ·refine Run.z [false,false,false,false,false,false] ?_
   exact Run.x 0
 ·refine Run.z [false,false,false,false,false,false,false,false,false,false] ?_
  exact Run.x 0
theorem oi_areWithin__s3 (b0_0 : I64) (b0_1 : I64) (b0_2 : I64) (a0 : I64) : Fun Tryz.prog 130 [(#[.int .i64 b0_0.val,.int .i64 b0_1.val,.int .i64 b0_2.val],2)] #[vI a0,.slice (some ⟨0,0,none⟩) 3 3] (vB (I_areWithin__s3 b0_0 b0_1 b0_2 a0)) [(#[.int .i64 b0_0.val,.int .i64 b0_1.val,.int .i64 b0_2.val],2)]:=by
 refine Fun.ofH 400 E_ok mixed Tryz.func130 (by kernel_rfl) (by kernel_rfl) ?_
 unfold I_areWithin__s3
 refine Run.u 400 E_ok mixed Tryz.func130 ?_
 refine Run.z [true,true] ?_
 refine Run.q (e:=vB) (gv:=vB) (oi_within _ _ _) fun r1 _=>?_
 refine Run.y (gv:=vB) (fun _=>?_) (fun _=>?_)
 ·exact Run.x 1
 ·refine Run.u 400 E_ok mixed Tryz.func130 ?_
  refine Run.z [true,true] ?_
  refine Run.q (e:=vB) (gv:=vB) (oi_within _ _ _) fun r2 _=>?_
  refine Run.y (gv:=vB) (fun _=>?_) (fun _=>?_)
  ·exact Run.x 1
  ·refine Run.u 400 E_ok mixed Tryz.func130 ?_
   refine Run.z [true,true] ?_
   refine Run.q (e:=vB) (gv:=vB) (oi_within _ _ _) fun r3 _=>?_
   refine Run.y (gv:=vB) (fun _=>?_) (fun _=>?_)
   ·exact Run.x 1
   ·refine Run.u 400 E_ok mixed Tryz.func130 ?_
    refine Run.z [false] ?_
    exact Run.x 1
theorem oi_areWithin__s1 (b0 : I64) (a0 : I64) : Fun Tryz.prog 130 [(#[.int .i64 b0.val],2)] #[vI a0,.slice (some ⟨0,0,none⟩) 1 1] (vB (I_areWithin__s1 b0 a0)) [(#[.int .i64 b0.val],2)]:=by
 refine Fun.ofH 400 E_ok mixed Tryz.func130 (by kernel_rfl) (by kernel_rfl) ?_
 unfold I_areWithin__s1
 refine Run.u 400 E_ok mixed Tryz.func130 ?_
 refine Run.z [true,true] ?_
 refine Run.q (e:=vB) (gv:=vB) (oi_within _ _ _) fun r1 _=>?_
 refine Run.y (gv:=vB) (fun _=>?_) (fun _=>?_)
 ·exact Run.x 1
 ·refine Run.u 400 E_ok mixed Tryz.func130 ?_
  refine Run.z [false] ?_
  exact Run.x 1
theorem oi_ValidShift (a0 : Sf) : Fun Tryz.prog 66 [] #[vSf a0] (vB (I_ValidShift a0)) []:=by
 refine Fun.ofH 400 E_ok mixed Tryz.func66 (by kernel_rfl) (by kernel_rfl) ?_
 unfold I_ValidShift
 refine Run.w (e:=vB) (gv:=vB) [1] (oi_areWithin__s3 _ _ _ _) fun r1 _=>?_
 refine Run.y (gv:=vB) (fun _=>?_) (fun _=>?_)
 ·refine Run.z [true,true,true,true,true,true,true] ?_
  refine Run.w (e:=vB) (gv:=vB) [2] (oi_areWithin__s3 _ _ _ _) fun r2 _=>?_
  refine Run.z [true] ?_
  refine Run.y (gv:=vB) (fun _=>?_) (fun _=>?_)
  ·refine Run.z [true,true,true] ?_
   refine Run.w (e:=vB) (gv:=vB) [3] (oi_areWithin__s1 _ _) fun r3 _=>?_
   refine Run.z [true] ?_
   exact Run.x 0
  ·refine Run.z [false,false,false,false] ?_
   exact Run.x 0
 ·refine Run.z [false,false,false,false,false,false,false,false,false,false,false,false,false] ?_
  exact Run.x 0
theorem oi_ValidPoint (a0 : Pt) : Fun Tryz.prog 42 [] #[vPt a0] (vB (I_ValidPoint a0)) []:=by
 refine Fun.ofH 400 E_ok mixed Tryz.func42 (by kernel_rfl) (by kernel_rfl) ?_
 unfold I_ValidPoint
 refine Run.q (e:=vB) (gv:=vB) (oi_within _ _ _) fun r1 _=>?_
 refine Run.y (gv:=vB) (fun _=>?_) (fun _=>?_)
 ·refine Run.z [true,true,true] ?_
  refine Run.y (gv:=vB) (fun _=>?_) (fun _=>?_)
  ·refine Run.z [true,true,true] ?_
   exact Run.x 0
  ·refine Run.z [false,false,false] ?_
   exact Run.x 0
 ·refine Run.z [false,false,false,false,false,false,false] ?_
  exact Run.x 0
theorem oi_isHeight (a0 : I64) : Fun Tryz.prog 131 [] #[vI a0] (vB (I_isHeight a0)) []:=by
 refine Fun.ofH 400 E_ok mixed Tryz.func131 (by kernel_rfl) (by kernel_rfl) ?_
 unfold I_isHeight
 refine Run.q (e:=vB) (gv:=vB) (oi_within _ _ _) fun r1 _=>?_
 exact Run.x 0
theorem oi_ValidPlace (a0 : Pl) : Fun Tryz.prog 67 [] #[vPl a0] (vB (I_ValidPlace a0)) []:=by
 refine Fun.ofH 400 E_ok mixed Tryz.func67 (by kernel_rfl) (by kernel_rfl) ?_
 unfold I_ValidPlace
 refine Run.q (e:=vB) (gv:=vB) (oi_ValidPoint _) fun r1 _=>?_
 refine Run.y (gv:=vB) (fun _=>?_) (fun _=>?_)
 ·refine Run.z [true,true] ?_
  refine Run.q (e:=vB) (gv:=vB) (oi_isHeight _) fun r2 _=>?_
  refine Run.z [true] ?_
  exact Run.x 0
 ·refine Run.z [false,false,false] ?_
  exact Run.x 0
theorem oi_Whole : Fun Tryz.prog 93 [] #[] (vIv (I_Whole)) []:=by
 refine Fun.ofH 400 E_ok mixed Tryz.func93 (by kernel_rfl) (by kernel_rfl) ?_
 unfold I_Whole
 exact Run.x 0
theorem oi_ValidInterval (a0 : Iv) : Fun Tryz.prog 168 [] #[vIv a0] (vB (I_ValidInterval a0)) []:=by
 refine Fun.ofH 400 E_ok mixed Tryz.func168 (by kernel_rfl) (by kernel_rfl) ?_
 unfold I_ValidInterval
 refine Run.y (gv:=vB) (fun _=>?_) (fun _=>?_)
 ·refine Run.z [true,true,true,true,true] ?_
  refine Run.y (gv:=vB) (fun _=>?_) (fun _=>?_)
  ·refine Run.z [true,true,true] ?_
   exact Run.x 0
  ·refine Run.z [false,false,false] ?_
   exact Run.x 0
 ·refine Run.z [false,false,false,false,false,false,false,false,false] ?_
  exact Run.x 0
theorem oi_bounded (a0 : I64) (a1 : I64) (a2 : Bool) : Fun Tryz.prog 94 [] #[vI a0,vI a1,vB a2] (vIv (I_bounded a0 a1 a2)) []:=by
 refine Fun.ofH 400 E_ok mixed Tryz.func94 (by kernel_rfl) (by kernel_rfl) ?_
 unfold I_bounded
 refine Run.y (gv:=vIv) (fun _=>?_) (fun _=>?_)
 ·refine Run.z [true] ?_
  refine Run.q (e:=vB) (gv:=vIv) (oi_ValidInterval _) fun r1 _=>?_
  refine Run.z [true] ?_
  refine Run.y (gv:=vIv) (fun _=>?_) (fun _=>?_)
  ·exact Run.x 0
  ·refine Run.q (e:=vIv) (gv:=vIv) (oi_Whole) fun r2 _=>?_
   exact Run.x 0
 ·refine Run.z [false,false,false] ?_
  refine Run.q (e:=vIv) (gv:=vIv) (oi_Whole) fun r3 _=>?_
  exact Run.x 0
theorem oi_Integer (a0 : I64) : Fun Tryz.prog 33 [] #[vI a0] (vIv (I_Integer a0)) []:=by
 refine Fun.ofH 400 E_ok mixed Tryz.func33 (by kernel_rfl) (by kernel_rfl) ?_
 unfold I_Integer
 refine Run.q (e:=vB) (gv:=vIv) (oi_within _ _ _) fun r1 _=>?_
 refine Run.y (gv:=vIv) (fun _=>?_) (fun _=>?_)
 ·refine Run.q (e:=vIv) (gv:=vIv) (oi_Whole) fun r2 _=>?_
  exact Run.x 0
 ·refine Run.q (e:=vIv) (gv:=vIv) (oi_bounded _ _ _) fun r3 _=>?_
  exact Run.x 0
theorem oi_WideMul (a0 : I64) (a1 : I64) : Fun Tryz.prog 231 [] #[vI a0,vI a1] (vWd (I_WideMul a0 a1)) []:=by
 refine Fun.ofH 400 E_ok mixed Tryz.func231 (by kernel_rfl) (by kernel_rfl) ?_
 unfold I_WideMul
 refine Run.q (e:=vT_U_U) (gv:=vWd) (ok_bits_Mul64 _ _) fun r1 _=>?_
 refine Run.y (gv:=vWd) (fun _=>?_) (fun _=>?_)
 ·refine Run.y (gv:=vWd) (fun _=>?_) (fun _=>?_)
  ·exact Run.x 0
  ·exact Run.x 0
 ·refine Run.y (gv:=vWd) (fun _=>?_) (fun _=>?_)
  ·exact Run.x 0
  ·exact Run.x 0
theorem oi_divided (a0 : U64) (a1 : U64) (a2 : U64) (p0 : a2.val ≠ 0) : Fun Tryz.prog 280 [] #[vU a0,vU a1,vU a2] (vT_U_U_U (I_divided a0 a1 a2)) []:=by
 refine Fun.ofH 400 E_ok mixed Tryz.func280 (by kernel_rfl) (by kernel_rfl) ?_
 unfold I_divided
 refine Run.k (c:=(decide (a2.val ≠ 0))) (by kernel_rfl) (by first | exact decide_eq_true p0 | exact imod_lt _ _ p0) ?_
 refine Run.k (c:=(decide (a2.val ≠ 0))) (by kernel_rfl) (by first | exact decide_eq_true p0 | exact imod_lt _ _ p0) ?_
 refine Run.q (e:=vT_U_U) (gv:=vT_U_U_U) (ok_bits_Div64 _ _ _ (by first | exact decide_eq_true p0 | exact imod_lt _ _ p0)) fun r1 hr1=>?_
 exact Run.x 0
theorem oi_Wide_negative (a0 : Wd) : Fun Tryz.prog 281 [] #[vWd a0] (vWd (I_Wide_negative a0)) []:=by
 refine Fun.ofH 400 E_ok mixed Tryz.func281 (by kernel_rfl) (by kernel_rfl) ?_
 unfold I_Wide_negative
 refine Run.k (c:=(decide (0 ≤ (0 : Int)) && (decide (0 ≤ (a0.lo.val : Int)) && (decide ((a0.lo.val : Int) ≤ 18446744073709551615) && (decide (0 ≤ (0 : Int)) && decide ((0 : Int) ≤ 1)))))) (by kernel_rfl) (by simp only [Bool.and_eq_true,decide_eq_true_eq]; exact ⟨U64.lo (cu64 0),U64.lo a0.lo,U64.hi a0.lo,U64.lo (cu64 0),(by decide)⟩) ?_
 refine Run.k (c:=(decide (0 ≤ (0 : Int)) && (decide (0 ≤ ((wu64 a0.hi.val).val : Int)) && (decide (((wu64 a0.hi.val).val : Int) ≤ 18446744073709551615) && (decide (0 ≤ ((sbb_hi (cu64 0) a0.lo (cu64 0)).val : Int)) && decide (((sbb_hi (cu64 0) a0.lo (cu64 0)).val : Int) ≤ 1)))))) (by kernel_rfl) (by simp only [Bool.and_eq_true,decide_eq_true_eq]; exact ⟨U64.lo (cu64 0),U64.lo (wu64 a0.hi.val),U64.hi (wu64 a0.hi.val),U64.lo (sbb_hi (cu64 0) a0.lo (cu64 0)),(sbb_hi_le _ _ _)⟩) ?_
 exact Run.x 0
theorem oi_WideDiv (a0 : Wd) (a1 : I64) : Fun Tryz.prog 235 [] #[vWd a0,vI a1] (vT_Wd_I_B (I_WideDiv a0 a1)) []:=by
 refine Fun.ofH 400 E_ok mixed Tryz.func235 (by kernel_rfl) (by kernel_rfl) ?_
 unfold I_WideDiv
 refine Run.y (gv:=vT_Wd_I_B) (fun h1=>?_) (fun h1=>?_)
 ·exact Run.x 0
 ·refine Run.y (gv:=vT_Wd_I_B) (fun h2=>?_) (fun h2=>?_)
  ·refine Run.q (e:=vT_U_U_U) (gv:=vT_Wd_I_B) (oi_divided _ _ _ (by have q:=a1.hi; simp only [wu64_val,decide_eq_true_eq,decide_eq_false_iff_not] at *; omega)) fun r3 hr3=>?_
   exact Run.x 0
  ·refine Run.q (e:=vWd) (gv:=vT_Wd_I_B) (oi_Wide_negative _) fun r4 hr4=>?_
   refine Run.q (e:=vT_U_U_U) (gv:=vT_Wd_I_B) (oi_divided _ _ _ (by have q:=a1.hi; simp only [wu64_val,decide_eq_true_eq,decide_eq_false_iff_not] at *; omega)) fun r5 hr5=>?_
   refine Run.y (gv:=vT_Wd_I_B) (fun h6=>?_) (fun h6=>?_)
   ·refine Run.q (e:=vWd) (gv:=vT_Wd_I_B) (oi_Wide_negative _) fun r7 hr7=>?_
    exact Run.x 0
   ·refine Run.k (c:=(decide (0 ≤ (r5.2.1.val : Int)) && (decide (0 ≤ (1 : Int)) && (decide (0 ≤ (0 : Int)) && decide ((0 : Int) ≤ 1))))) (by kernel_rfl) (by simp only [Bool.and_eq_true,decide_eq_true_eq]; exact ⟨U64.lo r5.2.1,U64.lo (cu64 1),U64.lo (cu64 0),(by decide)⟩) ?_
    refine Run.q (e:=vWd) (gv:=vT_Wd_I_B) (oi_Wide_negative _) fun r8 hr8=>?_
    exact Run.x 0
theorem oi_WideOf (a0 : I64) : Fun Tryz.prog 272 [] #[vI a0] (vWd (I_WideOf a0)) []:=by
 refine Fun.ofH 400 E_ok mixed Tryz.func272 (by kernel_rfl) (by kernel_rfl) ?_
 unfold I_WideOf
 refine Run.z [true] ?_
 exact Run.x 0
theorem oi_WideInt (a0 : Wd) : Fun Tryz.prog 229 [] #[vWd a0] (vT_I_B (I_WideInt a0)) []:=by
 refine Fun.ofH 400 E_ok mixed Tryz.func229 (by kernel_rfl) (by kernel_rfl) ?_
 unfold I_WideInt
 refine Run.q (e:=vWd) (gv:=vT_I_B) (oi_WideOf _) fun r1 _=>?_
 refine Run.y (gv:=vT_I_B) (fun _=>?_) (fun _=>?_)
 ·exact Run.x 0
 ·exact Run.x 0
theorem oi_MulDivFloor (a0 : I64) (a1 : I64) (a2 : I64) : Fun Tryz.prog 173 [] #[vI a0,vI a1,vI a2] (vT_I_B (I_MulDivFloor a0 a1 a2)) []:=by
 refine Fun.ofH 400 E_ok mixed Tryz.func173 (by kernel_rfl) (by kernel_rfl) ?_
 unfold I_MulDivFloor
 refine Run.q (e:=vWd) (gv:=vT_I_B) (oi_WideMul _ _) fun r1 _=>?_
 refine Run.q (e:=vT_Wd_I_B) (gv:=vT_I_B) (oi_WideDiv _ _) fun r2 _=>?_
 refine Run.y (gv:=vT_I_B) (fun _=>?_) (fun _=>?_)
 ·exact Run.x 0
 ·refine Run.q (e:=vT_I_B) (gv:=vT_I_B) (oi_WideInt _) fun r3 _=>?_
  exact Run.x 0
theorem oi_ValidFix (a0 : I64) : Fun Tryz.prog 169 [] #[vI a0] (vB (I_ValidFix a0)) []:=by
 refine Fun.ofH 400 E_ok mixed Tryz.func169 (by kernel_rfl) (by kernel_rfl) ?_
 unfold I_ValidFix
 refine Run.q (e:=vB) (gv:=vB) (oi_within _ _ _) fun r1 _=>?_
 exact Run.x 0
theorem oi_fixed (a0 : I64) (a1 : Bool) : Fun Tryz.prog 170 [] #[vI a0,vB a1] (vT_I_B (I_fixed a0 a1)) []:=by
 refine Fun.ofH 400 E_ok mixed Tryz.func170 (by kernel_rfl) (by kernel_rfl) ?_
 unfold I_fixed
 refine Run.y (gv:=vT_I_B) (fun _=>?_) (fun _=>?_)
 ·refine Run.z [true,true,true,true] ?_
  exact Run.x 0
 ·refine Run.z [false] ?_
  refine Run.q (e:=vB) (gv:=vT_I_B) (oi_ValidFix _) fun r1 _=>?_
  refine Run.z [false,false] ?_
  refine Run.y (gv:=vT_I_B) (fun _=>?_) (fun _=>?_)
  ·exact Run.x 0
  ·exact Run.x 0
theorem oi_FixFloor (a0 : I64) (a1 : I64) : Fun Tryz.prog 174 [] #[vI a0,vI a1] (vT_I_B (I_FixFloor a0 a1)) []:=by
 refine Fun.ofH 400 E_ok mixed Tryz.func174 (by kernel_rfl) (by kernel_rfl) ?_
 unfold I_FixFloor
 refine Run.q (e:=vT_I_B) (gv:=vT_I_B) (oi_MulDivFloor _ _ _) fun r1 _=>?_
 refine Run.q (e:=vT_I_B) (gv:=vT_I_B) (oi_fixed _ _) fun r2 _=>?_
 exact Run.x 0
theorem oi_mulDivCeil (a0 : I64) (a1 : I64) (a2 : I64) : Fun Tryz.prog 236 [] #[vI a0,vI a1,vI a2] (vT_I_B (I_mulDivCeil a0 a1 a2)) []:=by
 refine Fun.ofH 400 E_ok mixed Tryz.func236 (by kernel_rfl) (by kernel_rfl) ?_
 unfold I_mulDivCeil
 refine Run.q (e:=vWd) (gv:=vT_I_B) (oi_WideMul _ _) fun r1 _=>?_
 refine Run.q (e:=vT_Wd_I_B) (gv:=vT_I_B) (oi_WideDiv _ _) fun r2 _=>?_
 refine Run.y (gv:=vT_I_B) (fun _=>?_) (fun _=>?_)
 ·exact Run.x 0
 ·refine Run.q (e:=vT_I_B) (gv:=vT_I_B) (oi_WideInt _) fun r3 _=>?_
  refine Run.y (gv:=vT_I_B) (fun _=>?_) (fun _=>?_)
  ·refine Run.z [true,true,true,true,true] ?_
   exact Run.x 0
  ·refine Run.z [false,false] ?_
   refine Run.y (gv:=vT_I_B) (fun _=>?_) (fun _=>?_)
   ·refine Run.z [true,false,true,false] ?_
    refine Run.y (gv:=vT_I_B) (fun _=>?_) (fun _=>?_)
    ·exact Run.x 0
    ·refine Run.y (gv:=vT_I_B) (fun _=>?_) (fun _=>?_)
     ·exact Run.x 0
     ·exact Run.x 0
   ·refine Run.z [false,false,false,false,false] ?_
    refine Run.y (gv:=vT_I_B) (fun _=>?_) (fun _=>?_)
    ·exact Run.x 0
    ·exact Run.x 0
theorem oi_FixCeil (a0 : I64) (a1 : I64) : Fun Tryz.prog 175 [] #[vI a0,vI a1] (vT_I_B (I_FixCeil a0 a1)) []:=by
 refine Fun.ofH 400 E_ok mixed Tryz.func175 (by kernel_rfl) (by kernel_rfl) ?_
 unfold I_FixCeil
 refine Run.q (e:=vT_I_B) (gv:=vT_I_B) (oi_mulDivCeil _ _ _) fun r1 _=>?_
 refine Run.q (e:=vT_I_B) (gv:=vT_I_B) (oi_fixed _ _) fun r2 _=>?_
 exact Run.x 0
theorem oi_Quotient (a0 : I64) (a1 : I64) : Fun Tryz.prog 108 [] #[vI a0,vI a1] (vIv (I_Quotient a0 a1)) []:=by
 refine Fun.ofH 400 E_ok mixed Tryz.func108 (by kernel_rfl) (by kernel_rfl) ?_
 unfold I_Quotient
 refine Run.y (gv:=vIv) (fun _=>?_) (fun _=>?_)
 ·refine Run.y (gv:=vIv) (fun _=>?_) (fun _=>?_)
  ·refine Run.z [true,true,true] ?_
   refine Run.q (e:=vIv) (gv:=vIv) (oi_Whole) fun r1 _=>?_
   exact Run.x 0
  ·refine Run.z [false,false] ?_
   refine Run.y (gv:=vIv) (fun _=>?_) (fun _=>?_)
   ·refine Run.q (e:=vIv) (gv:=vIv) (oi_Whole) fun r2 _=>?_
    exact Run.x 0
   ·refine Run.q (e:=vT_I_B) (gv:=vIv) (oi_FixFloor _ _) fun r3 _=>?_
    refine Run.q (e:=vT_I_B) (gv:=vIv) (oi_FixCeil _ _) fun r4 _=>?_
    refine Run.y (gv:=vIv) (fun _=>?_) (fun _=>?_)
    ·refine Run.z [true] ?_
     refine Run.q (e:=vIv) (gv:=vIv) (oi_bounded _ _ _) fun r5 _=>?_
     exact Run.x 0
    ·refine Run.z [false] ?_
     refine Run.q (e:=vIv) (gv:=vIv) (oi_bounded _ _ _) fun r6 _=>?_
     exact Run.x 0
 ·refine Run.q (e:=vT_I_B) (gv:=vIv) (oi_FixFloor _ _) fun r7 _=>?_
  refine Run.q (e:=vT_I_B) (gv:=vIv) (oi_FixCeil _ _) fun r8 _=>?_
  refine Run.y (gv:=vIv) (fun _=>?_) (fun _=>?_)
  ·refine Run.z [true] ?_
   refine Run.q (e:=vIv) (gv:=vIv) (oi_bounded _ _ _) fun r9 _=>?_
   exact Run.x 0
  ·refine Run.z [false] ?_
   refine Run.q (e:=vIv) (gv:=vIv) (oi_bounded _ _ _) fun r10 _=>?_
   exact Run.x 0
theorem oi_areBounded (a0 : Iv) (a1 : Iv) : Fun Tryz.prog 96 [] #[vIv a0,vIv a1] (vB (I_areBounded a0 a1)) []:=by
 refine Fun.ofH 400 E_ok mixed Tryz.func96 (by kernel_rfl) (by kernel_rfl) ?_
 unfold I_areBounded
 refine Run.q (e:=vB) (gv:=vB) (oi_ValidInterval _) fun r1 _=>?_
 refine Run.y (gv:=vB) (fun _=>?_) (fun _=>?_)
 ·refine Run.z [true] ?_
  refine Run.q (e:=vB) (gv:=vB) (oi_ValidInterval _) fun r2 _=>?_
  refine Run.z [true] ?_
  exact Run.x 0
 ·refine Run.z [false,false] ?_
  exact Run.x 0
theorem oi_AddI (a0 : Iv) (a1 : Iv) : Fun Tryz.prog 61 [] #[vIv a0,vIv a1] (vIv (I_AddI a0 a1)) []:=by
 refine Fun.ofH 400 E_ok mixed Tryz.func61 (by kernel_rfl) (by kernel_rfl) ?_
 unfold I_AddI
 refine Run.q (e:=vB) (gv:=vIv) (oi_areBounded _ _) fun r1 _=>?_
 refine Run.y (gv:=vIv) (fun _=>?_) (fun _=>?_)
 ·refine Run.q (e:=vIv) (gv:=vIv) (oi_Whole) fun r2 _=>?_
  exact Run.x 0
 ·refine Run.q (e:=vIv) (gv:=vIv) (oi_bounded _ _ _) fun r3 _=>?_
  exact Run.x 0
theorem oi_IsWhole (a0 : Iv) : Fun Tryz.prog 95 [] #[vIv a0] (vB (I_IsWhole a0)) []:=by
 refine Fun.ofH 400 E_ok mixed Tryz.func95 (by kernel_rfl) (by kernel_rfl) ?_
 unfold I_IsWhole
 refine Run.q (e:=vB) (gv:=vB) (oi_ValidInterval _) fun r1 _=>?_
 exact Run.x 0
theorem oi_NegI (a0 : Iv) : Fun Tryz.prog 129 [] #[vIv a0] (vIv (I_NegI a0)) []:=by
 refine Fun.ofH 400 E_ok mixed Tryz.func129 (by kernel_rfl) (by kernel_rfl) ?_
 unfold I_NegI
 refine Run.q (e:=vB) (gv:=vIv) (oi_IsWhole _) fun r1 _=>?_
 refine Run.y (gv:=vIv) (fun _=>?_) (fun _=>?_)
 ·refine Run.q (e:=vIv) (gv:=vIv) (oi_Whole) fun r2 _=>?_
  exact Run.x 0
 ·exact Run.x 0
theorem oi_WideShift (a0 : Wd) (a1 : I64) : Fun Tryz.prog 230 [] #[vWd a0,vI a1] (vWd (I_WideShift a0 a1)) []:=by
 refine Fun.ofH 400 E_ok mixed Tryz.func230 (by kernel_rfl) (by kernel_rfl) ?_
 unfold I_WideShift
 refine Run.q (e:=vB) (gv:=vWd) (oi_within _ _ _) fun r1 hr1=>?_
 refine Run.y (gv:=vWd) (fun h2=>?_) (fun h2=>?_)
 ·exact Run.x 0
 ·refine Run.y (gv:=vWd) (fun h3=>?_) (fun h3=>?_)
  ·refine Run.z [true] ?_
   refine Run.k (c:=(decide (0 ≤ (w64 (a1.val - 64)).val))) (by kernel_rfl) (by have q:=a1.hi; rw [hr1] at h2; simp [I_within,c64_val] at h2; simp only [w64_val,decide_eq_true_eq,decide_eq_false_iff_not] at *; omega) ?_
   exact Run.x 0
  ·refine Run.k (c:=(decide (0 ≤ a1.val))) (by kernel_rfl) (by have q:=a1.hi; rw [hr1] at h2; simp [I_within,c64_val] at h2; simp only [w64_val,decide_eq_true_eq,decide_eq_false_iff_not] at *; omega) ?_
   refine Run.k (c:=(decide (0 ≤ a1.val))) (by kernel_rfl) (by have q:=a1.hi; rw [hr1] at h2; simp [I_within,c64_val] at h2; simp only [w64_val,decide_eq_true_eq,decide_eq_false_iff_not] at *; omega) ?_
   refine Run.k (c:=(decide (0 ≤ (w64 (64 - a1.val)).val))) (by kernel_rfl) (by have q:=a1.hi; rw [hr1] at h2; simp [I_within,c64_val] at h2; simp only [w64_val,decide_eq_true_eq,decide_eq_false_iff_not] at *; omega) ?_
   exact Run.x 0
theorem oi_MulFloor (a0 : I64) (a1 : I64) (a2 : I64) : Fun Tryz.prog 171 [] #[vI a0,vI a1,vI a2] (vT_I_B (I_MulFloor a0 a1 a2)) []:=by
 refine Fun.ofH 400 E_ok mixed Tryz.func171 (by kernel_rfl) (by kernel_rfl) ?_
 unfold I_MulFloor
 refine Run.q (e:=vB) (gv:=vT_I_B) (oi_within _ _ _) fun r1 _=>?_
 refine Run.y (gv:=vT_I_B) (fun _=>?_) (fun _=>?_)
 ·exact Run.x 0
 ·refine Run.q (e:=vWd) (gv:=vT_I_B) (oi_WideMul _ _) fun r2 _=>?_
  refine Run.q (e:=vWd) (gv:=vT_I_B) (oi_WideShift _ _) fun r3 _=>?_
  refine Run.q (e:=vT_I_B) (gv:=vT_I_B) (oi_WideInt _) fun r4 _=>?_
  exact Run.x 0
theorem oi_TurnI_r : ∀ (fu : Nat) (a0 : I64) (hm : min (0 - a0.val).toNat 1 < fu),Fun Tryz.prog 210 [] #[vI a0] (vIv (I_TurnI_r fu a0)) []:=by
 intro fu
 induction fu with
 | zero=>intro a0 hm; exact absurd hm (Nat.not_lt_zero _)
 | succ fu ih=>
  intro a0 hm
  refine Fun.ofH 400 E_ok mixed Tryz.func210 (by kernel_rfl) (by kernel_rfl) ?_
  unfold I_TurnI_r
  refine Run.q (e:=vB) (gv:=vIv) (oi_within _ _ _) fun r1 hr1=>?_
  refine Run.y (gv:=vIv) (fun h2=>?_) (fun h2=>?_)
  ·refine Run.q (e:=vIv) (gv:=vIv) (oi_Whole) fun r3 hr3=>?_
   exact Run.x 0
  ·refine Run.y (gv:=vIv) (fun h4=>?_) (fun h4=>?_)
   ·refine Run.q (e:=vIv) (gv:=vIv) (ih (w64 (0 - a0.val)) (by rw [hr1] at h2; simp [I_within,c64_val] at h2; simp only [w64_val,decide_eq_true_eq,decide_eq_false_iff_not] at *; omega)) fun r5 hr5=>?_
    refine Run.q (e:=vIv) (gv:=vIv) (oi_NegI _) fun r6 hr6=>?_
    exact Run.x 0
   ·refine Run.y (gv:=vIv) (fun h7=>?_) (fun h7=>?_)
    ·exact Run.x 0
    ·refine Run.q (e:=vT_I_B) (gv:=vIv) (oi_MulFloor _ _ _) fun r8 hr8=>?_
     exact Run.x 0
theorem oi_TurnI (a0 : I64) : Fun Tryz.prog 210 [] #[vI a0] (vIv (I_TurnI a0)) []:=oi_TurnI_r 2 a0 (by omega)
theorem oi_PiI : Fun Tryz.prog 142 [] #[] (vIv (I_PiI)) []:=by
 refine Fun.ofH 400 E_ok mixed Tryz.func142 (by kernel_rfl) (by kernel_rfl) ?_
 unfold I_PiI
 refine Run.q (e:=vIv) (gv:=vIv) (oi_TurnI _) fun r1 _=>?_
 exact Run.x 0
theorem oi_MulDown (a0 : I64) (a1 : I64) : Fun Tryz.prog 98 [] #[vI a0,vI a1] (vT_I_B (I_MulDown a0 a1)) []:=by
 refine Fun.ofH 400 E_ok mixed Tryz.func98 (by kernel_rfl) (by kernel_rfl) ?_
 unfold I_MulDown
 refine Run.q (e:=vB) (gv:=vT_I_B) (oi_ValidFix _) fun r1 _=>?_
 refine Run.y (gv:=vT_I_B) (fun _=>?_) (fun _=>?_)
 ·refine Run.z [true,true,true,true] ?_
  exact Run.x 0
 ·refine Run.z [false] ?_
  refine Run.q (e:=vB) (gv:=vT_I_B) (oi_ValidFix _) fun r2 _=>?_
  refine Run.z [false,false] ?_
  refine Run.y (gv:=vT_I_B) (fun _=>?_) (fun _=>?_)
  ·exact Run.x 0
  ·refine Run.q (e:=vT_I_B) (gv:=vT_I_B) (oi_MulFloor _ _ _) fun r3 _=>?_
   refine Run.q (e:=vT_I_B) (gv:=vT_I_B) (oi_fixed _ _) fun r4 _=>?_
   exact Run.x 0
theorem oi_MulUp (a0 : I64) (a1 : I64) : Fun Tryz.prog 99 [] #[vI a0,vI a1] (vT_I_B (I_MulUp a0 a1)) []:=by
 refine Fun.ofH 400 E_ok mixed Tryz.func99 (by kernel_rfl) (by kernel_rfl) ?_
 unfold I_MulUp
 refine Run.q (e:=vB) (gv:=vT_I_B) (oi_ValidFix _) fun r1 _=>?_
 refine Run.y (gv:=vT_I_B) (fun _=>?_) (fun _=>?_)
 ·refine Run.z [true,true,true,true] ?_
  exact Run.x 0
 ·refine Run.z [false] ?_
  refine Run.q (e:=vB) (gv:=vT_I_B) (oi_ValidFix _) fun r2 _=>?_
  refine Run.z [false,false] ?_
  refine Run.y (gv:=vT_I_B) (fun _=>?_) (fun _=>?_)
  ·exact Run.x 0
  ·refine Run.q (e:=vT_I_B) (gv:=vT_I_B) (oi_MulDown _ _) fun r3 _=>?_
   exact Run.x 0
theorem oi_combine__impl_MulDown__impl_MulUp (a0 : Iv) (a1 : Iv) : Fun Tryz.prog 97 [] #[vIv a0,vIv a1,.func (.func 98) #[] #[],.func (.func 99) #[] #[]] (vIv (I_combine__impl_MulDown__impl_MulUp a0 a1)) []:=by
 refine Fun.ofH 400 E_ok mixed Tryz.func97 (by kernel_rfl) (by kernel_rfl) ?_
 unfold I_combine__impl_MulDown__impl_MulUp
 refine Run.u 400 E_ok mixed Tryz.func97 ?_
 refine Run.z [true] ?_
 refine Run.u 400 E_ok mixed Tryz.func97 ?_
 refine Run.z [true] ?_
 refine Run.q (e:=vT_I_B) (gv:=vIv) (oi_MulDown _ _) fun r1 _=>?_
 refine Run.q (e:=vT_I_B) (gv:=vIv) (oi_MulUp _ _) fun r2 _=>?_
 refine Run.y (gv:=vIv) (fun _=>?_) (fun _=>?_)
 ·refine Run.z [true,true,true] ?_
  refine Run.q (e:=vIv) (gv:=vIv) (oi_Whole) fun r3 _=>?_
  exact Run.x 0
 ·refine Run.z [false,false] ?_
  refine Run.y (gv:=vIv) (fun _=>?_) (fun _=>?_)
  ·refine Run.q (e:=vIv) (gv:=vIv) (oi_Whole) fun r4 _=>?_
   exact Run.x 0
  ·refine Run.z [true] ?_
   refine Run.u 400 E_ok mixed Tryz.func97 ?_
   refine Run.z [true] ?_
   refine Run.q (e:=vT_I_B) (gv:=vIv) (oi_MulDown _ _) fun r5 _=>?_
   refine Run.q (e:=vT_I_B) (gv:=vIv) (oi_MulUp _ _) fun r6 _=>?_
   refine Run.y (gv:=vIv) (fun _=>?_) (fun _=>?_)
   ·refine Run.z [true,true,true] ?_
    refine Run.q (e:=vIv) (gv:=vIv) (oi_Whole) fun r7 _=>?_
    exact Run.x 0
   ·refine Run.z [false,false] ?_
    refine Run.y (gv:=vIv) (fun _=>?_) (fun _=>?_)
    ·refine Run.q (e:=vIv) (gv:=vIv) (oi_Whole) fun r8 _=>?_
     exact Run.x 0
    ·refine Run.z [false] ?_
     refine Run.u 400 E_ok mixed Tryz.func97 ?_
     refine Run.z [false] ?_
     refine Run.u 400 E_ok mixed Tryz.func97 ?_
     refine Run.z [true] ?_
     refine Run.u 400 E_ok mixed Tryz.func97 ?_
     refine Run.z [true] ?_
     refine Run.q (e:=vT_I_B) (gv:=vIv) (oi_MulDown _ _) fun r9 _=>?_
     refine Run.q (e:=vT_I_B) (gv:=vIv) (oi_MulUp _ _) fun r10 _=>?_
     refine Run.y (gv:=vIv) (fun _=>?_) (fun _=>?_)
     ·refine Run.z [true,true,true] ?_
      refine Run.q (e:=vIv) (gv:=vIv) (oi_Whole) fun r11 _=>?_
      exact Run.x 0
     ·refine Run.z [false,false] ?_
      refine Run.y (gv:=vIv) (fun _=>?_) (fun _=>?_)
      ·refine Run.q (e:=vIv) (gv:=vIv) (oi_Whole) fun r12 _=>?_
       exact Run.x 0
      ·refine Run.z [false] ?_
       refine Run.u 400 E_ok mixed Tryz.func97 ?_
       refine Run.z [true] ?_
       refine Run.q (e:=vT_I_B) (gv:=vIv) (oi_MulDown _ _) fun r13 _=>?_
       refine Run.q (e:=vT_I_B) (gv:=vIv) (oi_MulUp _ _) fun r14 _=>?_
       refine Run.y (gv:=vIv) (fun _=>?_) (fun _=>?_)
       ·refine Run.z [true,true,true] ?_
        refine Run.q (e:=vIv) (gv:=vIv) (oi_Whole) fun r15 _=>?_
        exact Run.x 0
       ·refine Run.z [false,false] ?_
        refine Run.y (gv:=vIv) (fun _=>?_) (fun _=>?_)
        ·refine Run.q (e:=vIv) (gv:=vIv) (oi_Whole) fun r16 _=>?_
         exact Run.x 0
        ·refine Run.z [false] ?_
         refine Run.u 400 E_ok mixed Tryz.func97 ?_
         refine Run.z [false] ?_
         refine Run.u 400 E_ok mixed Tryz.func97 ?_
         refine Run.z [false] ?_
         refine Run.q (e:=vIv) (gv:=vIv) (oi_bounded _ _ _) fun r17 _=>?_
         exact Run.x 0
theorem oi_MulI (a0 : Iv) (a1 : Iv) : Fun Tryz.prog 35 [] #[vIv a0,vIv a1] (vIv (I_MulI a0 a1)) []:=by
 refine Fun.ofH 400 E_ok mixed Tryz.func35 (by kernel_rfl) (by kernel_rfl) ?_
 unfold I_MulI
 refine Run.q (e:=vB) (gv:=vIv) (oi_areBounded _ _) fun r1 _=>?_
 refine Run.y (gv:=vIv) (fun _=>?_) (fun _=>?_)
 ·refine Run.q (e:=vIv) (gv:=vIv) (oi_Whole) fun r2 _=>?_
  exact Run.x 0
 ·refine Run.q (e:=vIv) (gv:=vIv) (oi_combine__impl_MulDown__impl_MulUp _ _) fun r3 _=>?_
  exact Run.x 0
theorem oi_affineOf_1__pIv (b0 : Iv) (a0 : I64) : Fun Tryz.prog 141 [(#[.int .i64 b0.lo.val,.int .i64 b0.hi.val],31)] #[vI a0,.pointer (some ⟨0,0,none⟩)] (vIv (I_affineOf_1__pIv b0 a0)) [(#[.int .i64 b0.lo.val,.int .i64 b0.hi.val],31)]:=by
 refine Fun.ofH 400 E_ok mixed Tryz.func141 (by kernel_rfl) (by kernel_rfl) ?_
 unfold I_affineOf_1__pIv
 refine Run.q (e:=vIv) (gv:=vIv) (oi_PiI) fun r1 _=>?_
 refine Run.q (e:=vIv) (gv:=vIv) (oi_Quotient _ _) fun r2 _=>?_
 refine Run.q (e:=vIv) (gv:=vIv) (oi_MulI _ _) fun r3 _=>?_
 refine Run.q (e:=vIv) (gv:=vIv) (oi_MulI _ _) fun r4 _=>?_
 exact Run.x 1
theorem oi_affineOf (a0 : Sf) : Fun Tryz.prog 70 [] #[vSf a0] (vAf (I_affineOf a0)) []:=by
 refine Fun.ofH 400 E_ok mixed Tryz.func70 (by kernel_rfl) (by kernel_rfl) ?_
 unfold I_affineOf
 refine Run.q (e:=vIv) (gv:=vAf) (oi_Integer _) fun r1 _=>?_
 refine Run.q (e:=vIv) (gv:=vAf) (oi_Quotient _ _) fun r2 _=>?_
 refine Run.q (e:=vIv) (gv:=vAf) (oi_AddI _ _) fun r3 _=>?_
 refine Run.w (e:=vIv) (gv:=vAf) [2] (oi_affineOf_1__pIv _ _) fun r4 _=>?_
 refine Run.w (e:=vIv) (gv:=vAf) [2] (oi_affineOf_1__pIv _ _) fun r5 _=>?_
 refine Run.w (e:=vIv) (gv:=vAf) [2] (oi_affineOf_1__pIv _ _) fun r6 _=>?_
 refine Run.q (e:=vIv) (gv:=vAf) (oi_NegI _) fun r7 _=>?_
 refine Run.q (e:=vIv) (gv:=vAf) (oi_NegI _) fun r8 _=>?_
 refine Run.q (e:=vIv) (gv:=vAf) (oi_NegI _) fun r9 _=>?_
 refine Run.q (e:=vIv) (gv:=vAf) (oi_Quotient _ _) fun r10 _=>?_
 refine Run.q (e:=vIv) (gv:=vAf) (oi_Quotient _ _) fun r11 _=>?_
 refine Run.q (e:=vIv) (gv:=vAf) (oi_Quotient _ _) fun r12 _=>?_
 exact Run.x 0
theorem oi_RadiansOf_r : ∀ (fu : Nat) (a0 : I64) (hm : min (0 - a0.val).toNat 1 < fu),Fun Tryz.prog 105 [] #[vI a0] (vIv (I_RadiansOf_r fu a0)) []:=by
 intro fu
 induction fu with
 | zero=>intro a0 hm; exact absurd hm (Nat.not_lt_zero _)
 | succ fu ih=>
  intro a0 hm
  refine Fun.ofH 400 E_ok mixed Tryz.func105 (by kernel_rfl) (by kernel_rfl) ?_
  unfold I_RadiansOf_r
  refine Run.q (e:=vB) (gv:=vIv) (oi_within _ _ _) fun r1 hr1=>?_
  refine Run.y (gv:=vIv) (fun h2=>?_) (fun h2=>?_)
  ·refine Run.q (e:=vIv) (gv:=vIv) (oi_Whole) fun r3 hr3=>?_
   exact Run.x 0
  ·refine Run.y (gv:=vIv) (fun h4=>?_) (fun h4=>?_)
   ·refine Run.q (e:=vIv) (gv:=vIv) (ih (w64 (0 - a0.val)) (by rw [hr1] at h2; simp [I_within,c64_val] at h2; simp only [w64_val,decide_eq_true_eq,decide_eq_false_iff_not] at *; omega)) fun r5 hr5=>?_
    refine Run.q (e:=vIv) (gv:=vIv) (oi_NegI _) fun r6 hr6=>?_
    exact Run.x 0
   ·refine Run.y (gv:=vIv) (fun h7=>?_) (fun h7=>?_)
    ·exact Run.x 0
    ·refine Run.q (e:=vT_I_B) (gv:=vIv) (oi_MulDivFloor _ _ _) fun r8 hr8=>?_
     refine Run.q (e:=vT_I_B) (gv:=vIv) (oi_MulDivFloor _ _ _) fun r9 hr9=>?_
     exact Run.x 0
theorem oi_RadiansOf (a0 : I64) : Fun Tryz.prog 105 [] #[vI a0] (vIv (I_RadiansOf a0)) []:=oi_RadiansOf_r 2 a0 (by omega)
theorem oi_LatOf (a0 : Pt) : Fun Tryz.prog 106 [] #[vPt a0] (vIv (I_LatOf a0)) []:=by
 refine Fun.ofH 400 E_ok mixed Tryz.func106 (by kernel_rfl) (by kernel_rfl) ?_
 unfold I_LatOf
 refine Run.q (e:=vB) (gv:=vIv) (oi_ValidPoint _) fun r1 _=>?_
 refine Run.y (gv:=vIv) (fun _=>?_) (fun _=>?_)
 ·refine Run.q (e:=vIv) (gv:=vIv) (oi_Whole) fun r2 _=>?_
  exact Run.x 0
 ·refine Run.q (e:=vIv) (gv:=vIv) (oi_RadiansOf _) fun r3 _=>?_
  exact Run.x 0
theorem oi_LonOf (a0 : Pt) : Fun Tryz.prog 143 [] #[vPt a0] (vIv (I_LonOf a0)) []:=by
 refine Fun.ofH 400 E_ok mixed Tryz.func143 (by kernel_rfl) (by kernel_rfl) ?_
 unfold I_LonOf
 refine Run.q (e:=vB) (gv:=vIv) (oi_ValidPoint _) fun r1 _=>?_
 refine Run.y (gv:=vIv) (fun _=>?_) (fun _=>?_)
 ·refine Run.q (e:=vIv) (gv:=vIv) (oi_Whole) fun r2 _=>?_
  exact Run.x 0
 ·refine Run.q (e:=vIv) (gv:=vIv) (oi_RadiansOf _) fun r3 _=>?_
  exact Run.x 0
theorem oi_MajorI_1__pEl (b0 : El) : Fun Tryz.prog 208 [(#[.int .i64 b0.a.val,.int .i64 b0.num.val,.int .i64 b0.den.val],44)] #[.pointer (some ⟨0,0,none⟩)] (vIv (I_MajorI_1__pEl b0)) [(#[.int .i64 b0.a.val,.int .i64 b0.num.val,.int .i64 b0.den.val],44)]:=by
 refine Fun.ofH 400 E_ok mixed Tryz.func208 (by kernel_rfl) (by kernel_rfl) ?_
 unfold I_MajorI_1__pEl
 refine Run.q (e:=vIv) (gv:=vIv) (oi_Quotient _ _) fun r1 _=>?_
 exact Run.x 1
theorem oi_ifValid__impl_MajorI_1_pEl (b0 : El) (a0 : El) : Fun Tryz.prog 207 [(#[.int .i64 b0.a.val,.int .i64 b0.num.val,.int .i64 b0.den.val],44)] #[vEl a0,.func (.func 208) #[] #[.pointer (some ⟨0,0,none⟩)]] (vIv (I_ifValid__impl_MajorI_1_pEl b0 a0)) [(#[.int .i64 b0.a.val,.int .i64 b0.num.val,.int .i64 b0.den.val],44)]:=by
 refine Fun.ofH 400 E_ok mixed Tryz.func207 (by kernel_rfl) (by kernel_rfl) ?_
 unfold I_ifValid__impl_MajorI_1_pEl
 refine Run.q (e:=vB) (gv:=vIv) (oi_ValidEllipsoid _) fun r1 _=>?_
 refine Run.y (gv:=vIv) (fun _=>?_) (fun _=>?_)
 ·refine Run.q (e:=vIv) (gv:=vIv) (oi_Whole) fun r2 _=>?_
  exact Run.x 1
 ·refine Run.w (e:=vIv) (gv:=vIv) [0] (oi_MajorI_1__pEl _) fun r3 _=>?_
  exact Run.x 1
theorem oi_MajorI (a0 : El) : Fun Tryz.prog 136 [] #[vEl a0] (vIv (I_MajorI a0)) []:=by
 refine Fun.ofH 400 E_ok mixed Tryz.func136 (by kernel_rfl) (by kernel_rfl) ?_
 unfold I_MajorI
 refine Run.w (e:=vIv) (gv:=vIv) [0] (oi_ifValid__impl_MajorI_1_pEl _ _) fun r1 _=>?_
 exact Run.x 0
theorem oi_isAngle (a0 : I64) : Fun Tryz.prog 274 [] #[vI a0] (vB (I_isAngle a0)) []:=by
 refine Fun.ofH 400 E_ok mixed Tryz.func274 (by kernel_rfl) (by kernel_rfl) ?_
 unfold I_isAngle
 refine Run.q (e:=vB) (gv:=vB) (oi_within _ _ _) fun r1 _=>?_
 exact Run.x 0
theorem oi_areAngles (a0 : Iv) : Fun Tryz.prog 232 [] #[vIv a0] (vB (I_areAngles a0)) []:=by
 refine Fun.ofH 400 E_ok mixed Tryz.func232 (by kernel_rfl) (by kernel_rfl) ?_
 unfold I_areAngles
 refine Run.q (e:=vB) (gv:=vB) (oi_ValidInterval _) fun r1 _=>?_
 refine Run.y (gv:=vB) (fun _=>?_) (fun _=>?_)
 ·refine Run.z [true,true] ?_
  refine Run.q (e:=vB) (gv:=vB) (oi_isAngle _) fun r2 _=>?_
  refine Run.z [true] ?_
  refine Run.y (gv:=vB) (fun _=>?_) (fun _=>?_)
  ·refine Run.z [true,true] ?_
   refine Run.q (e:=vB) (gv:=vB) (oi_isAngle _) fun r3 _=>?_
   refine Run.z [true] ?_
   exact Run.x 0
  ·refine Run.z [false,false,false] ?_
   exact Run.x 0
 ·refine Run.z [false,false,false,false,false,false,false] ?_
  exact Run.x 0
theorem oi_ring : Fun Tryz.prog 123 [] #[] (vIv (I_ring)) []:=by
 refine Fun.ofH 400 E_ok mixed Tryz.func123 (by kernel_rfl) (by kernel_rfl) ?_
 unfold I_ring
 exact Run.x 0
theorem oi_QuarterOf (a0 : I64) : Fun Tryz.prog 275 [] #[vI a0] (vI (I_QuarterOf a0)) []:=by
 refine Fun.ofH 400 E_ok mixed Tryz.func275 (by kernel_rfl) (by kernel_rfl) ?_
 unfold I_QuarterOf
 refine Run.q (e:=vB) (gv:=vI) (oi_isAngle _) fun r1 _=>?_
 refine Run.y (gv:=vI) (fun _=>?_) (fun _=>?_)
 ·exact Run.x 0
 ·refine Run.z [true] ?_
  refine Run.y (gv:=vI) (fun _=>?_) (fun _=>?_)
  ·exact Run.x 0
  ·exact Run.x 0
theorem oi_at (a0 : I64) : Fun Tryz.prog 202 [] #[vI a0] (vIv (I_at a0)) []:=by
 refine Fun.ofH 400 E_ok mixed Tryz.func202 (by kernel_rfl) (by kernel_rfl) ?_
 unfold I_at
 exact Run.x 0
theorem oi_SubI (a0 : Iv) (a1 : Iv) : Fun Tryz.prog 60 [] #[vIv a0,vIv a1] (vIv (I_SubI a0 a1)) []:=by
 refine Fun.ofH 400 E_ok mixed Tryz.func60 (by kernel_rfl) (by kernel_rfl) ?_
 unfold I_SubI
 refine Run.q (e:=vIv) (gv:=vIv) (oi_NegI _) fun r1 _=>?_
 refine Run.q (e:=vIv) (gv:=vIv) (oi_AddI _ _) fun r2 _=>?_
 exact Run.x 0
theorem oi_InsideI (a0 : Iv) (a1 : Iv) : Fun Tryz.prog 300 [] #[vIv a0,vIv a1] (vB (I_InsideI a0 a1)) []:=by
 refine Fun.ofH 400 E_ok mixed Tryz.func300 (by kernel_rfl) (by kernel_rfl) ?_
 unfold I_InsideI
 refine Run.q (e:=vB) (gv:=vB) (oi_IsWhole _) fun r1 _=>?_
 refine Run.y (gv:=vB) (fun _=>?_) (fun _=>?_)
 ·refine Run.z [true,true,true] ?_
  refine Run.q (e:=vB) (gv:=vB) (oi_IsWhole _) fun r2 _=>?_
  exact Run.x 0
 ·refine Run.z [false] ?_
  refine Run.q (e:=vB) (gv:=vB) (oi_IsWhole _) fun r3 _=>?_
  refine Run.z [false] ?_
  refine Run.y (gv:=vB) (fun _=>?_) (fun _=>?_)
  ·refine Run.q (e:=vB) (gv:=vB) (oi_IsWhole _) fun r4 _=>?_
   exact Run.x 0
  ·refine Run.y (gv:=vB) (fun _=>?_) (fun _=>?_)
   ·refine Run.z [true,true,true,true,true] ?_
    exact Run.x 0
   ·refine Run.z [false,false,false,false,false] ?_
    exact Run.x 0
theorem oi_abs (a0 : I64) : Fun Tryz.prog 102 [] #[vI a0] (vI (I_abs a0)) []:=by
 refine Fun.ofH 400 E_ok mixed Tryz.func102 (by kernel_rfl) (by kernel_rfl) ?_
 unfold I_abs
 exact Run.x 0
theorem oi_HasI (a0 : Iv) (a1 : I64) : Fun Tryz.prog 126 [] #[vIv a0,vI a1] (vB (I_HasI a0 a1)) []:=by
 refine Fun.ofH 400 E_ok mixed Tryz.func126 (by kernel_rfl) (by kernel_rfl) ?_
 unfold I_HasI
 refine Run.q (e:=vB) (gv:=vB) (oi_IsWhole _) fun r1 _=>?_
 refine Run.y (gv:=vB) (fun _=>?_) (fun _=>?_)
 ·refine Run.z [true,true,true,true,true,true] ?_
  exact Run.x 0
 ·refine Run.z [false,false,false,false,false] ?_
  refine Run.q (e:=vB) (gv:=vB) (oi_within _ _ _) fun r2 _=>?_
  refine Run.z [false] ?_
  exact Run.x 0
theorem oi_AbsI (a0 : Iv) : Fun Tryz.prog 59 [] #[vIv a0] (vIv (I_AbsI a0)) []:=by
 refine Fun.ofH 400 E_ok mixed Tryz.func59 (by kernel_rfl) (by kernel_rfl) ?_
 unfold I_AbsI
 refine Run.q (e:=vB) (gv:=vIv) (oi_IsWhole _) fun r1 _=>?_
 refine Run.y (gv:=vIv) (fun _=>?_) (fun _=>?_)
 ·refine Run.q (e:=vIv) (gv:=vIv) (oi_Whole) fun r2 _=>?_
  exact Run.x 0
 ·refine Run.q (e:=vI) (gv:=vIv) (oi_abs _) fun r3 _=>?_
  refine Run.q (e:=vI) (gv:=vIv) (oi_abs _) fun r4 _=>?_
  refine Run.q (e:=vI) (gv:=vIv) (oi_abs _) fun r5 _=>?_
  refine Run.q (e:=vI) (gv:=vIv) (oi_abs _) fun r6 _=>?_
  refine Run.q (e:=vB) (gv:=vIv) (oi_HasI _ _) fun r7 _=>?_
  refine Run.y (gv:=vIv) (fun _=>?_) (fun _=>?_)
  ·exact Run.x 0
  ·exact Run.x 0
theorem oi_SqrI (a0 : Iv) : Fun Tryz.prog 118 [] #[vIv a0] (vIv (I_SqrI a0)) []:=by
 refine Fun.ofH 400 E_ok mixed Tryz.func118 (by kernel_rfl) (by kernel_rfl) ?_
 unfold I_SqrI
 refine Run.q (e:=vB) (gv:=vIv) (oi_IsWhole _) fun r1 _=>?_
 refine Run.y (gv:=vIv) (fun _=>?_) (fun _=>?_)
 ·refine Run.q (e:=vIv) (gv:=vIv) (oi_Whole) fun r2 _=>?_
  exact Run.x 0
 ·refine Run.q (e:=vIv) (gv:=vIv) (oi_AbsI _) fun r3 _=>?_
  refine Run.q (e:=vT_I_B) (gv:=vIv) (oi_MulDown _ _) fun r4 _=>?_
  refine Run.q (e:=vT_I_B) (gv:=vIv) (oi_MulUp _ _) fun r5 _=>?_
  refine Run.y (gv:=vIv) (fun _=>?_) (fun _=>?_)
  ·refine Run.z [true] ?_
   refine Run.q (e:=vIv) (gv:=vIv) (oi_bounded _ _ _) fun r6 _=>?_
   exact Run.x 0
  ·refine Run.z [false] ?_
   refine Run.q (e:=vIv) (gv:=vIv) (oi_bounded _ _ _) fun r7 _=>?_
   exact Run.x 0
theorem oi_DivDown (a0 : I64) (a1 : I64) : Fun Tryz.prog 127 [] #[vI a0,vI a1] (vT_I_B (I_DivDown a0 a1)) []:=by
 refine Fun.ofH 400 E_ok mixed Tryz.func127 (by kernel_rfl) (by kernel_rfl) ?_
 unfold I_DivDown
 refine Run.q (e:=vB) (gv:=vT_I_B) (oi_ValidFix _) fun r1 _=>?_
 refine Run.y (gv:=vT_I_B) (fun _=>?_) (fun _=>?_)
 ·refine Run.z [true,true,true,true] ?_
  exact Run.x 0
 ·refine Run.z [false] ?_
  refine Run.q (e:=vB) (gv:=vT_I_B) (oi_ValidFix _) fun r2 _=>?_
  refine Run.z [false,false] ?_
  refine Run.y (gv:=vT_I_B) (fun _=>?_) (fun _=>?_)
  ·exact Run.x 0
  ·refine Run.y (gv:=vT_I_B) (fun _=>?_) (fun _=>?_)
   ·refine Run.q (e:=vT_I_B) (gv:=vT_I_B) (oi_MulDivFloor _ _ _) fun r3 _=>?_
    refine Run.q (e:=vT_I_B) (gv:=vT_I_B) (oi_fixed _ _) fun r4 _=>?_
    exact Run.x 0
   ·refine Run.q (e:=vT_I_B) (gv:=vT_I_B) (oi_MulDivFloor _ _ _) fun r5 _=>?_
    refine Run.q (e:=vT_I_B) (gv:=vT_I_B) (oi_fixed _ _) fun r6 _=>?_
    exact Run.x 0
theorem oi_DivUp (a0 : I64) (a1 : I64) : Fun Tryz.prog 128 [] #[vI a0,vI a1] (vT_I_B (I_DivUp a0 a1)) []:=by
 refine Fun.ofH 400 E_ok mixed Tryz.func128 (by kernel_rfl) (by kernel_rfl) ?_
 unfold I_DivUp
 refine Run.q (e:=vB) (gv:=vT_I_B) (oi_ValidFix _) fun r1 _=>?_
 refine Run.y (gv:=vT_I_B) (fun _=>?_) (fun _=>?_)
 ·refine Run.z [true,true,true,true] ?_
  exact Run.x 0
 ·refine Run.z [false] ?_
  refine Run.q (e:=vB) (gv:=vT_I_B) (oi_ValidFix _) fun r2 _=>?_
  refine Run.z [false,false] ?_
  refine Run.y (gv:=vT_I_B) (fun _=>?_) (fun _=>?_)
  ·exact Run.x 0
  ·refine Run.q (e:=vT_I_B) (gv:=vT_I_B) (oi_DivDown _ _) fun r3 _=>?_
   exact Run.x 0
theorem oi_combine__impl_DivDown__impl_DivUp (a0 : Iv) (a1 : Iv) : Fun Tryz.prog 97 [] #[vIv a0,vIv a1,.func (.func 127) #[] #[],.func (.func 128) #[] #[]] (vIv (I_combine__impl_DivDown__impl_DivUp a0 a1)) []:=by
 refine Fun.ofH 400 E_ok mixed Tryz.func97 (by kernel_rfl) (by kernel_rfl) ?_
 unfold I_combine__impl_DivDown__impl_DivUp
 refine Run.u 400 E_ok mixed Tryz.func97 ?_
 refine Run.z [true] ?_
 refine Run.u 400 E_ok mixed Tryz.func97 ?_
 refine Run.z [true] ?_
 refine Run.q (e:=vT_I_B) (gv:=vIv) (oi_DivDown _ _) fun r1 _=>?_
 refine Run.q (e:=vT_I_B) (gv:=vIv) (oi_DivUp _ _) fun r2 _=>?_
 refine Run.y (gv:=vIv) (fun _=>?_) (fun _=>?_)
 ·refine Run.z [true,true,true] ?_
  refine Run.q (e:=vIv) (gv:=vIv) (oi_Whole) fun r3 _=>?_
  exact Run.x 0
 ·refine Run.z [false,false] ?_
  refine Run.y (gv:=vIv) (fun _=>?_) (fun _=>?_)
  ·refine Run.q (e:=vIv) (gv:=vIv) (oi_Whole) fun r4 _=>?_
   exact Run.x 0
  ·refine Run.z [true] ?_
   refine Run.u 400 E_ok mixed Tryz.func97 ?_
   refine Run.z [true] ?_
   refine Run.q (e:=vT_I_B) (gv:=vIv) (oi_DivDown _ _) fun r5 _=>?_
   refine Run.q (e:=vT_I_B) (gv:=vIv) (oi_DivUp _ _) fun r6 _=>?_
   refine Run.y (gv:=vIv) (fun _=>?_) (fun _=>?_)
   ·refine Run.z [true,true,true] ?_
    refine Run.q (e:=vIv) (gv:=vIv) (oi_Whole) fun r7 _=>?_
    exact Run.x 0
   ·refine Run.z [false,false] ?_
    refine Run.y (gv:=vIv) (fun _=>?_) (fun _=>?_)
    ·refine Run.q (e:=vIv) (gv:=vIv) (oi_Whole) fun r8 _=>?_
     exact Run.x 0
    ·refine Run.z [false] ?_
     refine Run.u 400 E_ok mixed Tryz.func97 ?_
     refine Run.z [false] ?_
     refine Run.u 400 E_ok mixed Tryz.func97 ?_
     refine Run.z [true] ?_
     refine Run.u 400 E_ok mixed Tryz.func97 ?_
     refine Run.z [true] ?_
     refine Run.q (e:=vT_I_B) (gv:=vIv) (oi_DivDown _ _) fun r9 _=>?_
     refine Run.q (e:=vT_I_B) (gv:=vIv) (oi_DivUp _ _) fun r10 _=>?_
     refine Run.y (gv:=vIv) (fun _=>?_) (fun _=>?_)
     ·refine Run.z [true,true,true] ?_
      refine Run.q (e:=vIv) (gv:=vIv) (oi_Whole) fun r11 _=>?_
      exact Run.x 0
     ·refine Run.z [false,false] ?_
      refine Run.y (gv:=vIv) (fun _=>?_) (fun _=>?_)
      ·refine Run.q (e:=vIv) (gv:=vIv) (oi_Whole) fun r12 _=>?_
       exact Run.x 0
      ·refine Run.z [false] ?_
       refine Run.u 400 E_ok mixed Tryz.func97 ?_
       refine Run.z [true] ?_
       refine Run.q (e:=vT_I_B) (gv:=vIv) (oi_DivDown _ _) fun r13 _=>?_
       refine Run.q (e:=vT_I_B) (gv:=vIv) (oi_DivUp _ _) fun r14 _=>?_
       refine Run.y (gv:=vIv) (fun _=>?_) (fun _=>?_)
       ·refine Run.z [true,true,true] ?_
        refine Run.q (e:=vIv) (gv:=vIv) (oi_Whole) fun r15 _=>?_
        exact Run.x 0
       ·refine Run.z [false,false] ?_
        refine Run.y (gv:=vIv) (fun _=>?_) (fun _=>?_)
        ·refine Run.q (e:=vIv) (gv:=vIv) (oi_Whole) fun r16 _=>?_
         exact Run.x 0
        ·refine Run.z [false] ?_
         refine Run.u 400 E_ok mixed Tryz.func97 ?_
         refine Run.z [false] ?_
         refine Run.u 400 E_ok mixed Tryz.func97 ?_
         refine Run.z [false] ?_
         refine Run.q (e:=vIv) (gv:=vIv) (oi_bounded _ _ _) fun r17 _=>?_
         exact Run.x 0
theorem oi_DivI (a0 : Iv) (a1 : Iv) : Fun Tryz.prog 58 [] #[vIv a0,vIv a1] (vIv (I_DivI a0 a1)) []:=by
 refine Fun.ofH 400 E_ok mixed Tryz.func58 (by kernel_rfl) (by kernel_rfl) ?_
 unfold I_DivI
 refine Run.q (e:=vB) (gv:=vIv) (oi_areBounded _ _) fun r1 _=>?_
 refine Run.y (gv:=vIv) (fun _=>?_) (fun _=>?_)
 ·refine Run.z [true,true,true] ?_
  refine Run.q (e:=vIv) (gv:=vIv) (oi_Whole) fun r2 _=>?_
  exact Run.x 0
 ·refine Run.z [false] ?_
  refine Run.q (e:=vB) (gv:=vIv) (oi_HasI _ _) fun r3 _=>?_
  refine Run.z [false] ?_
  refine Run.y (gv:=vIv) (fun _=>?_) (fun _=>?_)
  ·refine Run.q (e:=vIv) (gv:=vIv) (oi_Whole) fun r4 _=>?_
   exact Run.x 0
  ·refine Run.q (e:=vIv) (gv:=vIv) (oi_combine__impl_DivDown__impl_DivUp _ _) fun r5 _=>?_
   exact Run.x 0
theorem oi_series (a0 : Iv) (a1 : I64) : Fun Tryz.prog 301 [] #[vIv a0,vI a1] (vIv (I_series a0 a1)) []:=by
 refine Fun.ofH 400 E_ok mixed Tryz.func301 (by kernel_rfl) (by kernel_rfl) ?_
 unfold I_series
 refine Run.q (e:=vIv) (gv:=vIv) (oi_Integer _) fun r1 _=>?_
 refine Run.u 400 E_ok mixed Tryz.func301 ?_
 refine Run.z [true] ?_
 refine Run.q (e:=vIv) (gv:=vIv) (oi_Integer _) fun r2 _=>?_
 refine Run.q (e:=vIv) (gv:=vIv) (oi_Integer _) fun r3 _=>?_
 refine Run.q (e:=vIv) (gv:=vIv) (oi_DivI _ _) fun r4 _=>?_
 refine Run.q (e:=vIv) (gv:=vIv) (oi_MulI _ _) fun r5 _=>?_
 refine Run.q (e:=vIv) (gv:=vIv) (oi_SubI _ _) fun r6 _=>?_
 refine Run.u 400 E_ok mixed Tryz.func301 ?_
 refine Run.z [true] ?_
 refine Run.q (e:=vIv) (gv:=vIv) (oi_Integer _) fun r7 _=>?_
 refine Run.q (e:=vIv) (gv:=vIv) (oi_Integer _) fun r8 _=>?_
 refine Run.q (e:=vIv) (gv:=vIv) (oi_DivI _ _) fun r9 _=>?_
 refine Run.q (e:=vIv) (gv:=vIv) (oi_MulI _ _) fun r10 _=>?_
 refine Run.q (e:=vIv) (gv:=vIv) (oi_SubI _ _) fun r11 _=>?_
 refine Run.u 400 E_ok mixed Tryz.func301 ?_
 refine Run.z [true] ?_
 refine Run.q (e:=vIv) (gv:=vIv) (oi_Integer _) fun r12 _=>?_
 refine Run.q (e:=vIv) (gv:=vIv) (oi_Integer _) fun r13 _=>?_
 refine Run.q (e:=vIv) (gv:=vIv) (oi_DivI _ _) fun r14 _=>?_
 refine Run.q (e:=vIv) (gv:=vIv) (oi_MulI _ _) fun r15 _=>?_
 refine Run.q (e:=vIv) (gv:=vIv) (oi_SubI _ _) fun r16 _=>?_
 refine Run.u 400 E_ok mixed Tryz.func301 ?_
 refine Run.z [true] ?_
 refine Run.q (e:=vIv) (gv:=vIv) (oi_Integer _) fun r17 _=>?_
 refine Run.q (e:=vIv) (gv:=vIv) (oi_Integer _) fun r18 _=>?_
 refine Run.q (e:=vIv) (gv:=vIv) (oi_DivI _ _) fun r19 _=>?_
 refine Run.q (e:=vIv) (gv:=vIv) (oi_MulI _ _) fun r20 _=>?_
 refine Run.q (e:=vIv) (gv:=vIv) (oi_SubI _ _) fun r21 _=>?_
 refine Run.u 400 E_ok mixed Tryz.func301 ?_
 refine Run.z [true] ?_
 refine Run.q (e:=vIv) (gv:=vIv) (oi_Integer _) fun r22 _=>?_
 refine Run.q (e:=vIv) (gv:=vIv) (oi_Integer _) fun r23 _=>?_
 refine Run.q (e:=vIv) (gv:=vIv) (oi_DivI _ _) fun r24 _=>?_
 refine Run.q (e:=vIv) (gv:=vIv) (oi_MulI _ _) fun r25 _=>?_
 refine Run.q (e:=vIv) (gv:=vIv) (oi_SubI _ _) fun r26 _=>?_
 refine Run.u 400 E_ok mixed Tryz.func301 ?_
 refine Run.z [true] ?_
 refine Run.q (e:=vIv) (gv:=vIv) (oi_Integer _) fun r27 _=>?_
 refine Run.q (e:=vIv) (gv:=vIv) (oi_Integer _) fun r28 _=>?_
 refine Run.q (e:=vIv) (gv:=vIv) (oi_DivI _ _) fun r29 _=>?_
 refine Run.q (e:=vIv) (gv:=vIv) (oi_MulI _ _) fun r30 _=>?_
 refine Run.q (e:=vIv) (gv:=vIv) (oi_SubI _ _) fun r31 _=>?_
 refine Run.u 400 E_ok mixed Tryz.func301 ?_
 refine Run.z [true] ?_
 refine Run.q (e:=vIv) (gv:=vIv) (oi_Integer _) fun r32 _=>?_
 refine Run.q (e:=vIv) (gv:=vIv) (oi_Integer _) fun r33 _=>?_
 refine Run.q (e:=vIv) (gv:=vIv) (oi_DivI _ _) fun r34 _=>?_
 refine Run.q (e:=vIv) (gv:=vIv) (oi_MulI _ _) fun r35 _=>?_
 refine Run.q (e:=vIv) (gv:=vIv) (oi_SubI _ _) fun r36 _=>?_
 refine Run.u 400 E_ok mixed Tryz.func301 ?_
 refine Run.z [true] ?_
 refine Run.q (e:=vIv) (gv:=vIv) (oi_Integer _) fun r37 _=>?_
 refine Run.q (e:=vIv) (gv:=vIv) (oi_Integer _) fun r38 _=>?_
 refine Run.q (e:=vIv) (gv:=vIv) (oi_DivI _ _) fun r39 _=>?_
 refine Run.q (e:=vIv) (gv:=vIv) (oi_MulI _ _) fun r40 _=>?_
 refine Run.q (e:=vIv) (gv:=vIv) (oi_SubI _ _) fun r41 _=>?_
 refine Run.u 400 E_ok mixed Tryz.func301 ?_
 refine Run.z [false] ?_
 exact Run.x 0
theorem oi_tiny : Fun Tryz.prog 302 [] #[] (vIv (I_tiny)) []:=by
 refine Fun.ofH 400 E_ok mixed Tryz.func302 (by kernel_rfl) (by kernel_rfl) ?_
 unfold I_tiny
 exact Run.x 0
theorem oi_SinSeries (a0 : Iv) : Fun Tryz.prog 277 [] #[vIv a0] (vIv (I_SinSeries a0)) []:=by
 refine Fun.ofH 400 E_ok mixed Tryz.func277 (by kernel_rfl) (by kernel_rfl) ?_
 unfold I_SinSeries
 refine Run.q (e:=vIv) (gv:=vIv) (oi_ring) fun r1 _=>?_
 refine Run.q (e:=vB) (gv:=vIv) (oi_InsideI _ _) fun r2 _=>?_
 refine Run.y (gv:=vIv) (fun _=>?_) (fun _=>?_)
 ·refine Run.q (e:=vIv) (gv:=vIv) (oi_Whole) fun r3 _=>?_
  exact Run.x 0
 ·refine Run.q (e:=vIv) (gv:=vIv) (oi_SqrI _) fun r4 _=>?_
  refine Run.q (e:=vIv) (gv:=vIv) (oi_series _ _) fun r5 _=>?_
  refine Run.q (e:=vIv) (gv:=vIv) (oi_MulI _ _) fun r6 _=>?_
  refine Run.q (e:=vIv) (gv:=vIv) (oi_tiny) fun r7 _=>?_
  refine Run.q (e:=vIv) (gv:=vIv) (oi_AddI _ _) fun r8 _=>?_
  exact Run.x 0
theorem oi_MeetI (a0 : Iv) (a1 : Iv) : Fun Tryz.prog 122 [] #[vIv a0,vIv a1] (vT_Iv_B (I_MeetI a0 a1)) []:=by
 refine Fun.ofH 400 E_ok mixed Tryz.func122 (by kernel_rfl) (by kernel_rfl) ?_
 unfold I_MeetI
 refine Run.q (e:=vB) (gv:=vT_Iv_B) (oi_IsWhole _) fun r1 _=>?_
 refine Run.y (gv:=vT_Iv_B) (fun _=>?_) (fun _=>?_)
 ·refine Run.z [true] ?_
  refine Run.q (e:=vB) (gv:=vT_Iv_B) (oi_IsWhole _) fun r2 _=>?_
  refine Run.z [true] ?_
  refine Run.y (gv:=vT_Iv_B) (fun _=>?_) (fun _=>?_)
  ·refine Run.q (e:=vIv) (gv:=vT_Iv_B) (oi_Whole) fun r3 _=>?_
   exact Run.x 0
  ·refine Run.q (e:=vB) (gv:=vT_Iv_B) (oi_IsWhole _) fun r4 _=>?_
   refine Run.y (gv:=vT_Iv_B) (fun _=>?_) (fun _=>?_)
   ·exact Run.x 0
   ·refine Run.q (e:=vB) (gv:=vT_Iv_B) (oi_IsWhole _) fun r5 _=>?_
    refine Run.y (gv:=vT_Iv_B) (fun _=>?_) (fun _=>?_)
    ·exact Run.x 0
    ·refine Run.y (gv:=vT_Iv_B) (fun _=>?_) (fun _=>?_)
     ·exact Run.x 0
     ·exact Run.x 0
 ·refine Run.z [false,false,false] ?_
  refine Run.q (e:=vB) (gv:=vT_Iv_B) (oi_IsWhole _) fun r6 _=>?_
  refine Run.y (gv:=vT_Iv_B) (fun _=>?_) (fun _=>?_)
  ·exact Run.x 0
  ·refine Run.q (e:=vB) (gv:=vT_Iv_B) (oi_IsWhole _) fun r7 _=>?_
   refine Run.y (gv:=vT_Iv_B) (fun _=>?_) (fun _=>?_)
   ·exact Run.x 0
   ·refine Run.y (gv:=vT_Iv_B) (fun _=>?_) (fun _=>?_)
    ·exact Run.x 0
    ·exact Run.x 0
theorem oi_inRing (a0 : Iv) : Fun Tryz.prog 276 [] #[vIv a0] (vIv (I_inRing a0)) []:=by
 refine Fun.ofH 400 E_ok mixed Tryz.func276 (by kernel_rfl) (by kernel_rfl) ?_
 unfold I_inRing
 refine Run.q (e:=vIv) (gv:=vIv) (oi_ring) fun r1 _=>?_
 refine Run.q (e:=vT_Iv_B) (gv:=vIv) (oi_MeetI _ _) fun r2 _=>?_
 exact Run.x 0
theorem oi_CosSeries (a0 : Iv) : Fun Tryz.prog 278 [] #[vIv a0] (vIv (I_CosSeries a0)) []:=by
 refine Fun.ofH 400 E_ok mixed Tryz.func278 (by kernel_rfl) (by kernel_rfl) ?_
 unfold I_CosSeries
 refine Run.q (e:=vIv) (gv:=vIv) (oi_ring) fun r1 _=>?_
 refine Run.q (e:=vB) (gv:=vIv) (oi_InsideI _ _) fun r2 _=>?_
 refine Run.y (gv:=vIv) (fun _=>?_) (fun _=>?_)
 ·refine Run.q (e:=vIv) (gv:=vIv) (oi_Whole) fun r3 _=>?_
  exact Run.x 0
 ·refine Run.q (e:=vIv) (gv:=vIv) (oi_SqrI _) fun r4 _=>?_
  refine Run.q (e:=vIv) (gv:=vIv) (oi_series _ _) fun r5 _=>?_
  refine Run.q (e:=vIv) (gv:=vIv) (oi_tiny) fun r6 _=>?_
  refine Run.q (e:=vIv) (gv:=vIv) (oi_AddI _ _) fun r7 _=>?_
  exact Run.x 0
theorem oi_circleValue (a0 : I64) (a1 : I64) : Fun Tryz.prog 233 [] #[vI a0,vI a1] (vIv (I_circleValue a0 a1)) []:=by
 refine Fun.ofH 400 E_ok mixed Tryz.func233 (by kernel_rfl) (by kernel_rfl) ?_
 unfold I_circleValue
 refine Run.q (e:=vB) (gv:=vIv) (oi_isAngle _) fun r1 _=>?_
 refine Run.y (gv:=vIv) (fun _=>?_) (fun _=>?_)
 ·refine Run.q (e:=vIv) (gv:=vIv) (oi_ring) fun r2 _=>?_
  exact Run.x 0
 ·refine Run.q (e:=vI) (gv:=vIv) (oi_QuarterOf _) fun r3 _=>?_
  refine Run.q (e:=vIv) (gv:=vIv) (oi_at _) fun r4 _=>?_
  refine Run.q (e:=vIv) (gv:=vIv) (oi_TurnI _) fun r5 _=>?_
  refine Run.q (e:=vIv) (gv:=vIv) (oi_SubI _ _) fun r6 _=>?_
  refine Run.y (gv:=vIv) (fun _=>?_) (fun _=>?_)
  ·refine Run.q (e:=vIv) (gv:=vIv) (oi_SinSeries _) fun r7 _=>?_
   refine Run.q (e:=vIv) (gv:=vIv) (oi_inRing _) fun r8 _=>?_
   exact Run.x 0
  ·refine Run.y (gv:=vIv) (fun _=>?_) (fun _=>?_)
   ·refine Run.q (e:=vIv) (gv:=vIv) (oi_CosSeries _) fun r9 _=>?_
    refine Run.q (e:=vIv) (gv:=vIv) (oi_inRing _) fun r10 _=>?_
    exact Run.x 0
   ·refine Run.y (gv:=vIv) (fun _=>?_) (fun _=>?_)
    ·refine Run.q (e:=vIv) (gv:=vIv) (oi_SinSeries _) fun r11 _=>?_
     refine Run.q (e:=vIv) (gv:=vIv) (oi_NegI _) fun r12 _=>?_
     refine Run.q (e:=vIv) (gv:=vIv) (oi_inRing _) fun r13 _=>?_
     exact Run.x 0
    ·refine Run.q (e:=vIv) (gv:=vIv) (oi_CosSeries _) fun r14 _=>?_
     refine Run.q (e:=vIv) (gv:=vIv) (oi_NegI _) fun r15 _=>?_
     refine Run.q (e:=vIv) (gv:=vIv) (oi_inRing _) fun r16 _=>?_
     exact Run.x 0
theorem oi_HullI (a0 : Iv) (a1 : Iv) : Fun Tryz.prog 124 [] #[vIv a0,vIv a1] (vIv (I_HullI a0 a1)) []:=by
 refine Fun.ofH 400 E_ok mixed Tryz.func124 (by kernel_rfl) (by kernel_rfl) ?_
 unfold I_HullI
 refine Run.q (e:=vB) (gv:=vIv) (oi_areBounded _ _) fun r1 _=>?_
 refine Run.y (gv:=vIv) (fun _=>?_) (fun _=>?_)
 ·refine Run.q (e:=vIv) (gv:=vIv) (oi_Whole) fun r2 _=>?_
  exact Run.x 0
 ·exact Run.x 0
theorem oi_OverlapI (a0 : Iv) (a1 : Iv) : Fun Tryz.prog 279 [] #[vIv a0,vIv a1] (vB (I_OverlapI a0 a1)) []:=by
 refine Fun.ofH 400 E_ok mixed Tryz.func279 (by kernel_rfl) (by kernel_rfl) ?_
 unfold I_OverlapI
 refine Run.q (e:=vT_Iv_B) (gv:=vB) (oi_MeetI _ _) fun r1 _=>?_
 exact Run.x 0
theorem len_impl_turnsIn_L0 (a0 : Iv) : ∀ (fu : Nat) (x_k : I64) (acc : List I64),(I_turnsIn_L0 fu a0 x_k acc).length ≤ acc.length + fu:=by
 intro fu
 induction fu with
 | zero=>intro x_k acc; exact Nat.le_refl _
 | succ fu ih=>
  intro x_k acc
  unfold I_turnsIn_L0
  simp only [bindP]
  have h1:=ih (w64 (x_k.val + 1)) (acc ++ [x_k])
  have h2:=ih (w64 (x_k.val + 1)) acc
  rw [List.length_append] at h1
  simp only [List.length_cons,List.length_nil] at h1
  cases decide (x_k.val ≤ (w64 ((I_QuarterOf a0.hi).val + 1)).val)
  ·rw [cond_false]; omega
  ·rw [cond_true]
   cases I_OverlapI (I_TurnI x_k) a0
   ·rw [cond_false]; omega
   ·rw [cond_true]; omega
theorem len_impl_turnsIn (a0 : Iv) : (I_turnsIn a0).length ≤ 4000:=by
 have qb:=impl_quarter_bounds a0.lo
 unfold I_turnsIn
 simp only [bindP]
 have:=len_impl_turnsIn_L0 a0 ((2000 - (w64 ((I_QuarterOf a0.lo).val - 1)).val).toNat + 1) (w64 ((I_QuarterOf a0.lo).val - 1)) []
 have e1 : (w64 ((I_QuarterOf a0.lo).val - 1)).val = (I_QuarterOf a0.lo).val - 1:=by rw [w64_val]; omega
 simp only [List.length_nil,Nat.zero_add] at this
 refine Nat.le_trans this ?_
 omega
theorem oi_turnsIn_L0 (a0 : Iv) : ∀ (fu : Nat) (x_k : I64) (acc : List I64) (v : Value) (X : List Blk) (hv : LS 2 acc v ((#[.int .i64 a0.lo.val,.int .i64 a0.hi.val],31) :: X)) (hm : (2000 - x_k.val).toNat < fu) (hk : -1100 ≤ x_k.val) (hlen : (acc.length : Int) ≤ x_k.val + 1100)
  (t : Array Value) (ht : maskA t [0,2,5,6,7,8,9,10,11,12,13,14,15,16,17,18,19,20,21,22,23,24,25] = #[undef,.pointer (some ⟨0,0,none⟩),undef,v,.int .i64 x_k.val,undef,undef,undef,undef,undef,undef,undef,undef,undef,undef,undef,undef,undef,undef,undef,undef,undef,undef,undef,undef,undef]),
  Cfg Tryz.prog 234 (loopAt Tryz.f234 0) t ((#[.int .i64 a0.lo.val,.int .i64 a0.hi.val],31) :: X) (LS 2 (I_turnsIn_L0 fu a0 x_k acc)):=by
 intro fu
 induction fu with
 | zero=>intro x_k acc v X hv hm; exact absurd hm (Nat.not_lt_zero _)
 | succ fu ih=>
  intro x_k acc v X hv hm hk hlen t ht
  refine Cfg.round E_ok mixed Tryz.func234 ht fun q=>?_
  unfold I_turnsIn_L0
  have qb:=impl_quarter_bounds a0.hi
  refine Run.c (by kernel_rfl) (by kernel_rfl) (oi_QuarterOf a0.hi) rfl ?_
  simp only [bindP]
  generalize I_QuarterOf a0.hi = r1 at *
  refine Run.i (c:=decide (x_k.val ≤ (w64 (r1.val + 1)).val)) (by kernel_rfl) (fun h1=>?_) (fun h1=>?_)
  ·rw [h1,cond_true]
   simp only [w64_val,decide_eq_true_eq] at h1
   refine Run.c (by kernel_rfl) (by kernel_rfl) (oi_TurnI x_k) rfl ?_
   generalize I_TurnI x_k = r2
   refine Run.c (by kernel_rfl) (by kernel_rfl) (oi_OverlapI r2 a0) rfl ?_
   generalize I_OverlapI r2 a0 = r3
   have e1 : (w64 (x_k.val + 1)).val = x_k.val + 1:=by rw [w64_val]; omega
   refine Run.i (c:=r3) (by kernel_rfl) (fun h2=>?_) (fun h2=>?_)
   ·rw [h2,cond_true]
    refine Run.h (td:=appAt Tryz.f234 0) (H:=(#[.int .i64 a0.lo.val,.int .i64 a0.hi.val],31) :: X) (by kernel_rfl) (by kernel_rfl) rfl (by kernel_rfl) ?_
    refine Cfg.app (T:=66) (e:=2) (d1:=21) (d2:=22) (d3:=23) (d4:=24) (s:=3) (x:=4) (L:=acc) (v:=v) (z:=x_k) (by kernel_rfl) (by kernel_rfl) (by kernel_rfl) (by kernel_rfl) (by decide) (by kernel_rfl) (by kernel_rfl) (by kernel_rfl) hv (by omega) fun v4 H4 hv4 hs4=>?_
    obtain ⟨X4,rfl⟩:=head_same hs4 (show (31 : Nat) ≠ 2 by decide)
    refine exec_cfg E_ok mixed Tryz.func234 400 _ _ _ _ ?_
    exact Run.l (by kernel_rfl) (by kernel_rfl) (by kernel_rfl) (by kernel_rfl) (ih (w64 (x_k.val + 1)) (acc ++ [x_k]) v4 X4 hv4 (by omega) (by omega) (by rw [List.length_append]; simp only [List.length_cons,List.length_nil]; omega))
   ·rw [h2,cond_false]
    exact Run.l (by kernel_rfl) (by kernel_rfl) (by kernel_rfl) (by kernel_rfl) (ih (w64 (x_k.val + 1)) acc v X hv (by omega) (by omega) (by omega))
  ·rw [h1,cond_false]
   exact Run.rl (v:=v) (by kernel_rfl) (by kernel_rfl) hv
theorem oi_turnsIn (a0 : Iv) : FunR Tryz.prog 234 [] #[vIv a0] (Lone 2 (I_turnsIn a0)):=by
 refine FunR.lone (FunR.of 400 E_ok mixed Tryz.func234 (by kernel_rfl) ?_)
 unfold I_turnsIn
 have qb:=impl_quarter_bounds a0.lo
 refine Run.c (by kernel_rfl) (by kernel_rfl) (oi_QuarterOf a0.lo) rfl ?_
 simp only [bindP]
 generalize I_QuarterOf a0.lo = r1 at *
 have e1 : (w64 (r1.val - 1)).val = r1.val - 1:=by rw [w64_val]; omega
 exact Run.l (by kernel_rfl) (by kernel_rfl) (by kernel_rfl) (by kernel_rfl) (oi_turnsIn_L0 a0 _ (w64 (r1.val - 1)) [] (.slice none 0 0) [] (.inl ⟨rfl,rfl⟩) (by omega) (by omega) (by simp only [List.length_nil]; omega))
end Go.Proofs.YtfhnlkinjbakgaaGreat.Abs
