/- The program's functions are these; part 3 (written by w.py). -/
import Derived.Test.YtfhnlkinjbakgaaGreatDoorShfE
import Derived.Test.YtfhnlkinjbakgaaGreatDoorShfFa
import Derived.Test.YtfhnlkinjbakgaaGreatDoorShfShM
import Derived.Test.YtfhnlkinjbakgaaGreatDoorShfQpre
import Derived.Test.YtfhnlkinjbakgaaGreatDoorShfK0
set_option linter.unusedVariables false
set_option linter.unusedSimpArgs false
namespace Go.Proofs.YtfhnlkinjbakgaaGreatDoor.Abs
open Go Go.RowKit
theorem oi_within (a0 : I64) (a1 : I64) (a2 : I64) : Fun Tryz.prog 92 [] #[vI a0,vI a1,vI a2] (vB (I_within a0 a1 a2)) []:=by
 refine Fun.ofH 400 E_ok mixed Tryz.func92 (by kernel_rfl) (by kernel_rfl) ?_
 unfold I_within
 refine Run.y (gv:=vB) (fun _=>?_) (fun _=>?_)
 ·refine Run.z [true,true,true] ?_
  exact Run.x 0
 ·refine Run.z [false,false,false] ?_
  exact Run.x 0
theorem oi_areWithin__s3 (b0_0 : I64) (b0_1 : I64) (b0_2 : I64) (a0 : I64) : Fun Tryz.prog 54 [(#[.int .i64 b0_0.val,.int .i64 b0_1.val,.int .i64 b0_2.val],2)] #[vI a0,.slice (some ⟨0,0,none⟩) 3 3] (vB (I_areWithin__s3 b0_0 b0_1 b0_2 a0)) [(#[.int .i64 b0_0.val,.int .i64 b0_1.val,.int .i64 b0_2.val],2)]:=by
 refine Fun.ofH 400 E_ok mixed Tryz.func54 (by kernel_rfl) (by kernel_rfl) ?_
 unfold I_areWithin__s3
 refine Run.u 400 E_ok mixed Tryz.func54 ?_
 refine Run.z [true,true] ?_
 refine Run.q (e:=vB) (gv:=vB) (oi_within _ _ _) fun r1 _=>?_
 refine Run.y (gv:=vB) (fun _=>?_) (fun _=>?_)
 ·exact Run.x 1
 ·refine Run.u 400 E_ok mixed Tryz.func54 ?_
  refine Run.z [true,true] ?_
  refine Run.q (e:=vB) (gv:=vB) (oi_within _ _ _) fun r2 _=>?_
  refine Run.y (gv:=vB) (fun _=>?_) (fun _=>?_)
  ·exact Run.x 1
  ·refine Run.u 400 E_ok mixed Tryz.func54 ?_
   refine Run.z [true,true] ?_
   refine Run.q (e:=vB) (gv:=vB) (oi_within _ _ _) fun r3 _=>?_
   refine Run.y (gv:=vB) (fun _=>?_) (fun _=>?_)
   ·exact Run.x 1
   ·refine Run.u 400 E_ok mixed Tryz.func54 ?_
    refine Run.z [false] ?_
    exact Run.x 1
theorem oi_areWithin__s1 (b0 : I64) (a0 : I64) : Fun Tryz.prog 54 [(#[.int .i64 b0.val],2)] #[vI a0,.slice (some ⟨0,0,none⟩) 1 1] (vB (I_areWithin__s1 b0 a0)) [(#[.int .i64 b0.val],2)]:=by
 refine Fun.ofH 400 E_ok mixed Tryz.func54 (by kernel_rfl) (by kernel_rfl) ?_
 unfold I_areWithin__s1
 refine Run.u 400 E_ok mixed Tryz.func54 ?_
 refine Run.z [true,true] ?_
 refine Run.q (e:=vB) (gv:=vB) (oi_within _ _ _) fun r1 _=>?_
 refine Run.y (gv:=vB) (fun _=>?_) (fun _=>?_)
 ·exact Run.x 1
 ·refine Run.u 400 E_ok mixed Tryz.func54 ?_
  refine Run.z [false] ?_
  exact Run.x 1
theorem oi_ValidShift (a0 : Sf) : Fun Tryz.prog 26 [] #[vSf a0] (vB (I_ValidShift a0)) []:=by
 refine Fun.ofH 400 E_ok mixed Tryz.func26 (by kernel_rfl) (by kernel_rfl) ?_
 unfold I_ValidShift
 refine Run.w (e:=vB) (gv:=vB) [1] (oi_areWithin__s3 _ _ _ _) fun r1 _=>?_
 refine Run.y (gv:=vB) (fun _=>?_) (fun _=>?_)
 ·refine Run.z [true,true,true,true,true,true,true] ?_
  refine Run.w (e:=vB) (gv:=vB) [2] (oi_areWithin__s3 _ _ _ _) fun r2 _=>?_
  refine Run.z [true] ?_
  refine Run.y (gv:=vB) (fun _=>?_) (fun _=>?_)
  ·refine Run.z [true,true,true] ?_
   refine Run.w (e:=vB) (gv:=vB) [3] (oi_areWithin__s1 _ _) fun r3 _=>?_
   refine Run.z [true] ?_
   exact Run.x 0
  ·refine Run.z [false,false,false,false] ?_
   exact Run.x 0
 ·refine Run.z [false,false,false,false,false,false,false,false,false,false,false,false,false] ?_
  exact Run.x 0
theorem oi_Whole : Fun Tryz.prog 67 [] #[] (vIv (I_Whole)) []:=by
 refine Fun.ofH 400 E_ok mixed Tryz.func67 (by kernel_rfl) (by kernel_rfl) ?_
 unfold I_Whole
 exact Run.x 0
theorem oi_ValidInterval (a0 : Iv) : Fun Tryz.prog 103 [] #[vIv a0] (vB (I_ValidInterval a0)) []:=by
 refine Fun.ofH 400 E_ok mixed Tryz.func103 (by kernel_rfl) (by kernel_rfl) ?_
 unfold I_ValidInterval
 refine Run.y (gv:=vB) (fun _=>?_) (fun _=>?_)
 ·refine Run.z [true,true,true,true,true] ?_
  refine Run.y (gv:=vB) (fun _=>?_) (fun _=>?_)
  ·refine Run.z [true,true,true] ?_
   exact Run.x 0
  ·refine Run.z [false,false,false] ?_
   exact Run.x 0
 ·refine Run.z [false,false,false,false,false,false,false,false,false] ?_
  exact Run.x 0
theorem oi_bounded (a0 : I64) (a1 : I64) (a2 : Bool) : Fun Tryz.prog 94 [] #[vI a0,vI a1,vB a2] (vIv (I_bounded a0 a1 a2)) []:=by
 refine Fun.ofH 400 E_ok mixed Tryz.func94 (by kernel_rfl) (by kernel_rfl) ?_
 unfold I_bounded
 refine Run.y (gv:=vIv) (fun _=>?_) (fun _=>?_)
 ·refine Run.z [true] ?_
  refine Run.q (e:=vB) (gv:=vIv) (oi_ValidInterval _) fun r1 _=>?_
  refine Run.z [true] ?_
  refine Run.y (gv:=vIv) (fun _=>?_) (fun _=>?_)
  ·exact Run.x 0
  ·refine Run.q (e:=vIv) (gv:=vIv) (oi_Whole) fun r2 _=>?_
   exact Run.x 0
 ·refine Run.z [false,false,false] ?_
  refine Run.q (e:=vIv) (gv:=vIv) (oi_Whole) fun r3 _=>?_
  exact Run.x 0
theorem oi_Integer (a0 : I64) : Fun Tryz.prog 56 [] #[vI a0] (vIv (I_Integer a0)) []:=by
 refine Fun.ofH 400 E_ok mixed Tryz.func56 (by kernel_rfl) (by kernel_rfl) ?_
 unfold I_Integer
 refine Run.q (e:=vB) (gv:=vIv) (oi_within _ _ _) fun r1 _=>?_
 refine Run.y (gv:=vIv) (fun _=>?_) (fun _=>?_)
 ·refine Run.q (e:=vIv) (gv:=vIv) (oi_Whole) fun r2 _=>?_
  exact Run.x 0
 ·refine Run.q (e:=vIv) (gv:=vIv) (oi_bounded _ _ _) fun r3 _=>?_
  exact Run.x 0
theorem oi_WideMul (a0 : I64) (a1 : I64) : Fun Tryz.prog 169 [] #[vI a0,vI a1] (vWd (I_WideMul a0 a1)) []:=by
 refine Fun.ofH 400 E_ok mixed Tryz.func169 (by kernel_rfl) (by kernel_rfl) ?_
 unfold I_WideMul
 refine Run.q (e:=vT_U_U) (gv:=vWd) (ok_bits_Mul64 _ _) fun r1 _=>?_
 refine Run.y (gv:=vWd) (fun _=>?_) (fun _=>?_)
 ·refine Run.y (gv:=vWd) (fun _=>?_) (fun _=>?_)
  ·exact Run.x 0
  ·exact Run.x 0
 ·refine Run.y (gv:=vWd) (fun _=>?_) (fun _=>?_)
  ·exact Run.x 0
  ·exact Run.x 0
theorem oi_divided (a0 : U64) (a1 : U64) (a2 : U64) (p0 : a2.val ≠ 0) : Fun Tryz.prog 192 [] #[vU a0,vU a1,vU a2] (vT_U_U_U (I_divided a0 a1 a2)) []:=by
 refine Fun.ofH 400 E_ok mixed Tryz.func192 (by kernel_rfl) (by kernel_rfl) ?_
 unfold I_divided
 refine Run.k (c:=(decide (a2.val ≠ 0))) (by kernel_rfl) (by first | exact decide_eq_true p0 | exact imod_lt _ _ p0) ?_
 refine Run.k (c:=(decide (a2.val ≠ 0))) (by kernel_rfl) (by first | exact decide_eq_true p0 | exact imod_lt _ _ p0) ?_
 refine Run.q (e:=vT_U_U) (gv:=vT_U_U_U) (ok_bits_Div64 _ _ _ (by first | exact decide_eq_true p0 | exact imod_lt _ _ p0)) fun r1 hr1=>?_
 exact Run.x 0
theorem oi_Wide_negative (a0 : Wd) : Fun Tryz.prog 193 [] #[vWd a0] (vWd (I_Wide_negative a0)) []:=by
 refine Fun.ofH 400 E_ok mixed Tryz.func193 (by kernel_rfl) (by kernel_rfl) ?_
 unfold I_Wide_negative
 refine Run.k (c:=(decide (0 ≤ (0 : Int)) && (decide (0 ≤ (a0.lo.val : Int)) && (decide ((a0.lo.val : Int) ≤ 18446744073709551615) && (decide (0 ≤ (0 : Int)) && decide ((0 : Int) ≤ 1)))))) (by kernel_rfl) (by simp only [Bool.and_eq_true,decide_eq_true_eq]; exact ⟨U64.lo (cu64 0),U64.lo a0.lo,U64.hi a0.lo,U64.lo (cu64 0),(by decide)⟩) ?_
 refine Run.k (c:=(decide (0 ≤ (0 : Int)) && (decide (0 ≤ ((wu64 a0.hi.val).val : Int)) && (decide (((wu64 a0.hi.val).val : Int) ≤ 18446744073709551615) && (decide (0 ≤ ((sbb_hi (cu64 0) a0.lo (cu64 0)).val : Int)) && decide (((sbb_hi (cu64 0) a0.lo (cu64 0)).val : Int) ≤ 1)))))) (by kernel_rfl) (by simp only [Bool.and_eq_true,decide_eq_true_eq]; exact ⟨U64.lo (cu64 0),U64.lo (wu64 a0.hi.val),U64.hi (wu64 a0.hi.val),U64.lo (sbb_hi (cu64 0) a0.lo (cu64 0)),(sbb_hi_le _ _ _)⟩) ?_
 exact Run.x 0
theorem oi_WideDiv (a0 : Wd) (a1 : I64) : Fun Tryz.prog 168 [] #[vWd a0,vI a1] (vT_Wd_I_B (I_WideDiv a0 a1)) []:=by
 refine Fun.ofH 400 E_ok mixed Tryz.func168 (by kernel_rfl) (by kernel_rfl) ?_
 unfold I_WideDiv
 refine Run.y (gv:=vT_Wd_I_B) (fun h1=>?_) (fun h1=>?_)
 ·exact Run.x 0
 ·refine Run.y (gv:=vT_Wd_I_B) (fun h2=>?_) (fun h2=>?_)
  ·refine Run.q (e:=vT_U_U_U) (gv:=vT_Wd_I_B) (oi_divided _ _ _ (by have q:=a1.hi; simp only [wu64_val,decide_eq_true_eq,decide_eq_false_iff_not] at *; omega)) fun r3 hr3=>?_
   exact Run.x 0
  ·refine Run.q (e:=vWd) (gv:=vT_Wd_I_B) (oi_Wide_negative _) fun r4 hr4=>?_
   refine Run.q (e:=vT_U_U_U) (gv:=vT_Wd_I_B) (oi_divided _ _ _ (by have q:=a1.hi; simp only [wu64_val,decide_eq_true_eq,decide_eq_false_iff_not] at *; omega)) fun r5 hr5=>?_
   refine Run.y (gv:=vT_Wd_I_B) (fun h6=>?_) (fun h6=>?_)
   ·refine Run.q (e:=vWd) (gv:=vT_Wd_I_B) (oi_Wide_negative _) fun r7 hr7=>?_
    exact Run.x 0
   ·refine Run.k (c:=(decide (0 ≤ (r5.2.1.val : Int)) && (decide (0 ≤ (1 : Int)) && (decide (0 ≤ (0 : Int)) && decide ((0 : Int) ≤ 1))))) (by kernel_rfl) (by simp only [Bool.and_eq_true,decide_eq_true_eq]; exact ⟨U64.lo r5.2.1,U64.lo (cu64 1),U64.lo (cu64 0),(by decide)⟩) ?_
    refine Run.q (e:=vWd) (gv:=vT_Wd_I_B) (oi_Wide_negative _) fun r8 hr8=>?_
    exact Run.x 0
theorem oi_WideOf (a0 : I64) : Fun Tryz.prog 196 [] #[vI a0] (vWd (I_WideOf a0)) []:=by
 refine Fun.ofH 400 E_ok mixed Tryz.func196 (by kernel_rfl) (by kernel_rfl) ?_
 unfold I_WideOf
 refine Run.z [true] ?_
 exact Run.x 0
theorem oi_WideInt (a0 : Wd) : Fun Tryz.prog 170 [] #[vWd a0] (vT_I_B (I_WideInt a0)) []:=by
 refine Fun.ofH 400 E_ok mixed Tryz.func170 (by kernel_rfl) (by kernel_rfl) ?_
 unfold I_WideInt
 refine Run.q (e:=vWd) (gv:=vT_I_B) (oi_WideOf _) fun r1 _=>?_
 refine Run.y (gv:=vT_I_B) (fun _=>?_) (fun _=>?_)
 ·exact Run.x 0
 ·exact Run.x 0
theorem oi_MulDivFloor (a0 : I64) (a1 : I64) (a2 : I64) : Fun Tryz.prog 131 [] #[vI a0,vI a1,vI a2] (vT_I_B (I_MulDivFloor a0 a1 a2)) []:=by
 refine Fun.ofH 400 E_ok mixed Tryz.func131 (by kernel_rfl) (by kernel_rfl) ?_
 unfold I_MulDivFloor
 refine Run.q (e:=vWd) (gv:=vT_I_B) (oi_WideMul _ _) fun r1 _=>?_
 refine Run.q (e:=vT_Wd_I_B) (gv:=vT_I_B) (oi_WideDiv _ _) fun r2 _=>?_
 refine Run.y (gv:=vT_I_B) (fun _=>?_) (fun _=>?_)
 ·exact Run.x 0
 ·refine Run.q (e:=vT_I_B) (gv:=vT_I_B) (oi_WideInt _) fun r3 _=>?_
  exact Run.x 0
theorem oi_ValidFix (a0 : I64) : Fun Tryz.prog 133 [] #[vI a0] (vB (I_ValidFix a0)) []:=by
 refine Fun.ofH 400 E_ok mixed Tryz.func133 (by kernel_rfl) (by kernel_rfl) ?_
 unfold I_ValidFix
 refine Run.q (e:=vB) (gv:=vB) (oi_within _ _ _) fun r1 _=>?_
 exact Run.x 0
theorem oi_fixed (a0 : I64) (a1 : Bool) : Fun Tryz.prog 130 [] #[vI a0,vB a1] (vT_I_B (I_fixed a0 a1)) []:=by
 refine Fun.ofH 400 E_ok mixed Tryz.func130 (by kernel_rfl) (by kernel_rfl) ?_
 unfold I_fixed
 refine Run.y (gv:=vT_I_B) (fun _=>?_) (fun _=>?_)
 ·refine Run.z [true,true,true,true] ?_
  exact Run.x 0
 ·refine Run.z [false] ?_
  refine Run.q (e:=vB) (gv:=vT_I_B) (oi_ValidFix _) fun r1 _=>?_
  refine Run.z [false,false] ?_
  refine Run.y (gv:=vT_I_B) (fun _=>?_) (fun _=>?_)
  ·exact Run.x 0
  ·exact Run.x 0
theorem oi_FixFloor (a0 : I64) (a1 : I64) : Fun Tryz.prog 95 [] #[vI a0,vI a1] (vT_I_B (I_FixFloor a0 a1)) []:=by
 refine Fun.ofH 400 E_ok mixed Tryz.func95 (by kernel_rfl) (by kernel_rfl) ?_
 unfold I_FixFloor
 refine Run.q (e:=vT_I_B) (gv:=vT_I_B) (oi_MulDivFloor _ _ _) fun r1 _=>?_
 refine Run.q (e:=vT_I_B) (gv:=vT_I_B) (oi_fixed _ _) fun r2 _=>?_
 exact Run.x 0
theorem oi_mulDivCeil (a0 : I64) (a1 : I64) (a2 : I64) : Fun Tryz.prog 132 [] #[vI a0,vI a1,vI a2] (vT_I_B (I_mulDivCeil a0 a1 a2)) []:=by
 refine Fun.ofH 400 E_ok mixed Tryz.func132 (by kernel_rfl) (by kernel_rfl) ?_
 unfold I_mulDivCeil
 refine Run.q (e:=vWd) (gv:=vT_I_B) (oi_WideMul _ _) fun r1 _=>?_
 refine Run.q (e:=vT_Wd_I_B) (gv:=vT_I_B) (oi_WideDiv _ _) fun r2 _=>?_
 refine Run.y (gv:=vT_I_B) (fun _=>?_) (fun _=>?_)
 ·exact Run.x 0
 ·refine Run.q (e:=vT_I_B) (gv:=vT_I_B) (oi_WideInt _) fun r3 _=>?_
  refine Run.y (gv:=vT_I_B) (fun _=>?_) (fun _=>?_)
  ·refine Run.z [true,true,true,true,true] ?_
   exact Run.x 0
  ·refine Run.z [false,false] ?_
   refine Run.y (gv:=vT_I_B) (fun _=>?_) (fun _=>?_)
   ·refine Run.z [true,false,true,false] ?_
    refine Run.y (gv:=vT_I_B) (fun _=>?_) (fun _=>?_)
    ·exact Run.x 0
    ·refine Run.y (gv:=vT_I_B) (fun _=>?_) (fun _=>?_)
     ·exact Run.x 0
     ·exact Run.x 0
   ·refine Run.z [false,false,false,false,false] ?_
    refine Run.y (gv:=vT_I_B) (fun _=>?_) (fun _=>?_)
    ·exact Run.x 0
    ·exact Run.x 0
theorem oi_FixCeil (a0 : I64) (a1 : I64) : Fun Tryz.prog 96 [] #[vI a0,vI a1] (vT_I_B (I_FixCeil a0 a1)) []:=by
 refine Fun.ofH 400 E_ok mixed Tryz.func96 (by kernel_rfl) (by kernel_rfl) ?_
 unfold I_FixCeil
 refine Run.q (e:=vT_I_B) (gv:=vT_I_B) (oi_mulDivCeil _ _ _) fun r1 _=>?_
 refine Run.q (e:=vT_I_B) (gv:=vT_I_B) (oi_fixed _ _) fun r2 _=>?_
 exact Run.x 0
theorem oi_Quotient (a0 : I64) (a1 : I64) : Fun Tryz.prog 57 [] #[vI a0,vI a1] (vIv (I_Quotient a0 a1)) []:=by
 refine Fun.ofH 400 E_ok mixed Tryz.func57 (by kernel_rfl) (by kernel_rfl) ?_
 unfold I_Quotient
 refine Run.y (gv:=vIv) (fun _=>?_) (fun _=>?_)
 ·refine Run.y (gv:=vIv) (fun _=>?_) (fun _=>?_)
  ·refine Run.z [true,true,true] ?_
   refine Run.q (e:=vIv) (gv:=vIv) (oi_Whole) fun r1 _=>?_
   exact Run.x 0
  ·refine Run.z [false,false] ?_
   refine Run.y (gv:=vIv) (fun _=>?_) (fun _=>?_)
   ·refine Run.q (e:=vIv) (gv:=vIv) (oi_Whole) fun r2 _=>?_
    exact Run.x 0
   ·refine Run.q (e:=vT_I_B) (gv:=vIv) (oi_FixFloor _ _) fun r3 _=>?_
    refine Run.q (e:=vT_I_B) (gv:=vIv) (oi_FixCeil _ _) fun r4 _=>?_
    refine Run.y (gv:=vIv) (fun _=>?_) (fun _=>?_)
    ·refine Run.z [true] ?_
     refine Run.q (e:=vIv) (gv:=vIv) (oi_bounded _ _ _) fun r5 _=>?_
     exact Run.x 0
    ·refine Run.z [false] ?_
     refine Run.q (e:=vIv) (gv:=vIv) (oi_bounded _ _ _) fun r6 _=>?_
     exact Run.x 0
 ·refine Run.q (e:=vT_I_B) (gv:=vIv) (oi_FixFloor _ _) fun r7 _=>?_
  refine Run.q (e:=vT_I_B) (gv:=vIv) (oi_FixCeil _ _) fun r8 _=>?_
  refine Run.y (gv:=vIv) (fun _=>?_) (fun _=>?_)
  ·refine Run.z [true] ?_
   refine Run.q (e:=vIv) (gv:=vIv) (oi_bounded _ _ _) fun r9 _=>?_
   exact Run.x 0
  ·refine Run.z [false] ?_
   refine Run.q (e:=vIv) (gv:=vIv) (oi_bounded _ _ _) fun r10 _=>?_
   exact Run.x 0
theorem oi_areBounded (a0 : Iv) (a1 : Iv) : Fun Tryz.prog 93 [] #[vIv a0,vIv a1] (vB (I_areBounded a0 a1)) []:=by
 refine Fun.ofH 400 E_ok mixed Tryz.func93 (by kernel_rfl) (by kernel_rfl) ?_
 unfold I_areBounded
 refine Run.q (e:=vB) (gv:=vB) (oi_ValidInterval _) fun r1 _=>?_
 refine Run.y (gv:=vB) (fun _=>?_) (fun _=>?_)
 ·refine Run.z [true] ?_
  refine Run.q (e:=vB) (gv:=vB) (oi_ValidInterval _) fun r2 _=>?_
  refine Run.z [true] ?_
  exact Run.x 0
 ·refine Run.z [false,false] ?_
  exact Run.x 0
theorem oi_AddI (a0 : Iv) (a1 : Iv) : Fun Tryz.prog 55 [] #[vIv a0,vIv a1] (vIv (I_AddI a0 a1)) []:=by
 refine Fun.ofH 400 E_ok mixed Tryz.func55 (by kernel_rfl) (by kernel_rfl) ?_
 unfold I_AddI
 refine Run.q (e:=vB) (gv:=vIv) (oi_areBounded _ _) fun r1 _=>?_
 refine Run.y (gv:=vIv) (fun _=>?_) (fun _=>?_)
 ·refine Run.q (e:=vIv) (gv:=vIv) (oi_Whole) fun r2 _=>?_
  exact Run.x 0
 ·refine Run.q (e:=vIv) (gv:=vIv) (oi_bounded _ _ _) fun r3 _=>?_
  exact Run.x 0
theorem oi_IsWhole (a0 : Iv) : Fun Tryz.prog 66 [] #[vIv a0] (vB (I_IsWhole a0)) []:=by
 refine Fun.ofH 400 E_ok mixed Tryz.func66 (by kernel_rfl) (by kernel_rfl) ?_
 unfold I_IsWhole
 refine Run.q (e:=vB) (gv:=vB) (oi_ValidInterval _) fun r1 _=>?_
 exact Run.x 0
theorem oi_NegI (a0 : Iv) : Fun Tryz.prog 30 [] #[vIv a0] (vIv (I_NegI a0)) []:=by
 refine Fun.ofH 400 E_ok mixed Tryz.func30 (by kernel_rfl) (by kernel_rfl) ?_
 unfold I_NegI
 refine Run.q (e:=vB) (gv:=vIv) (oi_IsWhole _) fun r1 _=>?_
 refine Run.y (gv:=vIv) (fun _=>?_) (fun _=>?_)
 ·refine Run.q (e:=vIv) (gv:=vIv) (oi_Whole) fun r2 _=>?_
  exact Run.x 0
 ·exact Run.x 0
theorem oi_WideShift (a0 : Wd) (a1 : I64) : Fun Tryz.prog 171 [] #[vWd a0,vI a1] (vWd (I_WideShift a0 a1)) []:=by
 refine Fun.ofH 400 E_ok mixed Tryz.func171 (by kernel_rfl) (by kernel_rfl) ?_
 unfold I_WideShift
 refine Run.q (e:=vB) (gv:=vWd) (oi_within _ _ _) fun r1 hr1=>?_
 refine Run.y (gv:=vWd) (fun h2=>?_) (fun h2=>?_)
 ·exact Run.x 0
 ·refine Run.y (gv:=vWd) (fun h3=>?_) (fun h3=>?_)
  ·refine Run.z [true] ?_
   refine Run.k (c:=(decide (0 ≤ (w64 (a1.val - 64)).val))) (by kernel_rfl) (by have q:=a1.hi; rw [hr1] at h2; simp [I_within,c64_val] at h2; simp only [w64_val,decide_eq_true_eq,decide_eq_false_iff_not] at *; omega) ?_
   exact Run.x 0
  ·refine Run.k (c:=(decide (0 ≤ a1.val))) (by kernel_rfl) (by have q:=a1.hi; rw [hr1] at h2; simp [I_within,c64_val] at h2; simp only [w64_val,decide_eq_true_eq,decide_eq_false_iff_not] at *; omega) ?_
   refine Run.k (c:=(decide (0 ≤ a1.val))) (by kernel_rfl) (by have q:=a1.hi; rw [hr1] at h2; simp [I_within,c64_val] at h2; simp only [w64_val,decide_eq_true_eq,decide_eq_false_iff_not] at *; omega) ?_
   refine Run.k (c:=(decide (0 ≤ (w64 (64 - a1.val)).val))) (by kernel_rfl) (by have q:=a1.hi; rw [hr1] at h2; simp [I_within,c64_val] at h2; simp only [w64_val,decide_eq_true_eq,decide_eq_false_iff_not] at *; omega) ?_
   exact Run.x 0
theorem oi_MulFloor (a0 : I64) (a1 : I64) (a2 : I64) : Fun Tryz.prog 134 [] #[vI a0,vI a1,vI a2] (vT_I_B (I_MulFloor a0 a1 a2)) []:=by
 refine Fun.ofH 400 E_ok mixed Tryz.func134 (by kernel_rfl) (by kernel_rfl) ?_
 unfold I_MulFloor
 refine Run.q (e:=vB) (gv:=vT_I_B) (oi_within _ _ _) fun r1 _=>?_
 refine Run.y (gv:=vT_I_B) (fun _=>?_) (fun _=>?_)
 ·exact Run.x 0
 ·refine Run.q (e:=vWd) (gv:=vT_I_B) (oi_WideMul _ _) fun r2 _=>?_
  refine Run.q (e:=vWd) (gv:=vT_I_B) (oi_WideShift _ _) fun r3 _=>?_
  refine Run.q (e:=vT_I_B) (gv:=vT_I_B) (oi_WideInt _) fun r4 _=>?_
  exact Run.x 0
theorem oi_TurnI_r : ∀ (fu : Nat) (a0 : I64) (hm : min (0 - a0.val).toNat 1 < fu),Fun Tryz.prog 100 [] #[vI a0] (vIv (I_TurnI_r fu a0)) []:=by
 intro fu
 induction fu with
 | zero=>intro a0 hm; exact absurd hm (Nat.not_lt_zero _)
 | succ fu ih=>
  intro a0 hm
  refine Fun.ofH 400 E_ok mixed Tryz.func100 (by kernel_rfl) (by kernel_rfl) ?_
  unfold I_TurnI_r
  refine Run.q (e:=vB) (gv:=vIv) (oi_within _ _ _) fun r1 hr1=>?_
  refine Run.y (gv:=vIv) (fun h2=>?_) (fun h2=>?_)
  ·refine Run.q (e:=vIv) (gv:=vIv) (oi_Whole) fun r3 hr3=>?_
   exact Run.x 0
  ·refine Run.y (gv:=vIv) (fun h4=>?_) (fun h4=>?_)
   ·refine Run.q (e:=vIv) (gv:=vIv) (ih (w64 (0 - a0.val)) (by rw [hr1] at h2; simp [I_within,c64_val] at h2; simp only [w64_val,decide_eq_true_eq,decide_eq_false_iff_not] at *; omega)) fun r5 hr5=>?_
    refine Run.q (e:=vIv) (gv:=vIv) (oi_NegI _) fun r6 hr6=>?_
    exact Run.x 0
   ·refine Run.y (gv:=vIv) (fun h7=>?_) (fun h7=>?_)
    ·exact Run.x 0
    ·refine Run.q (e:=vT_I_B) (gv:=vIv) (oi_MulFloor _ _ _) fun r8 hr8=>?_
     exact Run.x 0
theorem oi_TurnI (a0 : I64) : Fun Tryz.prog 100 [] #[vI a0] (vIv (I_TurnI a0)) []:=oi_TurnI_r 2 a0 (by omega)
theorem oi_PiI : Fun Tryz.prog 60 [] #[] (vIv (I_PiI)) []:=by
 refine Fun.ofH 400 E_ok mixed Tryz.func60 (by kernel_rfl) (by kernel_rfl) ?_
 unfold I_PiI
 refine Run.q (e:=vIv) (gv:=vIv) (oi_TurnI _) fun r1 _=>?_
 exact Run.x 0
theorem oi_MulDown (a0 : I64) (a1 : I64) : Fun Tryz.prog 98 [] #[vI a0,vI a1] (vT_I_B (I_MulDown a0 a1)) []:=by
 refine Fun.ofH 400 E_ok mixed Tryz.func98 (by kernel_rfl) (by kernel_rfl) ?_
 unfold I_MulDown
 refine Run.q (e:=vB) (gv:=vT_I_B) (oi_ValidFix _) fun r1 _=>?_
 refine Run.y (gv:=vT_I_B) (fun _=>?_) (fun _=>?_)
 ·refine Run.z [true,true,true,true] ?_
  exact Run.x 0
 ·refine Run.z [false] ?_
  refine Run.q (e:=vB) (gv:=vT_I_B) (oi_ValidFix _) fun r2 _=>?_
  refine Run.z [false,false] ?_
  refine Run.y (gv:=vT_I_B) (fun _=>?_) (fun _=>?_)
  ·exact Run.x 0
  ·refine Run.q (e:=vT_I_B) (gv:=vT_I_B) (oi_MulFloor _ _ _) fun r3 _=>?_
   refine Run.q (e:=vT_I_B) (gv:=vT_I_B) (oi_fixed _ _) fun r4 _=>?_
   exact Run.x 0
theorem oi_MulUp (a0 : I64) (a1 : I64) : Fun Tryz.prog 99 [] #[vI a0,vI a1] (vT_I_B (I_MulUp a0 a1)) []:=by
 refine Fun.ofH 400 E_ok mixed Tryz.func99 (by kernel_rfl) (by kernel_rfl) ?_
 unfold I_MulUp
 refine Run.q (e:=vB) (gv:=vT_I_B) (oi_ValidFix _) fun r1 _=>?_
 refine Run.y (gv:=vT_I_B) (fun _=>?_) (fun _=>?_)
 ·refine Run.z [true,true,true,true] ?_
  exact Run.x 0
 ·refine Run.z [false] ?_
  refine Run.q (e:=vB) (gv:=vT_I_B) (oi_ValidFix _) fun r2 _=>?_
  refine Run.z [false,false] ?_
  refine Run.y (gv:=vT_I_B) (fun _=>?_) (fun _=>?_)
  ·exact Run.x 0
  ·refine Run.q (e:=vT_I_B) (gv:=vT_I_B) (oi_MulDown _ _) fun r3 _=>?_
   exact Run.x 0
theorem oi_combine__impl_MulDown__impl_MulUp (a0 : Iv) (a1 : Iv) : Fun Tryz.prog 97 [] #[vIv a0,vIv a1,.func (.func 98) #[] #[],.func (.func 99) #[] #[]] (vIv (I_combine__impl_MulDown__impl_MulUp a0 a1)) []:=by
 refine Fun.ofH 400 E_ok mixed Tryz.func97 (by kernel_rfl) (by kernel_rfl) ?_
 unfold I_combine__impl_MulDown__impl_MulUp
 refine Run.u 400 E_ok mixed Tryz.func97 ?_
 refine Run.z [true] ?_
 refine Run.u 400 E_ok mixed Tryz.func97 ?_
 refine Run.z [true] ?_
 refine Run.q (e:=vT_I_B) (gv:=vIv) (oi_MulDown _ _) fun r1 _=>?_
 refine Run.q (e:=vT_I_B) (gv:=vIv) (oi_MulUp _ _) fun r2 _=>?_
 refine Run.y (gv:=vIv) (fun _=>?_) (fun _=>?_)
 ·refine Run.z [true,true,true] ?_
  refine Run.q (e:=vIv) (gv:=vIv) (oi_Whole) fun r3 _=>?_
  exact Run.x 0
 ·refine Run.z [false,false] ?_
  refine Run.y (gv:=vIv) (fun _=>?_) (fun _=>?_)
  ·refine Run.q (e:=vIv) (gv:=vIv) (oi_Whole) fun r4 _=>?_
   exact Run.x 0
  ·refine Run.z [true] ?_
   refine Run.u 400 E_ok mixed Tryz.func97 ?_
   refine Run.z [true] ?_
   refine Run.q (e:=vT_I_B) (gv:=vIv) (oi_MulDown _ _) fun r5 _=>?_
   refine Run.q (e:=vT_I_B) (gv:=vIv) (oi_MulUp _ _) fun r6 _=>?_
   refine Run.y (gv:=vIv) (fun _=>?_) (fun _=>?_)
   ·refine Run.z [true,true,true] ?_
    refine Run.q (e:=vIv) (gv:=vIv) (oi_Whole) fun r7 _=>?_
    exact Run.x 0
   ·refine Run.z [false,false] ?_
    refine Run.y (gv:=vIv) (fun _=>?_) (fun _=>?_)
    ·refine Run.q (e:=vIv) (gv:=vIv) (oi_Whole) fun r8 _=>?_
     exact Run.x 0
    ·refine Run.z [false] ?_
     refine Run.u 400 E_ok mixed Tryz.func97 ?_
     refine Run.z [false] ?_
     refine Run.u 400 E_ok mixed Tryz.func97 ?_
     refine Run.z [true] ?_
     refine Run.u 400 E_ok mixed Tryz.func97 ?_
     refine Run.z [true] ?_
     refine Run.q (e:=vT_I_B) (gv:=vIv) (oi_MulDown _ _) fun r9 _=>?_
     refine Run.q (e:=vT_I_B) (gv:=vIv) (oi_MulUp _ _) fun r10 _=>?_
     refine Run.y (gv:=vIv) (fun _=>?_) (fun _=>?_)
     ·refine Run.z [true,true,true] ?_
      refine Run.q (e:=vIv) (gv:=vIv) (oi_Whole) fun r11 _=>?_
      exact Run.x 0
     ·refine Run.z [false,false] ?_
      refine Run.y (gv:=vIv) (fun _=>?_) (fun _=>?_)
      ·refine Run.q (e:=vIv) (gv:=vIv) (oi_Whole) fun r12 _=>?_
       exact Run.x 0
      ·refine Run.z [false] ?_
       refine Run.u 400 E_ok mixed Tryz.func97 ?_
       refine Run.z [true] ?_
       refine Run.q (e:=vT_I_B) (gv:=vIv) (oi_MulDown _ _) fun r13 _=>?_
       refine Run.q (e:=vT_I_B) (gv:=vIv) (oi_MulUp _ _) fun r14 _=>?_
       refine Run.y (gv:=vIv) (fun _=>?_) (fun _=>?_)
       ·refine Run.z [true,true,true] ?_
        refine Run.q (e:=vIv) (gv:=vIv) (oi_Whole) fun r15 _=>?_
        exact Run.x 0
       ·refine Run.z [false,false] ?_
        refine Run.y (gv:=vIv) (fun _=>?_) (fun _=>?_)
        ·refine Run.q (e:=vIv) (gv:=vIv) (oi_Whole) fun r16 _=>?_
         exact Run.x 0
        ·refine Run.z [false] ?_
         refine Run.u 400 E_ok mixed Tryz.func97 ?_
         refine Run.z [false] ?_
         refine Run.u 400 E_ok mixed Tryz.func97 ?_
         refine Run.z [false] ?_
         refine Run.q (e:=vIv) (gv:=vIv) (oi_bounded _ _ _) fun r17 _=>?_
         exact Run.x 0
theorem oi_MulI (a0 : Iv) (a1 : Iv) : Fun Tryz.prog 59 [] #[vIv a0,vIv a1] (vIv (I_MulI a0 a1)) []:=by
 refine Fun.ofH 400 E_ok mixed Tryz.func59 (by kernel_rfl) (by kernel_rfl) ?_
 unfold I_MulI
 refine Run.q (e:=vB) (gv:=vIv) (oi_areBounded _ _) fun r1 _=>?_
 refine Run.y (gv:=vIv) (fun _=>?_) (fun _=>?_)
 ·refine Run.q (e:=vIv) (gv:=vIv) (oi_Whole) fun r2 _=>?_
  exact Run.x 0
 ·refine Run.q (e:=vIv) (gv:=vIv) (oi_combine__impl_MulDown__impl_MulUp _ _) fun r3 _=>?_
  exact Run.x 0
theorem oi_affineOf_1__pIv (b0 : Iv) (a0 : I64) : Fun Tryz.prog 58 [(#[.int .i64 b0.lo.val,.int .i64 b0.hi.val],31)] #[vI a0,.pointer (some ⟨0,0,none⟩)] (vIv (I_affineOf_1__pIv b0 a0)) [(#[.int .i64 b0.lo.val,.int .i64 b0.hi.val],31)]:=by
 refine Fun.ofH 400 E_ok mixed Tryz.func58 (by kernel_rfl) (by kernel_rfl) ?_
 unfold I_affineOf_1__pIv
 refine Run.q (e:=vIv) (gv:=vIv) (oi_PiI) fun r1 _=>?_
 refine Run.q (e:=vIv) (gv:=vIv) (oi_Quotient _ _) fun r2 _=>?_
 refine Run.q (e:=vIv) (gv:=vIv) (oi_MulI _ _) fun r3 _=>?_
 refine Run.q (e:=vIv) (gv:=vIv) (oi_MulI _ _) fun r4 _=>?_
 exact Run.x 1
theorem oi_affineOf (a0 : Sf) : Fun Tryz.prog 27 [] #[vSf a0] (vAf (I_affineOf a0)) []:=by
 refine Fun.ofH 400 E_ok mixed Tryz.func27 (by kernel_rfl) (by kernel_rfl) ?_
 unfold I_affineOf
 refine Run.q (e:=vIv) (gv:=vAf) (oi_Integer _) fun r1 _=>?_
 refine Run.q (e:=vIv) (gv:=vAf) (oi_Quotient _ _) fun r2 _=>?_
 refine Run.q (e:=vIv) (gv:=vAf) (oi_AddI _ _) fun r3 _=>?_
 refine Run.w (e:=vIv) (gv:=vAf) [2] (oi_affineOf_1__pIv _ _) fun r4 _=>?_
 refine Run.w (e:=vIv) (gv:=vAf) [2] (oi_affineOf_1__pIv _ _) fun r5 _=>?_
 refine Run.w (e:=vIv) (gv:=vAf) [2] (oi_affineOf_1__pIv _ _) fun r6 _=>?_
 refine Run.q (e:=vIv) (gv:=vAf) (oi_NegI _) fun r7 _=>?_
 refine Run.q (e:=vIv) (gv:=vAf) (oi_NegI _) fun r8 _=>?_
 refine Run.q (e:=vIv) (gv:=vAf) (oi_NegI _) fun r9 _=>?_
 refine Run.q (e:=vIv) (gv:=vAf) (oi_Quotient _ _) fun r10 _=>?_
 refine Run.q (e:=vIv) (gv:=vAf) (oi_Quotient _ _) fun r11 _=>?_
 refine Run.q (e:=vIv) (gv:=vAf) (oi_Quotient _ _) fun r12 _=>?_
 exact Run.x 0
theorem oi_AffineOf (a0 : Sf) : Fun Tryz.prog 9 [] #[vSf a0] (vT_Af_I (I_AffineOf a0)) []:=by
 refine Fun.ofH 400 E_ok mixed Tryz.func9 (by kernel_rfl) (by kernel_rfl) ?_
 unfold I_AffineOf
 refine Run.q (e:=vB) (gv:=vT_Af_I) (oi_ValidShift _) fun r1 _=>?_
 refine Run.y (gv:=vT_Af_I) (fun _=>?_) (fun _=>?_)
 ·exact Run.x 0
 ·refine Run.q (e:=vAf) (gv:=vT_Af_I) (oi_affineOf _) fun r2 _=>?_
  exact Run.x 0
theorem oi_SubI (a0 : Iv) (a1 : Iv) : Fun Tryz.prog 101 [] #[vIv a0,vIv a1] (vIv (I_SubI a0 a1)) []:=by
 refine Fun.ofH 400 E_ok mixed Tryz.func101 (by kernel_rfl) (by kernel_rfl) ?_
 unfold I_SubI
 refine Run.q (e:=vIv) (gv:=vIv) (oi_NegI _) fun r1 _=>?_
 refine Run.q (e:=vIv) (gv:=vIv) (oi_AddI _ _) fun r2 _=>?_
 exact Run.x 0
theorem oi_CrossV (a0 : Vc) (a1 : Vc) : Fun Tryz.prog 61 [] #[vVc a0,vVc a1] (vVc (I_CrossV a0 a1)) []:=by
 refine Fun.ofH 400 E_ok mixed Tryz.func61 (by kernel_rfl) (by kernel_rfl) ?_
 unfold I_CrossV
 refine Run.q (e:=vIv) (gv:=vVc) (oi_MulI _ _) fun r1 _=>?_
 refine Run.q (e:=vIv) (gv:=vVc) (oi_MulI _ _) fun r2 _=>?_
 refine Run.q (e:=vIv) (gv:=vVc) (oi_SubI _ _) fun r3 _=>?_
 refine Run.q (e:=vIv) (gv:=vVc) (oi_MulI _ _) fun r4 _=>?_
 refine Run.q (e:=vIv) (gv:=vVc) (oi_MulI _ _) fun r5 _=>?_
 refine Run.q (e:=vIv) (gv:=vVc) (oi_SubI _ _) fun r6 _=>?_
 refine Run.q (e:=vIv) (gv:=vVc) (oi_MulI _ _) fun r7 _=>?_
 refine Run.q (e:=vIv) (gv:=vVc) (oi_MulI _ _) fun r8 _=>?_
 refine Run.q (e:=vIv) (gv:=vVc) (oi_SubI _ _) fun r9 _=>?_
 exact Run.x 0
theorem oi_DotV (a0 : Vc) (a1 : Vc) : Fun Tryz.prog 62 [] #[vVc a0,vVc a1] (vIv (I_DotV a0 a1)) []:=by
 refine Fun.ofH 400 E_ok mixed Tryz.func62 (by kernel_rfl) (by kernel_rfl) ?_
 unfold I_DotV
 refine Run.q (e:=vIv) (gv:=vIv) (oi_MulI _ _) fun r1 _=>?_
 refine Run.q (e:=vIv) (gv:=vIv) (oi_MulI _ _) fun r2 _=>?_
 refine Run.q (e:=vIv) (gv:=vIv) (oi_AddI _ _) fun r3 _=>?_
 refine Run.q (e:=vIv) (gv:=vIv) (oi_MulI _ _) fun r4 _=>?_
 refine Run.q (e:=vIv) (gv:=vIv) (oi_AddI _ _) fun r5 _=>?_
 exact Run.x 0
theorem oi_HasI (a0 : Iv) (a1 : I64) : Fun Tryz.prog 63 [] #[vIv a0,vI a1] (vB (I_HasI a0 a1)) []:=by
 refine Fun.ofH 400 E_ok mixed Tryz.func63 (by kernel_rfl) (by kernel_rfl) ?_
 unfold I_HasI
 refine Run.q (e:=vB) (gv:=vB) (oi_IsWhole _) fun r1 _=>?_
 refine Run.y (gv:=vB) (fun _=>?_) (fun _=>?_)
 ·refine Run.z [true,true,true,true,true,true] ?_
  exact Run.x 0
 ·refine Run.z [false,false,false,false,false] ?_
  refine Run.q (e:=vB) (gv:=vB) (oi_within _ _ _) fun r2 _=>?_
  refine Run.z [false] ?_
  exact Run.x 0
theorem oi_transposed (a0 : Mt) : Fun Tryz.prog 64 [] #[vMt a0] (vMt (I_transposed a0)) []:=by
 refine Fun.ofH 400 E_ok mixed Tryz.func64 (by kernel_rfl) (by kernel_rfl) ?_
 unfold I_transposed
 exact Run.x 0
theorem oi_DivDown (a0 : I64) (a1 : I64) : Fun Tryz.prog 135 [] #[vI a0,vI a1] (vT_I_B (I_DivDown a0 a1)) []:=by
 refine Fun.ofH 400 E_ok mixed Tryz.func135 (by kernel_rfl) (by kernel_rfl) ?_
 unfold I_DivDown
 refine Run.q (e:=vB) (gv:=vT_I_B) (oi_ValidFix _) fun r1 _=>?_
 refine Run.y (gv:=vT_I_B) (fun _=>?_) (fun _=>?_)
 ·refine Run.z [true,true,true,true] ?_
  exact Run.x 0
 ·refine Run.z [false] ?_
  refine Run.q (e:=vB) (gv:=vT_I_B) (oi_ValidFix _) fun r2 _=>?_
  refine Run.z [false,false] ?_
  refine Run.y (gv:=vT_I_B) (fun _=>?_) (fun _=>?_)
  ·exact Run.x 0
  ·refine Run.y (gv:=vT_I_B) (fun _=>?_) (fun _=>?_)
   ·refine Run.q (e:=vT_I_B) (gv:=vT_I_B) (oi_MulDivFloor _ _ _) fun r3 _=>?_
    refine Run.q (e:=vT_I_B) (gv:=vT_I_B) (oi_fixed _ _) fun r4 _=>?_
    exact Run.x 0
   ·refine Run.q (e:=vT_I_B) (gv:=vT_I_B) (oi_MulDivFloor _ _ _) fun r5 _=>?_
    refine Run.q (e:=vT_I_B) (gv:=vT_I_B) (oi_fixed _ _) fun r6 _=>?_
    exact Run.x 0
theorem oi_DivUp (a0 : I64) (a1 : I64) : Fun Tryz.prog 136 [] #[vI a0,vI a1] (vT_I_B (I_DivUp a0 a1)) []:=by
 refine Fun.ofH 400 E_ok mixed Tryz.func136 (by kernel_rfl) (by kernel_rfl) ?_
 unfold I_DivUp
 refine Run.q (e:=vB) (gv:=vT_I_B) (oi_ValidFix _) fun r1 _=>?_
 refine Run.y (gv:=vT_I_B) (fun _=>?_) (fun _=>?_)
 ·refine Run.z [true,true,true,true] ?_
  exact Run.x 0
 ·refine Run.z [false] ?_
  refine Run.q (e:=vB) (gv:=vT_I_B) (oi_ValidFix _) fun r2 _=>?_
  refine Run.z [false,false] ?_
  refine Run.y (gv:=vT_I_B) (fun _=>?_) (fun _=>?_)
  ·exact Run.x 0
  ·refine Run.q (e:=vT_I_B) (gv:=vT_I_B) (oi_DivDown _ _) fun r3 _=>?_
   exact Run.x 0
theorem oi_combine__impl_DivDown__impl_DivUp (a0 : Iv) (a1 : Iv) : Fun Tryz.prog 97 [] #[vIv a0,vIv a1,.func (.func 135) #[] #[],.func (.func 136) #[] #[]] (vIv (I_combine__impl_DivDown__impl_DivUp a0 a1)) []:=by
 refine Fun.ofH 400 E_ok mixed Tryz.func97 (by kernel_rfl) (by kernel_rfl) ?_
 unfold I_combine__impl_DivDown__impl_DivUp
 refine Run.u 400 E_ok mixed Tryz.func97 ?_
 refine Run.z [true] ?_
 refine Run.u 400 E_ok mixed Tryz.func97 ?_
 refine Run.z [true] ?_
 refine Run.q (e:=vT_I_B) (gv:=vIv) (oi_DivDown _ _) fun r1 _=>?_
 refine Run.q (e:=vT_I_B) (gv:=vIv) (oi_DivUp _ _) fun r2 _=>?_
 refine Run.y (gv:=vIv) (fun _=>?_) (fun _=>?_)
 ·refine Run.z [true,true,true] ?_
  refine Run.q (e:=vIv) (gv:=vIv) (oi_Whole) fun r3 _=>?_
  exact Run.x 0
 ·refine Run.z [false,false] ?_
  refine Run.y (gv:=vIv) (fun _=>?_) (fun _=>?_)
  ·refine Run.q (e:=vIv) (gv:=vIv) (oi_Whole) fun r4 _=>?_
   exact Run.x 0
  ·refine Run.z [true] ?_
   refine Run.u 400 E_ok mixed Tryz.func97 ?_
   refine Run.z [true] ?_
   refine Run.q (e:=vT_I_B) (gv:=vIv) (oi_DivDown _ _) fun r5 _=>?_
   refine Run.q (e:=vT_I_B) (gv:=vIv) (oi_DivUp _ _) fun r6 _=>?_
   refine Run.y (gv:=vIv) (fun _=>?_) (fun _=>?_)
   ·refine Run.z [true,true,true] ?_
    refine Run.q (e:=vIv) (gv:=vIv) (oi_Whole) fun r7 _=>?_
    exact Run.x 0
   ·refine Run.z [false,false] ?_
    refine Run.y (gv:=vIv) (fun _=>?_) (fun _=>?_)
    ·refine Run.q (e:=vIv) (gv:=vIv) (oi_Whole) fun r8 _=>?_
     exact Run.x 0
    ·refine Run.z [false] ?_
     refine Run.u 400 E_ok mixed Tryz.func97 ?_
     refine Run.z [false] ?_
     refine Run.u 400 E_ok mixed Tryz.func97 ?_
     refine Run.z [true] ?_
     refine Run.u 400 E_ok mixed Tryz.func97 ?_
     refine Run.z [true] ?_
     refine Run.q (e:=vT_I_B) (gv:=vIv) (oi_DivDown _ _) fun r9 _=>?_
     refine Run.q (e:=vT_I_B) (gv:=vIv) (oi_DivUp _ _) fun r10 _=>?_
     refine Run.y (gv:=vIv) (fun _=>?_) (fun _=>?_)
     ·refine Run.z [true,true,true] ?_
      refine Run.q (e:=vIv) (gv:=vIv) (oi_Whole) fun r11 _=>?_
      exact Run.x 0
     ·refine Run.z [false,false] ?_
      refine Run.y (gv:=vIv) (fun _=>?_) (fun _=>?_)
      ·refine Run.q (e:=vIv) (gv:=vIv) (oi_Whole) fun r12 _=>?_
       exact Run.x 0
      ·refine Run.z [false] ?_
       refine Run.u 400 E_ok mixed Tryz.func97 ?_
       refine Run.z [true] ?_
       refine Run.q (e:=vT_I_B) (gv:=vIv) (oi_DivDown _ _) fun r13 _=>?_
       refine Run.q (e:=vT_I_B) (gv:=vIv) (oi_DivUp _ _) fun r14 _=>?_
       refine Run.y (gv:=vIv) (fun _=>?_) (fun _=>?_)
       ·refine Run.z [true,true,true] ?_
        refine Run.q (e:=vIv) (gv:=vIv) (oi_Whole) fun r15 _=>?_
        exact Run.x 0
       ·refine Run.z [false,false] ?_
        refine Run.y (gv:=vIv) (fun _=>?_) (fun _=>?_)
        ·refine Run.q (e:=vIv) (gv:=vIv) (oi_Whole) fun r16 _=>?_
         exact Run.x 0
        ·refine Run.z [false] ?_
         refine Run.u 400 E_ok mixed Tryz.func97 ?_
         refine Run.z [false] ?_
         refine Run.u 400 E_ok mixed Tryz.func97 ?_
         refine Run.z [false] ?_
         refine Run.q (e:=vIv) (gv:=vIv) (oi_bounded _ _ _) fun r17 _=>?_
         exact Run.x 0
theorem oi_DivI (a0 : Iv) (a1 : Iv) : Fun Tryz.prog 102 [] #[vIv a0,vIv a1] (vIv (I_DivI a0 a1)) []:=by
 refine Fun.ofH 400 E_ok mixed Tryz.func102 (by kernel_rfl) (by kernel_rfl) ?_
 unfold I_DivI
 refine Run.q (e:=vB) (gv:=vIv) (oi_areBounded _ _) fun r1 _=>?_
 refine Run.y (gv:=vIv) (fun _=>?_) (fun _=>?_)
 ·refine Run.z [true,true,true] ?_
  refine Run.q (e:=vIv) (gv:=vIv) (oi_Whole) fun r2 _=>?_
  exact Run.x 0
 ·refine Run.z [false] ?_
  refine Run.q (e:=vB) (gv:=vIv) (oi_HasI _ _) fun r3 _=>?_
  refine Run.z [false] ?_
  refine Run.y (gv:=vIv) (fun _=>?_) (fun _=>?_)
  ·refine Run.q (e:=vIv) (gv:=vIv) (oi_Whole) fun r4 _=>?_
   exact Run.x 0
  ·refine Run.q (e:=vIv) (gv:=vIv) (oi_combine__impl_DivDown__impl_DivUp _ _) fun r5 _=>?_
   exact Run.x 0
theorem oi_dividedV (a0 : Vc) (a1 : Iv) : Fun Tryz.prog 65 [] #[vVc a0,vIv a1] (vVc (I_dividedV a0 a1)) []:=by
 refine Fun.ofH 400 E_ok mixed Tryz.func65 (by kernel_rfl) (by kernel_rfl) ?_
 unfold I_dividedV
 refine Run.q (e:=vIv) (gv:=vVc) (oi_DivI _ _) fun r1 _=>?_
 refine Run.q (e:=vIv) (gv:=vVc) (oi_DivI _ _) fun r2 _=>?_
 refine Run.q (e:=vIv) (gv:=vVc) (oi_DivI _ _) fun r3 _=>?_
 exact Run.x 0
theorem oi_InverseM (a0 : Mt) : Fun Tryz.prog 28 [] #[vMt a0] (vT_Mt_B (I_InverseM a0)) []:=by
 refine Fun.ofH 400 E_ok mixed Tryz.func28 (by kernel_rfl) (by kernel_rfl) ?_
 unfold I_InverseM
 refine Run.q (e:=vVc) (gv:=vT_Mt_B) (oi_CrossV _ _) fun r1 _=>?_
 refine Run.q (e:=vVc) (gv:=vT_Mt_B) (oi_CrossV _ _) fun r2 _=>?_
 refine Run.q (e:=vVc) (gv:=vT_Mt_B) (oi_CrossV _ _) fun r3 _=>?_
 refine Run.q (e:=vIv) (gv:=vT_Mt_B) (oi_DotV _ _) fun r4 _=>?_
 refine Run.q (e:=vB) (gv:=vT_Mt_B) (oi_HasI _ _) fun r5 _=>?_
 refine Run.y (gv:=vT_Mt_B) (fun _=>?_) (fun _=>?_)
 ·exact Run.x 0
 ·refine Run.q (e:=vMt) (gv:=vT_Mt_B) (oi_transposed _) fun r6 _=>?_
  refine Run.q (e:=vVc) (gv:=vT_Mt_B) (oi_dividedV _ _) fun r7 _=>?_
  refine Run.q (e:=vVc) (gv:=vT_Mt_B) (oi_dividedV _ _) fun r8 _=>?_
  refine Run.q (e:=vVc) (gv:=vT_Mt_B) (oi_dividedV _ _) fun r9 _=>?_
  exact Run.x 0
theorem oi_ApplyM (a0 : Mt) (a1 : Vc) : Fun Tryz.prog 29 [] #[vMt a0,vVc a1] (vVc (I_ApplyM a0 a1)) []:=by
 refine Fun.ofH 400 E_ok mixed Tryz.func29 (by kernel_rfl) (by kernel_rfl) ?_
 unfold I_ApplyM
 refine Run.q (e:=vIv) (gv:=vVc) (oi_DotV _ _) fun r1 _=>?_
 refine Run.q (e:=vIv) (gv:=vVc) (oi_DotV _ _) fun r2 _=>?_
 refine Run.q (e:=vIv) (gv:=vVc) (oi_DotV _ _) fun r3 _=>?_
 exact Run.x 0
theorem oi_InvertAffine (a0 : Af) : Fun Tryz.prog 10 [] #[vAf a0] (vT_Af_B (I_InvertAffine a0)) []:=by
 refine Fun.ofH 400 E_ok mixed Tryz.func10 (by kernel_rfl) (by kernel_rfl) ?_
 unfold I_InvertAffine
 refine Run.q (e:=vT_Mt_B) (gv:=vT_Af_B) (oi_InverseM _) fun r1 _=>?_
 refine Run.y (gv:=vT_Af_B) (fun _=>?_) (fun _=>?_)
 ·exact Run.x 0
 ·refine Run.q (e:=vVc) (gv:=vT_Af_B) (oi_ApplyM _ _) fun r2 _=>?_
  refine Run.q (e:=vIv) (gv:=vT_Af_B) (oi_NegI _) fun r3 _=>?_
  refine Run.q (e:=vIv) (gv:=vT_Af_B) (oi_NegI _) fun r4 _=>?_
  refine Run.q (e:=vIv) (gv:=vT_Af_B) (oi_NegI _) fun r5 _=>?_
  exact Run.x 0
theorem oi_ReadShift (a0 : Sh) : Fun Tryz.prog 11 [] #[vSh a0] (vT_Sf_B (I_ReadShift a0)) []:=ok_ReadShift a0
theorem oi_AddV (a0 : Vc) (a1 : Vc) : Fun Tryz.prog 34 [] #[vVc a0,vVc a1] (vVc (I_AddV a0 a1)) []:=by
 refine Fun.ofH 400 E_ok mixed Tryz.func34 (by kernel_rfl) (by kernel_rfl) ?_
 unfold I_AddV
 refine Run.q (e:=vIv) (gv:=vVc) (oi_AddI _ _) fun r1 _=>?_
 refine Run.q (e:=vIv) (gv:=vVc) (oi_AddI _ _) fun r2 _=>?_
 refine Run.q (e:=vIv) (gv:=vVc) (oi_AddI _ _) fun r3 _=>?_
 exact Run.x 0
theorem oi_ApplyAffine (a0 : Af) (a1 : Vc) : Fun Tryz.prog 13 [] #[vAf a0,vVc a1] (vVc (I_ApplyAffine a0 a1)) []:=by
 refine Fun.ofH 400 E_ok mixed Tryz.func13 (by kernel_rfl) (by kernel_rfl) ?_
 unfold I_ApplyAffine
 refine Run.q (e:=vVc) (gv:=vVc) (oi_ApplyM _ _) fun r1 _=>?_
 refine Run.q (e:=vVc) (gv:=vVc) (oi_AddV _ _) fun r2 _=>?_
 exact Run.x 0
theorem oi_MulM (a0 : Mt) (a1 : Mt) : Fun Tryz.prog 36 [] #[vMt a0,vMt a1] (vMt (I_MulM a0 a1)) []:=by
 refine Fun.ofH 400 E_ok mixed Tryz.func36 (by kernel_rfl) (by kernel_rfl) ?_
 unfold I_MulM
 refine Run.q (e:=vMt) (gv:=vMt) (oi_transposed _) fun r1 _=>?_
 refine Run.q (e:=vVc) (gv:=vMt) (oi_ApplyM _ _) fun r2 _=>?_
 refine Run.q (e:=vVc) (gv:=vMt) (oi_ApplyM _ _) fun r3 _=>?_
 refine Run.q (e:=vVc) (gv:=vMt) (oi_ApplyM _ _) fun r4 _=>?_
 exact Run.x 0
theorem oi_ThenAffine (a0 : Af) (a1 : Af) : Fun Tryz.prog 15 [] #[vAf a0,vAf a1] (vAf (I_ThenAffine a0 a1)) []:=by
 refine Fun.ofH 400 E_ok mixed Tryz.func15 (by kernel_rfl) (by kernel_rfl) ?_
 unfold I_ThenAffine
 refine Run.q (e:=vMt) (gv:=vAf) (oi_MulM _ _) fun r1 _=>?_
 refine Run.q (e:=vVc) (gv:=vAf) (oi_ApplyAffine _ _) fun r2 _=>?_
 exact Run.x 0
theorem oi_OppositeShift (a0 : Sf) : Fun Tryz.prog 16 [] #[vSf a0] (vT_Sf_I (I_OppositeShift a0)) []:=by
 refine Fun.ofH 400 E_ok mixed Tryz.func16 (by kernel_rfl) (by kernel_rfl) ?_
 unfold I_OppositeShift
 refine Run.q (e:=vB) (gv:=vT_Sf_I) (oi_ValidShift _) fun r1 _=>?_
 refine Run.y (gv:=vT_Sf_I) (fun _=>?_) (fun _=>?_)
 ·exact Run.x 0
 ·exact Run.x 0
end Go.Proofs.YtfhnlkinjbakgaaGreatDoor.Abs
