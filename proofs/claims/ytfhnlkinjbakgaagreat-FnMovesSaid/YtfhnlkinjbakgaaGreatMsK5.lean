/- The program's functions are these; part 5 (written by w.py). -/
import Derived.Test.YtfhnlkinjbakgaaGreatMsE
import Derived.Test.YtfhnlkinjbakgaaGreatMsF4
import Derived.Test.YtfhnlkinjbakgaaGreatMsQpre
import Derived.Test.YtfhnlkinjbakgaaGreatMsK0
import Derived.Test.YtfhnlkinjbakgaaGreatMsK4
set_option linter.unusedVariables false
set_option linter.unusedSimpArgs false
namespace Go.Proofs.YtfhnlkinjbakgaaGreat.Abs
open Go Go.RowKit
theorem oi_circleHull_L0 : ∀ (fu : Nat) (cp_r7 : Nat) (pd_r7 : List Value) (a1 : I64) (r7 : List I64) (a0 : Iv) (x_24 : I64) (y_2 : Iv) (q0 : 0 ≤ x_24.val) (q1 : ((r7.length : Nat) : Int) ≤ 4000) (hm : (((r7.length : Nat) : Int) - x_24.val).toNat < fu) (t : Array Value) (ht : maskA t [0,2,3,6,7,8,9,10,11,12,13,14,15,16,17,18,19,20,21,25,26,27,28,29,30,31,32,33,34,35,36,37,38,39,40,41,42,43] = #[undef,.int .i64 a1.val,undef,undef,.pointer (some ⟨1,0,none⟩),.pointer (some ⟨2,0,none⟩),undef,undef,undef,undef,undef,undef,undef,undef,undef,undef,undef,undef,undef,undef,undef,undef,.slice (some ⟨3,0,some 0⟩) r7.length cp_r7,.int .i64 (((r7.length : Nat) : Int)),.int .i64 x_24.val,undef,undef,undef,undef,undef,undef,undef,undef,undef,undef,undef,undef,undef,undef,undef,undef,undef,undef,undef]),Cfg Tryz.prog 172 (loopAt Tryz.f172 0) t [(#[.int .i64 a0.lo.val,.int .i64 a0.hi.val],31),(#[.int .i64 0,.int .i64 0],31),(#[.int .i64 y_2.lo.val,.int .i64 y_2.hi.val],31),(rowOf r7 pd_r7,2)] (RvH [] (vIv (I_circleHull_L0 fu a1 r7 a0 x_24 y_2))):=by
 intro fu
 induction fu with
 | zero=>intro cp_r7 pd_r7 a1 r7 a0 x_24 y_2 q0 q1 hm; exact absurd hm (Nat.not_lt_zero _)
 | succ fu ih=>
  intro cp_r7 pd_r7 a1 r7 a0 x_24 y_2 q0 q1 hm t ht
  refine Cfg.round E_ok mixed Tryz.func172 ht fun g=>?_
  unfold I_circleHull_L0
  refine Run.y (gv:=vIv) (fun h8=>?_) (fun h8=>?_)
  ·refine Run.k (c:=(decide (0 ≤ x_24.val ∧ x_24.val < ((r7.length : Nat) : Int)))) (by kernel_rfl) (by simp only [w64_val,wu64_val,c64_val,cu64_val,decide_eq_true_eq,decide_eq_false_iff_not,cond_true,cond_false] at *; omega) ?_
   refine Run.ld (by kernel_rfl) (listAt_ok (L:=r7) (pad:=pd_r7) (i:=x_24) (by simp only [w64_val,wu64_val,c64_val,cu64_val,decide_eq_true_eq,decide_eq_false_iff_not,cond_true,cond_false] at *; omega)) ?_
   refine Run.y (gv:=vIv) (fun h9=>?_) (fun h9=>?_)
   ·refine Run.q (e:=vIv) (gv:=vIv) (oi_Integer _) fun r10 hr10=>?_
    refine Run.q (e:=vIv) (gv:=vIv) (oi_HullI _ _) fun r11 hr11=>?_
    exact Run.l (by kernel_rfl) (by kernel_rfl) (by kernel_rfl) (by kernel_rfl) (ih cp_r7 pd_r7 a1 r7 a0 (w64 (x_24.val + 1)) r11 (by first | omega | (simp only [w64_val,wu64_val,c64_val,cu64_val,decide_eq_true_eq,decide_eq_false_iff_not,cond_true,cond_false] at *; omega)) (by first | omega | (simp only [w64_val,wu64_val,c64_val,cu64_val,decide_eq_true_eq,decide_eq_false_iff_not,cond_true,cond_false] at *; omega)) (by first | omega | (simp only [w64_val,wu64_val,c64_val,cu64_val,decide_eq_true_eq,decide_eq_false_iff_not,cond_true,cond_false] at *; omega)))
   ·refine Run.y (gv:=vIv) (fun h12=>?_) (fun h12=>?_)
    ·refine Run.q (e:=vIv) (gv:=vIv) (oi_Integer _) fun r13 hr13=>?_
     refine Run.q (e:=vIv) (gv:=vIv) (oi_HullI _ _) fun r14 hr14=>?_
     exact Run.l (by kernel_rfl) (by kernel_rfl) (by kernel_rfl) (by kernel_rfl) (ih cp_r7 pd_r7 a1 r7 a0 (w64 (x_24.val + 1)) r14 (by first | omega | (simp only [w64_val,wu64_val,c64_val,cu64_val,decide_eq_true_eq,decide_eq_false_iff_not,cond_true,cond_false] at *; omega)) (by first | omega | (simp only [w64_val,wu64_val,c64_val,cu64_val,decide_eq_true_eq,decide_eq_false_iff_not,cond_true,cond_false] at *; omega)) (by first | omega | (simp only [w64_val,wu64_val,c64_val,cu64_val,decide_eq_true_eq,decide_eq_false_iff_not,cond_true,cond_false] at *; omega)))
    ·exact Run.l (by kernel_rfl) (by kernel_rfl) (by kernel_rfl) (by kernel_rfl) (ih cp_r7 pd_r7 a1 r7 a0 (w64 (x_24.val + 1)) y_2 (by first | omega | (simp only [w64_val,wu64_val,c64_val,cu64_val,decide_eq_true_eq,decide_eq_false_iff_not,cond_true,cond_false] at *; omega)) (by first | omega | (simp only [w64_val,wu64_val,c64_val,cu64_val,decide_eq_true_eq,decide_eq_false_iff_not,cond_true,cond_false] at *; omega)) (by first | omega | (simp only [w64_val,wu64_val,c64_val,cu64_val,decide_eq_true_eq,decide_eq_false_iff_not,cond_true,cond_false] at *; omega)))
  ·exact Run.x 0
theorem oi_circleHull (a0 : Iv) (a1 : I64) : Fun Tryz.prog 172 [] #[vIv a0,vI a1] (vIv (I_circleHull a0 a1)) []:=by
 refine Fun.ofH 400 E_ok mixed Tryz.func172 (by kernel_rfl) (by kernel_rfl) ?_
 unfold I_circleHull
 refine Run.q (e:=vB) (gv:=vIv) (oi_areAngles _) fun r1 hr1=>?_
 refine Run.y (gv:=vIv) (fun h2=>?_) (fun h2=>?_)
 ·refine Run.q (e:=vIv) (gv:=vIv) (oi_ring) fun r3 hr3=>?_
  exact Run.x 0
 ·refine Run.q (e:=vIv) (gv:=vIv) (oi_circleValue _ _) fun r4 hr4=>?_
  refine Run.q (e:=vIv) (gv:=vIv) (oi_circleValue _ _) fun r5 hr5=>?_
  refine Run.q (e:=vIv) (gv:=vIv) (oi_HullI _ _) fun r6 hr6=>?_
  refine Run.bl (gv:=vIv) (by kernel_rfl) (by kernel_rfl) (oi_turnsIn _) (by kernel_rfl) (fun r7 hr7 nr7=>?_) (fun r7 hr7 cp_r7 pd_r7=>?_)
  ·subst nr7
   have e0 : I_circleHull_L0 (((([] : List I64).length : Nat) : Int).toNat + 1) a1 ([] : List I64) a0 (c64 0) r6 = r6:=by rw [I_circleHull_L0]; exact cond_false _ _
   show Run _ _ (RvH [] (vIv (I_circleHull_L0 (((([] : List I64).length : Nat) : Int).toNat + 1) a1 ([] : List I64) a0 (c64 0) r6))) _
   rw [e0]
   refine Run.u 400 E_ok mixed Tryz.func172 ?_
   refine Run.z [false] ?_
   exact Run.x 0
  ·have hl_r7 : ((r7.length : Nat) : Int) ≤ 4000:=by rw [hr7]; exact Int.ofNat_le.2 (len_impl_turnsIn _)
   exact Run.l (by kernel_rfl) (by kernel_rfl) (by kernel_rfl) (by kernel_rfl) (oi_circleHull_L0 (((r7.length : Nat) : Int).toNat + 1) cp_r7 pd_r7 a1 r7 a0 (c64 0) r6 (by first | omega | (simp only [w64_val,wu64_val,c64_val,cu64_val,decide_eq_true_eq,decide_eq_false_iff_not,cond_true,cond_false] at *; omega)) (by first | omega | (simp only [w64_val,wu64_val,c64_val,cu64_val,decide_eq_true_eq,decide_eq_false_iff_not,cond_true,cond_false] at *; omega)) (by first | omega | (simp only [w64_val,wu64_val,c64_val,cu64_val,decide_eq_true_eq,decide_eq_false_iff_not,cond_true,cond_false] at *; omega)))
theorem oi_SinI (a0 : Iv) : Fun Tryz.prog 134 [] #[vIv a0] (vIv (I_SinI a0)) []:=by
 refine Fun.ofH 400 E_ok mixed Tryz.func134 (by kernel_rfl) (by kernel_rfl) ?_
 unfold I_SinI
 refine Run.q (e:=vIv) (gv:=vIv) (oi_circleHull _ _) fun r1 _=>?_
 exact Run.x 0
theorem oi_FlatteningI_1__pEl (b0 : El) : Fun Tryz.prog 253 [(#[.int .i64 b0.a.val,.int .i64 b0.num.val,.int .i64 b0.den.val],44)] #[.pointer (some ⟨0,0,none⟩)] (vIv (I_FlatteningI_1__pEl b0)) [(#[.int .i64 b0.a.val,.int .i64 b0.num.val,.int .i64 b0.den.val],44)]:=by
 refine Fun.ofH 400 E_ok mixed Tryz.func253 (by kernel_rfl) (by kernel_rfl) ?_
 unfold I_FlatteningI_1__pEl
 refine Run.q (e:=vIv) (gv:=vIv) (oi_Quotient _ _) fun r1 _=>?_
 exact Run.x 1
theorem oi_ifValid__impl_FlatteningI_1_pEl (b0 : El) (a0 : El) : Fun Tryz.prog 207 [(#[.int .i64 b0.a.val,.int .i64 b0.num.val,.int .i64 b0.den.val],44)] #[vEl a0,.func (.func 253) #[] #[.pointer (some ⟨0,0,none⟩)]] (vIv (I_ifValid__impl_FlatteningI_1_pEl b0 a0)) [(#[.int .i64 b0.a.val,.int .i64 b0.num.val,.int .i64 b0.den.val],44)]:=by
 refine Fun.ofH 400 E_ok mixed Tryz.func207 (by kernel_rfl) (by kernel_rfl) ?_
 unfold I_ifValid__impl_FlatteningI_1_pEl
 refine Run.q (e:=vB) (gv:=vIv) (oi_ValidEllipsoid _) fun r1 _=>?_
 refine Run.y (gv:=vIv) (fun _=>?_) (fun _=>?_)
 ·refine Run.q (e:=vIv) (gv:=vIv) (oi_Whole) fun r2 _=>?_
  exact Run.x 1
 ·refine Run.w (e:=vIv) (gv:=vIv) [0] (oi_FlatteningI_1__pEl _) fun r3 _=>?_
  exact Run.x 1
theorem oi_FlatteningI (a0 : El) : Fun Tryz.prog 211 [] #[vEl a0] (vIv (I_FlatteningI a0)) []:=by
 refine Fun.ofH 400 E_ok mixed Tryz.func211 (by kernel_rfl) (by kernel_rfl) ?_
 unfold I_FlatteningI
 refine Run.w (e:=vIv) (gv:=vIv) [0] (oi_ifValid__impl_FlatteningI_1_pEl _ _) fun r1 _=>?_
 exact Run.x 0
theorem oi_EccI (a0 : El) : Fun Tryz.prog 146 [] #[vEl a0] (vIv (I_EccI a0)) []:=by
 refine Fun.ofH 400 E_ok mixed Tryz.func146 (by kernel_rfl) (by kernel_rfl) ?_
 unfold I_EccI
 refine Run.q (e:=vIv) (gv:=vIv) (oi_FlatteningI _) fun r1 _=>?_
 refine Run.q (e:=vIv) (gv:=vIv) (oi_Integer _) fun r2 _=>?_
 refine Run.q (e:=vIv) (gv:=vIv) (oi_SubI _ _) fun r3 _=>?_
 refine Run.q (e:=vIv) (gv:=vIv) (oi_MulI _ _) fun r4 _=>?_
 exact Run.x 0
theorem oi_oneLess (a0 : Iv) : Fun Tryz.prog 117 [] #[vIv a0] (vIv (I_oneLess a0)) []:=by
 refine Fun.ofH 400 E_ok mixed Tryz.func117 (by kernel_rfl) (by kernel_rfl) ?_
 unfold I_oneLess
 refine Run.q (e:=vIv) (gv:=vIv) (oi_Integer _) fun r1 _=>?_
 refine Run.q (e:=vIv) (gv:=vIv) (oi_SubI _ _) fun r2 _=>?_
 exact Run.x 0
theorem oi_weightOf (a0 : El) (a1 : Iv) : Fun Tryz.prog 137 [] #[vEl a0,vIv a1] (vIv (I_weightOf a0 a1)) []:=by
 refine Fun.ofH 400 E_ok mixed Tryz.func137 (by kernel_rfl) (by kernel_rfl) ?_
 unfold I_weightOf
 refine Run.q (e:=vIv) (gv:=vIv) (oi_EccI _) fun r1 _=>?_
 refine Run.q (e:=vIv) (gv:=vIv) (oi_SqrI _) fun r2 _=>?_
 refine Run.q (e:=vIv) (gv:=vIv) (oi_MulI _ _) fun r3 _=>?_
 refine Run.q (e:=vIv) (gv:=vIv) (oi_oneLess _) fun r4 _=>?_
 exact Run.x 0
theorem oi_WideSqrt_L0 : ∀ (fu : Nat) (a0 : Wd) (x_root : U64) (x_i : I64) (q0 : x_i.val ≤ 63) (hm : (x_i.val + 1).toNat < fu) (t : Array Value) (ht : maskA t [0,6,7,8,9,10,11,12,13,14,15,16,17,18,19,20,21,22,23,24,25,26,27,28,29,30,31,32,33,34,35,36,37,38,39,40,41,42,43,44,45] = #[undef,.pointer (some ⟨0,0,none⟩),.int .u64 0,.bool false,.int .u64 x_root.val,.int .i64 x_i.val,undef,undef,undef,undef,undef,undef,undef,undef,undef,undef,undef,undef,undef,undef,undef,undef,undef,undef,undef,undef,undef,undef,undef,undef,undef,undef,undef,undef,undef,undef,undef,undef,undef,undef,undef,undef,undef,undef,undef,undef]),Cfg Tryz.prog 284 (loopAt Tryz.f284 0) t [(#[.int .i64 a0.hi.val,.int .u64 a0.lo.val],150)] (RvH [] (vT_U_B (I_WideSqrt_L0 fu a0 x_root x_i))):=by
 intro fu
 induction fu with
 | zero=>intro a0 x_root x_i q0 hm; exact absurd hm (Nat.not_lt_zero _)
 | succ fu ih=>
  intro a0 x_root x_i q0 hm t ht
  refine Cfg.round E_ok mixed Tryz.func284 ht fun g=>?_
  unfold I_WideSqrt_L0
  refine Run.y (gv:=vT_U_B) (fun h2=>?_) (fun h2=>?_)
  ·refine Run.k (c:=(decide (0 ≤ x_i.val))) (by kernel_rfl) (by simp only [w64_val,wu64_val,c64_val,cu64_val,decide_eq_true_eq] at *; omega) ?_
   refine Run.q (e:=vT_U_U) (gv:=vT_U_B) (ok_bits_Mul64 _ _) fun r3 hr3=>?_
   refine Run.y (gv:=vT_U_B) (fun h4=>?_) (fun h4=>?_)
   ·refine Run.z [true,true,true,true,true,true,true,true] ?_
    exact Run.l (by kernel_rfl) (by kernel_rfl) (by kernel_rfl) (by kernel_rfl) (ih a0 (ior .u64 x_root.val (ishl .u64 1 x_i.val).val) (w64 (x_i.val - 1)) (by have q1:=x_i.lo; simp only [w64_val,wu64_val,c64_val,cu64_val,decide_eq_true_eq] at *; omega) (by have q1:=x_i.lo; simp only [w64_val,wu64_val,c64_val,cu64_val,decide_eq_true_eq] at *; omega))
   ·refine Run.z [false,false,false,false,false] ?_
    refine Run.y (gv:=vT_U_B) (fun h5=>?_) (fun h5=>?_)
    ·refine Run.z [true,true,true,false,true,false] ?_
     refine Run.y (gv:=vT_U_B) (fun h6=>?_) (fun h6=>?_)
     ·exact Run.l (by kernel_rfl) (by kernel_rfl) (by kernel_rfl) (by kernel_rfl) (ih a0 (ior .u64 x_root.val (ishl .u64 1 x_i.val).val) (w64 (x_i.val - 1)) (by have q1:=x_i.lo; simp only [w64_val,wu64_val,c64_val,cu64_val,decide_eq_true_eq] at *; omega) (by have q1:=x_i.lo; simp only [w64_val,wu64_val,c64_val,cu64_val,decide_eq_true_eq] at *; omega))
     ·exact Run.l (by kernel_rfl) (by kernel_rfl) (by kernel_rfl) (by kernel_rfl) (ih a0 x_root (w64 (x_i.val - 1)) (by have q1:=x_i.lo; simp only [w64_val,wu64_val,c64_val,cu64_val,decide_eq_true_eq] at *; omega) (by have q1:=x_i.lo; simp only [w64_val,wu64_val,c64_val,cu64_val,decide_eq_true_eq] at *; omega))
    ·refine Run.z [false,false,false,false,false,false,false] ?_
     exact Run.l (by kernel_rfl) (by kernel_rfl) (by kernel_rfl) (by kernel_rfl) (ih a0 x_root (w64 (x_i.val - 1)) (by have q1:=x_i.lo; simp only [w64_val,wu64_val,c64_val,cu64_val,decide_eq_true_eq] at *; omega) (by have q1:=x_i.lo; simp only [w64_val,wu64_val,c64_val,cu64_val,decide_eq_true_eq] at *; omega))
  ·exact Run.x 0
theorem oi_WideSqrt (a0 : Wd) : Fun Tryz.prog 284 [] #[vWd a0] (vT_U_B (I_WideSqrt a0)) []:=by
 refine Fun.ofH 400 E_ok mixed Tryz.func284 (by kernel_rfl) (by kernel_rfl) ?_
 unfold I_WideSqrt
 refine Run.y (gv:=vT_U_B) (fun h1=>?_) (fun h1=>?_)
 ·exact Run.x 0
 ·exact Run.l (by kernel_rfl) (by kernel_rfl) (by kernel_rfl) (by kernel_rfl) (oi_WideSqrt_L0 65 a0 (cu64 0) (c64 63) (by decide) (by decide))
theorem oi_SqrtFloor (a0 : I64) (a1 : I64) : Fun Tryz.prog 244 [] #[vI a0,vI a1] (vT_I_B (I_SqrtFloor a0 a1)) []:=by
 refine Fun.ofH 400 E_ok mixed Tryz.func244 (by kernel_rfl) (by kernel_rfl) ?_
 unfold I_SqrtFloor
 refine Run.y (gv:=vT_I_B) (fun _=>?_) (fun _=>?_)
 ·refine Run.z [true,true,true] ?_
  exact Run.x 0
 ·refine Run.z [false,false] ?_
  refine Run.y (gv:=vT_I_B) (fun _=>?_) (fun _=>?_)
  ·exact Run.x 0
  ·refine Run.q (e:=vWd) (gv:=vT_I_B) (oi_WideMul _ _) fun r1 _=>?_
   refine Run.q (e:=vT_U_B) (gv:=vT_I_B) (oi_WideSqrt _) fun r2 _=>?_
   exact Run.x 0
theorem oi_SqrtDown (a0 : I64) : Fun Tryz.prog 195 [] #[vI a0] (vT_I_B (I_SqrtDown a0)) []:=by
 refine Fun.ofH 400 E_ok mixed Tryz.func195 (by kernel_rfl) (by kernel_rfl) ?_
 unfold I_SqrtDown
 refine Run.q (e:=vB) (gv:=vT_I_B) (oi_ValidFix _) fun r1 _=>?_
 refine Run.y (gv:=vT_I_B) (fun _=>?_) (fun _=>?_)
 ·exact Run.x 0
 ·refine Run.q (e:=vT_I_B) (gv:=vT_I_B) (oi_SqrtFloor _ _) fun r2 _=>?_
  refine Run.q (e:=vT_I_B) (gv:=vT_I_B) (oi_fixed _ _) fun r3 _=>?_
  exact Run.x 0
theorem oi_SqrtUp (a0 : I64) : Fun Tryz.prog 196 [] #[vI a0] (vT_I_B (I_SqrtUp a0)) []:=by
 refine Fun.ofH 400 E_ok mixed Tryz.func196 (by kernel_rfl) (by kernel_rfl) ?_
 unfold I_SqrtUp
 refine Run.q (e:=vT_I_B) (gv:=vT_I_B) (oi_SqrtDown _) fun r1 _=>?_
 refine Run.y (gv:=vT_I_B) (fun _=>?_) (fun _=>?_)
 ·refine Run.z [true,true] ?_
  refine Run.q (e:=vWd) (gv:=vT_I_B) (oi_WideMul _ _) fun r2 _=>?_
  refine Run.z [true,true] ?_
  refine Run.q (e:=vWd) (gv:=vT_I_B) (oi_WideMul _ _) fun r3 _=>?_
  refine Run.z [true,true] ?_
  refine Run.y (gv:=vT_I_B) (fun _=>?_) (fun _=>?_)
  ·refine Run.q (e:=vT_I_B) (gv:=vT_I_B) (oi_fixed _ _) fun r4 _=>?_
   exact Run.x 0
  ·refine Run.q (e:=vT_I_B) (gv:=vT_I_B) (oi_fixed _ _) fun r5 _=>?_
   exact Run.x 0
 ·refine Run.z [false,false,false,false,false,false,false] ?_
  refine Run.q (e:=vT_I_B) (gv:=vT_I_B) (oi_fixed _ _) fun r6 _=>?_
  exact Run.x 0
theorem oi_SqrtI (a0 : Iv) : Fun Tryz.prog 116 [] #[vIv a0] (vIv (I_SqrtI a0)) []:=by
 refine Fun.ofH 400 E_ok mixed Tryz.func116 (by kernel_rfl) (by kernel_rfl) ?_
 unfold I_SqrtI
 refine Run.q (e:=vB) (gv:=vIv) (oi_IsWhole _) fun r1 _=>?_
 refine Run.y (gv:=vIv) (fun _=>?_) (fun _=>?_)
 ·refine Run.z [true,true,true,true] ?_
  refine Run.q (e:=vIv) (gv:=vIv) (oi_Whole) fun r2 _=>?_
  exact Run.x 0
 ·refine Run.z [false,false,false] ?_
  refine Run.y (gv:=vIv) (fun _=>?_) (fun _=>?_)
  ·refine Run.q (e:=vIv) (gv:=vIv) (oi_Whole) fun r3 _=>?_
   exact Run.x 0
  ·refine Run.q (e:=vT_I_B) (gv:=vIv) (oi_SqrtDown _) fun r4 _=>?_
   refine Run.q (e:=vT_I_B) (gv:=vIv) (oi_SqrtUp _) fun r5 _=>?_
   refine Run.y (gv:=vIv) (fun _=>?_) (fun _=>?_)
   ·refine Run.z [true] ?_
    refine Run.q (e:=vIv) (gv:=vIv) (oi_bounded _ _ _) fun r6 _=>?_
    exact Run.x 0
   ·refine Run.z [false] ?_
    refine Run.q (e:=vIv) (gv:=vIv) (oi_bounded _ _ _) fun r7 _=>?_
    exact Run.x 0
theorem oi_RadiusN (a0 : El) (a1 : Iv) : Fun Tryz.prog 144 [] #[vEl a0,vIv a1] (vIv (I_RadiusN a0 a1)) []:=by
 refine Fun.ofH 400 E_ok mixed Tryz.func144 (by kernel_rfl) (by kernel_rfl) ?_
 unfold I_RadiusN
 refine Run.q (e:=vIv) (gv:=vIv) (oi_MajorI _) fun r1 _=>?_
 refine Run.q (e:=vIv) (gv:=vIv) (oi_SinI _) fun r2 _=>?_
 refine Run.q (e:=vIv) (gv:=vIv) (oi_weightOf _ _) fun r3 _=>?_
 refine Run.q (e:=vIv) (gv:=vIv) (oi_SqrtI _) fun r4 _=>?_
 refine Run.q (e:=vIv) (gv:=vIv) (oi_DivI _ _) fun r5 _=>?_
 exact Run.x 0
theorem oi_HeightI (a0 : I64) : Fun Tryz.prog 145 [] #[vI a0] (vIv (I_HeightI a0)) []:=by
 refine Fun.ofH 400 E_ok mixed Tryz.func145 (by kernel_rfl) (by kernel_rfl) ?_
 unfold I_HeightI
 refine Run.q (e:=vB) (gv:=vIv) (oi_isHeight _) fun r1 _=>?_
 refine Run.y (gv:=vIv) (fun _=>?_) (fun _=>?_)
 ·refine Run.q (e:=vIv) (gv:=vIv) (oi_Whole) fun r2 _=>?_
  exact Run.x 0
 ·refine Run.q (e:=vIv) (gv:=vIv) (oi_Quotient _ _) fun r3 _=>?_
  exact Run.x 0
theorem oi_CosI (a0 : Iv) : Fun Tryz.prog 104 [] #[vIv a0] (vIv (I_CosI a0)) []:=by
 refine Fun.ofH 400 E_ok mixed Tryz.func104 (by kernel_rfl) (by kernel_rfl) ?_
 unfold I_CosI
 refine Run.q (e:=vIv) (gv:=vIv) (oi_circleHull _ _) fun r1 _=>?_
 exact Run.x 0
theorem oi_toCartesian (a0 : El) (a1 : Pl) : Fun Tryz.prog 71 [] #[vEl a0,vPl a1] (vVc (I_toCartesian a0 a1)) []:=by
 refine Fun.ofH 400 E_ok mixed Tryz.func71 (by kernel_rfl) (by kernel_rfl) ?_
 unfold I_toCartesian
 refine Run.q (e:=vIv) (gv:=vVc) (oi_LatOf _) fun r1 _=>?_
 refine Run.q (e:=vIv) (gv:=vVc) (oi_LonOf _) fun r2 _=>?_
 refine Run.q (e:=vIv) (gv:=vVc) (oi_RadiusN _ _) fun r3 _=>?_
 refine Run.q (e:=vIv) (gv:=vVc) (oi_HeightI _) fun r4 _=>?_
 refine Run.q (e:=vIv) (gv:=vVc) (oi_AddI _ _) fun r5 _=>?_
 refine Run.q (e:=vIv) (gv:=vVc) (oi_CosI _) fun r6 _=>?_
 refine Run.q (e:=vIv) (gv:=vVc) (oi_MulI _ _) fun r7 _=>?_
 refine Run.q (e:=vIv) (gv:=vVc) (oi_CosI _) fun r8 _=>?_
 refine Run.q (e:=vIv) (gv:=vVc) (oi_MulI _ _) fun r9 _=>?_
 refine Run.q (e:=vIv) (gv:=vVc) (oi_SinI _) fun r10 _=>?_
 refine Run.q (e:=vIv) (gv:=vVc) (oi_MulI _ _) fun r11 _=>?_
 refine Run.q (e:=vIv) (gv:=vVc) (oi_EccI _) fun r12 _=>?_
 refine Run.q (e:=vIv) (gv:=vVc) (oi_oneLess _) fun r13 _=>?_
 refine Run.q (e:=vIv) (gv:=vVc) (oi_MulI _ _) fun r14 _=>?_
 refine Run.q (e:=vIv) (gv:=vVc) (oi_AddI _ _) fun r15 _=>?_
 refine Run.q (e:=vIv) (gv:=vVc) (oi_SinI _) fun r16 _=>?_
 refine Run.q (e:=vIv) (gv:=vVc) (oi_MulI _ _) fun r17 _=>?_
 exact Run.x 0
theorem oi_DotV (a0 : Vc) (a1 : Vc) : Fun Tryz.prog 186 [] #[vVc a0,vVc a1] (vIv (I_DotV a0 a1)) []:=by
 refine Fun.ofH 400 E_ok mixed Tryz.func186 (by kernel_rfl) (by kernel_rfl) ?_
 unfold I_DotV
 refine Run.q (e:=vIv) (gv:=vIv) (oi_MulI _ _) fun r1 _=>?_
 refine Run.q (e:=vIv) (gv:=vIv) (oi_MulI _ _) fun r2 _=>?_
 refine Run.q (e:=vIv) (gv:=vIv) (oi_AddI _ _) fun r3 _=>?_
 refine Run.q (e:=vIv) (gv:=vIv) (oi_MulI _ _) fun r4 _=>?_
 refine Run.q (e:=vIv) (gv:=vIv) (oi_AddI _ _) fun r5 _=>?_
 exact Run.x 0
theorem oi_ApplyM (a0 : Mt) (a1 : Vc) : Fun Tryz.prog 140 [] #[vMt a0,vVc a1] (vVc (I_ApplyM a0 a1)) []:=by
 refine Fun.ofH 400 E_ok mixed Tryz.func140 (by kernel_rfl) (by kernel_rfl) ?_
 unfold I_ApplyM
 refine Run.q (e:=vIv) (gv:=vVc) (oi_DotV _ _) fun r1 _=>?_
 refine Run.q (e:=vIv) (gv:=vVc) (oi_DotV _ _) fun r2 _=>?_
 refine Run.q (e:=vIv) (gv:=vVc) (oi_DotV _ _) fun r3 _=>?_
 exact Run.x 0
theorem oi_AddV (a0 : Vc) (a1 : Vc) : Fun Tryz.prog 139 [] #[vVc a0,vVc a1] (vVc (I_AddV a0 a1)) []:=by
 refine Fun.ofH 400 E_ok mixed Tryz.func139 (by kernel_rfl) (by kernel_rfl) ?_
 unfold I_AddV
 refine Run.q (e:=vIv) (gv:=vVc) (oi_AddI _ _) fun r1 _=>?_
 refine Run.q (e:=vIv) (gv:=vVc) (oi_AddI _ _) fun r2 _=>?_
 refine Run.q (e:=vIv) (gv:=vVc) (oi_AddI _ _) fun r3 _=>?_
 exact Run.x 0
theorem oi_ApplyAffine (a0 : Af) (a1 : Vc) : Fun Tryz.prog 69 [] #[vAf a0,vVc a1] (vVc (I_ApplyAffine a0 a1)) []:=by
 refine Fun.ofH 400 E_ok mixed Tryz.func69 (by kernel_rfl) (by kernel_rfl) ?_
 unfold I_ApplyAffine
 refine Run.q (e:=vVc) (gv:=vVc) (oi_ApplyM _ _) fun r1 _=>?_
 refine Run.q (e:=vVc) (gv:=vVc) (oi_AddV _ _) fun r2 _=>?_
 exact Run.x 0
theorem oi_WideAdd (a0 : Wd) (a1 : Wd) : Fun Tryz.prog 283 [] #[vWd a0,vWd a1] (vT_Wd_B (I_WideAdd a0 a1)) []:=by
 refine Fun.ofH 400 E_ok mixed Tryz.func283 (by kernel_rfl) (by kernel_rfl) ?_
 unfold I_WideAdd
 refine Run.k (c:=(decide (0 ≤ (a0.lo.val : Int)) && (decide (0 ≤ (a1.lo.val : Int)) && (decide (0 ≤ (0 : Int)) && decide ((0 : Int) ≤ 1))))) (by kernel_rfl) (by simp only [Bool.and_eq_true,decide_eq_true_eq]; exact ⟨U64.lo a0.lo,U64.lo a1.lo,U64.lo (cu64 0),(by decide)⟩) ?_
 refine Run.k (c:=(decide (0 ≤ ((wu64 a0.hi.val).val : Int)) && (decide (0 ≤ ((wu64 a1.hi.val).val : Int)) && (decide (0 ≤ ((adc_hi a0.lo a1.lo (cu64 0)).val : Int)) && decide (((adc_hi a0.lo a1.lo (cu64 0)).val : Int) ≤ 1))))) (by kernel_rfl) (by simp only [Bool.and_eq_true,decide_eq_true_eq]; exact ⟨U64.lo (wu64 a0.hi.val),U64.lo (wu64 a1.hi.val),U64.lo (adc_hi a0.lo a1.lo (cu64 0)),(adc_hi_le _ _ _ (by decide))⟩) ?_
 refine Run.y (gv:=vT_Wd_B) (fun _=>?_) (fun _=>?_)
 ·exact Run.x 0
 ·exact Run.x 0
theorem oi_rootOfSquares (a0 : I64) (a1 : I64) (a2 : I64) : Fun Tryz.prog 240 [] #[vI a0,vI a1,vI a2] (vT_I_I (I_rootOfSquares a0 a1 a2)) []:=by
 refine Fun.ofH 400 E_ok mixed Tryz.func240 (by kernel_rfl) (by kernel_rfl) ?_
 unfold I_rootOfSquares
 refine Run.q (e:=vWd) (gv:=vT_I_I) (oi_WideMul _ _) fun r1 _=>?_
 refine Run.q (e:=vWd) (gv:=vT_I_I) (oi_WideMul _ _) fun r2 _=>?_
 refine Run.q (e:=vT_Wd_B) (gv:=vT_I_I) (oi_WideAdd _ _) fun r3 _=>?_
 refine Run.q (e:=vWd) (gv:=vT_I_I) (oi_WideMul _ _) fun r4 _=>?_
 refine Run.q (e:=vT_Wd_B) (gv:=vT_I_I) (oi_WideAdd _ _) fun r5 _=>?_
 refine Run.q (e:=vT_U_B) (gv:=vT_I_I) (oi_WideSqrt _) fun r6 _=>?_
 refine Run.q (e:=vWd) (gv:=vT_I_I) (oi_WideMul _ _) fun r7 _=>?_
 refine Run.y (gv:=vT_I_I) (fun _=>?_) (fun _=>?_)
 ·exact Run.x 0
 ·exact Run.x 0
theorem oi_NormV (a0 : Vc) : Fun Tryz.prog 184 [] #[vVc a0] (vIv (I_NormV a0)) []:=by
 refine Fun.ofH 400 E_ok mixed Tryz.func184 (by kernel_rfl) (by kernel_rfl) ?_
 unfold I_NormV
 refine Run.q (e:=vB) (gv:=vIv) (oi_areBounded _ _) fun r1 _=>?_
 refine Run.y (gv:=vIv) (fun _=>?_) (fun _=>?_)
 ·refine Run.z [true,true,true,true] ?_
  refine Run.q (e:=vIv) (gv:=vIv) (oi_Whole) fun r2 _=>?_
  exact Run.x 0
 ·refine Run.z [false,false] ?_
  refine Run.q (e:=vB) (gv:=vIv) (oi_IsWhole _) fun r3 _=>?_
  refine Run.z [false] ?_
  refine Run.y (gv:=vIv) (fun _=>?_) (fun _=>?_)
  ·refine Run.q (e:=vIv) (gv:=vIv) (oi_Whole) fun r4 _=>?_
   exact Run.x 0
  ·refine Run.q (e:=vIv) (gv:=vIv) (oi_AbsI _) fun r5 _=>?_
   refine Run.q (e:=vIv) (gv:=vIv) (oi_AbsI _) fun r6 _=>?_
   refine Run.q (e:=vIv) (gv:=vIv) (oi_AbsI _) fun r7 _=>?_
   refine Run.q (e:=vT_I_I) (gv:=vIv) (oi_rootOfSquares _ _ _) fun r8 _=>?_
   refine Run.q (e:=vT_I_I) (gv:=vIv) (oi_rootOfSquares _ _ _) fun r9 _=>?_
   refine Run.q (e:=vIv) (gv:=vIv) (oi_bounded _ _ _) fun r10 _=>?_
   exact Run.x 0
theorem oi_HalfI (a0 : Iv) : Fun Tryz.prog 187 [] #[vIv a0] (vIv (I_HalfI a0)) []:=by
 refine Fun.ofH 400 E_ok mixed Tryz.func187 (by kernel_rfl) (by kernel_rfl) ?_
 unfold I_HalfI
 refine Run.q (e:=vB) (gv:=vIv) (oi_IsWhole _) fun r1 _=>?_
 refine Run.y (gv:=vIv) (fun _=>?_) (fun _=>?_)
 ·refine Run.q (e:=vIv) (gv:=vIv) (oi_Whole) fun r2 _=>?_
  exact Run.x 0
 ·refine Run.z [true,true] ?_
  exact Run.x 0
theorem oi_LessI (a0 : Iv) (a1 : Iv) : Fun Tryz.prog 179 [] #[vIv a0,vIv a1] (vI (I_LessI a0 a1)) []:=by
 refine Fun.ofH 400 E_ok mixed Tryz.func179 (by kernel_rfl) (by kernel_rfl) ?_
 unfold I_LessI
 refine Run.q (e:=vB) (gv:=vI) (oi_areBounded _ _) fun r1 _=>?_
 refine Run.y (gv:=vI) (fun _=>?_) (fun _=>?_)
 ·exact Run.x 0
 ·refine Run.y (gv:=vI) (fun _=>?_) (fun _=>?_)
  ·exact Run.x 0
  ·refine Run.y (gv:=vI) (fun _=>?_) (fun _=>?_)
   ·exact Run.x 0
   ·exact Run.x 0
theorem oi_centreCode (a0 : El) (a1 : Vc) : Fun Tryz.prog 132 [] #[vEl a0,vVc a1] (vI (I_centreCode a0 a1)) []:=by
 refine Fun.ofH 400 E_ok mixed Tryz.func132 (by kernel_rfl) (by kernel_rfl) ?_
 unfold I_centreCode
 refine Run.q (e:=vB) (gv:=vI) (oi_ValidEllipsoid _) fun r1 _=>?_
 refine Run.y (gv:=vI) (fun _=>?_) (fun _=>?_)
 ·exact Run.x 0
 ·refine Run.q (e:=vIv) (gv:=vI) (oi_NormV _) fun r2 _=>?_
  refine Run.q (e:=vIv) (gv:=vI) (oi_MajorI _) fun r3 _=>?_
  refine Run.q (e:=vIv) (gv:=vI) (oi_HalfI _) fun r4 _=>?_
  refine Run.q (e:=vI) (gv:=vI) (oi_LessI _ _) fun r5 _=>?_
  refine Run.y (gv:=vI) (fun _=>?_) (fun _=>?_)
  ·exact Run.x 0
  ·refine Run.y (gv:=vI) (fun _=>?_) (fun _=>?_)
   ·exact Run.x 0
   ·exact Run.x 0
theorem oi_quarter : Fun Tryz.prog 205 [] #[] (vI (I_quarter)) []:=by
 refine Fun.ofH 400 E_ok mixed Tryz.func205 (by kernel_rfl) (by kernel_rfl) ?_
 unfold I_quarter
 refine Run.q (e:=vIv) (gv:=vI) (oi_TurnI _) fun r1 _=>?_
 exact Run.x 0
theorem oi_SinAt (a0 : I64) : Fun Tryz.prog 250 [] #[vI a0] (vIv (I_SinAt a0)) []:=by
 refine Fun.ofH 400 E_ok mixed Tryz.func250 (by kernel_rfl) (by kernel_rfl) ?_
 unfold I_SinAt
 refine Run.q (e:=vIv) (gv:=vIv) (oi_circleValue _ _) fun r1 _=>?_
 exact Run.x 0
theorem oi_CosAt (a0 : I64) : Fun Tryz.prog 251 [] #[vI a0] (vIv (I_CosAt a0)) []:=by
 refine Fun.ofH 400 E_ok mixed Tryz.func251 (by kernel_rfl) (by kernel_rfl) ?_
 unfold I_CosAt
 refine Run.q (e:=vIv) (gv:=vIv) (oi_circleValue _ _) fun r1 _=>?_
 exact Run.x 0
theorem oi_fromAxis (a0 : Vc) : Fun Tryz.prog 135 [] #[vVc a0] (vIv (I_fromAxis a0)) []:=by
 refine Fun.ofH 400 E_ok mixed Tryz.func135 (by kernel_rfl) (by kernel_rfl) ?_
 unfold I_fromAxis
 refine Run.q (e:=vIv) (gv:=vIv) (oi_NormV _) fun r1 _=>?_
 exact Run.x 0
theorem oi_SideAt (a0 : El) (a1 : Vc) (a2 : I64) : Fun Tryz.prog 206 [] #[vEl a0,vVc a1,vI a2] (vIv (I_SideAt a0 a1 a2)) []:=by
 refine Fun.ofH 400 E_ok mixed Tryz.func206 (by kernel_rfl) (by kernel_rfl) ?_
 unfold I_SideAt
 refine Run.q (e:=vB) (gv:=vIv) (oi_ValidEllipsoid _) fun r1 _=>?_
 refine Run.y (gv:=vIv) (fun _=>?_) (fun _=>?_)
 ·refine Run.q (e:=vIv) (gv:=vIv) (oi_Whole) fun r2 _=>?_
  exact Run.x 0
 ·refine Run.q (e:=vIv) (gv:=vIv) (oi_SinAt _) fun r3 _=>?_
  refine Run.q (e:=vIv) (gv:=vIv) (oi_CosAt _) fun r4 _=>?_
  refine Run.q (e:=vIv) (gv:=vIv) (oi_EccI _) fun r5 _=>?_
  refine Run.q (e:=vIv) (gv:=vIv) (oi_at _) fun r6 _=>?_
  refine Run.q (e:=vIv) (gv:=vIv) (oi_RadiusN _ _) fun r7 _=>?_
  refine Run.q (e:=vIv) (gv:=vIv) (oi_MulI _ _) fun r8 _=>?_
  refine Run.q (e:=vIv) (gv:=vIv) (oi_MulI _ _) fun r9 _=>?_
  refine Run.q (e:=vIv) (gv:=vIv) (oi_MulI _ _) fun r10 _=>?_
  refine Run.q (e:=vIv) (gv:=vIv) (oi_fromAxis _) fun r11 _=>?_
  refine Run.q (e:=vIv) (gv:=vIv) (oi_MulI _ _) fun r12 _=>?_
  refine Run.q (e:=vIv) (gv:=vIv) (oi_MulI _ _) fun r13 _=>?_
  refine Run.q (e:=vIv) (gv:=vIv) (oi_SubI _ _) fun r14 _=>?_
  refine Run.q (e:=vIv) (gv:=vIv) (oi_SubI _ _) fun r15 _=>?_
  exact Run.x 0
theorem oi_latitudeOf_L1 : ∀ (fu : Nat) (a0 : El) (a1 : Vc) (x_low : I64) (x_lowq : I64) (x_high : I64) (q0 : -6746518853 ≤ x_lowq.val) (q1 : x_lowq.val ≤ x_high.val) (q2 : x_high.val ≤ 6746518853) (hm : (x_high.val - x_lowq.val).toNat < fu) (t : Array Value) (ht : maskA t [0,1,7,9,10,11,12,13,14,15,16,17,18,19,20,21,22,23,24,25,26,27,28,29,30,31,32,33,34,35,36,37,38,39,40,41,42,43,44,45,46,47,48,49,50] = #[undef,undef,.pointer (some ⟨0,0,none⟩),.pointer (some ⟨1,0,none⟩),.pointer (some ⟨2,0,none⟩),.int .i64 x_lowq.val,.int .i64 x_high.val,undef,.pointer (some ⟨3,0,none⟩),undef,undef,undef,undef,undef,undef,undef,undef,undef,undef,undef,undef,undef,undef,undef,undef,undef,undef,undef,undef,undef,undef,undef,undef,undef,undef,undef,undef,undef,undef,undef,undef,undef,undef,undef,undef,undef,undef,undef,undef,undef,undef]),Cfg Tryz.prog 133 (loopAt Tryz.f133 1) t [(#[.int .i64 a0.a.val,.int .i64 a0.num.val,.int .i64 a0.den.val],44),(#[.int .i64 a1.x.lo.val,.int .i64 a1.x.hi.val,.int .i64 a1.y.lo.val,.int .i64 a1.y.hi.val,.int .i64 a1.z.lo.val,.int .i64 a1.z.hi.val],85),(#[.int .i64 0,.int .i64 0],31),(#[.int .i64 x_low.val,.int .i64 0],31)] (RvH [] (vIv (I_latitudeOf_L1 fu a0 a1 x_low x_lowq x_high))):=by
 intro fu
 induction fu with
 | zero=>intro a0 a1 x_low x_lowq x_high q0 q1 q2 hm; exact absurd hm (Nat.not_lt_zero _)
 | succ fu ih=>
  intro a0 a1 x_low x_lowq x_high q0 q1 q2 hm t ht
  refine Cfg.round E_ok mixed Tryz.func133 ht fun g=>?_
  unfold I_latitudeOf_L1
  refine Run.y (gv:=vIv) (fun h7=>?_) (fun h7=>?_)
  ·refine Run.z [true] ?_
   refine Run.q (e:=vIv) (gv:=vIv) (oi_SideAt _ _ _) fun r8 hr8=>?_
   refine Run.y (gv:=vIv) (fun h9=>?_) (fun h9=>?_)
   ·exact Run.l (by kernel_rfl) (by kernel_rfl) (by kernel_rfl) (by kernel_rfl) (ih a0 a1 x_low x_lowq (ishr (w64 (x_lowq.val + x_high.val)) 1) (by first | exact Nat.lt_succ_self _ | (simp only [shr1_val,w64_val,c64_val,decide_eq_true_eq,decide_eq_false_iff_not,cond_true,cond_false] at *; omega)) (by first | exact Nat.lt_succ_self _ | (simp only [shr1_val,w64_val,c64_val,decide_eq_true_eq,decide_eq_false_iff_not,cond_true,cond_false] at *; omega)) (by first | exact Nat.lt_succ_self _ | (simp only [shr1_val,w64_val,c64_val,decide_eq_true_eq,decide_eq_false_iff_not,cond_true,cond_false] at *; omega)) (by first | exact Nat.lt_succ_self _ | (simp only [shr1_val,w64_val,c64_val,decide_eq_true_eq,decide_eq_false_iff_not,cond_true,cond_false] at *; omega)))
   ·exact Run.l (by kernel_rfl) (by kernel_rfl) (by kernel_rfl) (by kernel_rfl) (ih a0 a1 x_low (ishr (w64 (x_lowq.val + x_high.val)) 1) x_high (by first | exact Nat.lt_succ_self _ | (simp only [shr1_val,w64_val,c64_val,decide_eq_true_eq,decide_eq_false_iff_not,cond_true,cond_false] at *; omega)) (by first | exact Nat.lt_succ_self _ | (simp only [shr1_val,w64_val,c64_val,decide_eq_true_eq,decide_eq_false_iff_not,cond_true,cond_false] at *; omega)) (by first | exact Nat.lt_succ_self _ | (simp only [shr1_val,w64_val,c64_val,decide_eq_true_eq,decide_eq_false_iff_not,cond_true,cond_false] at *; omega)) (by first | exact Nat.lt_succ_self _ | (simp only [shr1_val,w64_val,c64_val,decide_eq_true_eq,decide_eq_false_iff_not,cond_true,cond_false] at *; omega)))
  ·exact Run.x 0
theorem oi_latitudeOf_L0 : ∀ (fu : Nat) (a0 : El) (a1 : Vc) (x_low : I64) (x_high : I64) (q0 : -6746518853 ≤ x_low.val) (q1 : x_low.val ≤ x_high.val) (q2 : x_high.val ≤ 6746518853) (hm : (x_high.val - x_low.val).toNat < fu) (t : Array Value) (ht : maskA t [0,1,7,8,9,10,11,12,13,14,15,16,17,18,19,20,21,22,23,24,25,26,27,28,29,30,31,32,33,34,35,36,37,38,39,40,41,42,43,44,45,46,47,48,49,50] = #[undef,undef,.pointer (some ⟨0,0,none⟩),.pointer (some ⟨1,0,none⟩),.pointer (some ⟨2,0,none⟩),.int .i64 x_low.val,.int .i64 x_high.val,undef,undef,undef,undef,undef,undef,undef,undef,undef,undef,undef,undef,undef,undef,undef,undef,undef,undef,undef,undef,undef,undef,undef,undef,undef,undef,undef,undef,undef,undef,undef,undef,undef,undef,undef,undef,undef,undef,undef,undef,undef,undef,undef,undef]),Cfg Tryz.prog 133 (loopAt Tryz.f133 0) t [(#[.int .i64 a0.a.val,.int .i64 a0.num.val,.int .i64 a0.den.val],44),(#[.int .i64 a1.x.lo.val,.int .i64 a1.x.hi.val,.int .i64 a1.y.lo.val,.int .i64 a1.y.hi.val,.int .i64 a1.z.lo.val,.int .i64 a1.z.hi.val],85),(#[.int .i64 0,.int .i64 0],31)] (RvH [] (vIv (I_latitudeOf_L0 fu a0 a1 x_low x_high))):=by
 intro fu
 induction fu with
 | zero=>intro a0 a1 x_low x_high q0 q1 q2 hm; exact absurd hm (Nat.not_lt_zero _)
 | succ fu ih=>
  intro a0 a1 x_low x_high q0 q1 q2 hm t ht
  refine Cfg.round E_ok mixed Tryz.func133 ht fun g=>?_
  unfold I_latitudeOf_L0
  refine Run.y (gv:=vIv) (fun h3=>?_) (fun h3=>?_)
  ·refine Run.z [true] ?_
   refine Run.q (e:=vIv) (gv:=vIv) (oi_SideAt _ _ _) fun r4 hr4=>?_
   refine Run.y (gv:=vIv) (fun h5=>?_) (fun h5=>?_)
   ·exact Run.l (by kernel_rfl) (by kernel_rfl) (by kernel_rfl) (by kernel_rfl) (ih a0 a1 (ishr (w64 (x_low.val + x_high.val)) 1) x_high (by first | exact Nat.lt_succ_self _ | (simp only [shr1_val,w64_val,c64_val,decide_eq_true_eq,decide_eq_false_iff_not,cond_true,cond_false] at *; omega)) (by first | exact Nat.lt_succ_self _ | (simp only [shr1_val,w64_val,c64_val,decide_eq_true_eq,decide_eq_false_iff_not,cond_true,cond_false] at *; omega)) (by first | exact Nat.lt_succ_self _ | (simp only [shr1_val,w64_val,c64_val,decide_eq_true_eq,decide_eq_false_iff_not,cond_true,cond_false] at *; omega)) (by first | exact Nat.lt_succ_self _ | (simp only [shr1_val,w64_val,c64_val,decide_eq_true_eq,decide_eq_false_iff_not,cond_true,cond_false] at *; omega)))
   ·exact Run.l (by kernel_rfl) (by kernel_rfl) (by kernel_rfl) (by kernel_rfl) (ih a0 a1 x_low (ishr (w64 (x_low.val + x_high.val)) 1) (by first | exact Nat.lt_succ_self _ | (simp only [shr1_val,w64_val,c64_val,decide_eq_true_eq,decide_eq_false_iff_not,cond_true,cond_false] at *; omega)) (by first | exact Nat.lt_succ_self _ | (simp only [shr1_val,w64_val,c64_val,decide_eq_true_eq,decide_eq_false_iff_not,cond_true,cond_false] at *; omega)) (by first | exact Nat.lt_succ_self _ | (simp only [shr1_val,w64_val,c64_val,decide_eq_true_eq,decide_eq_false_iff_not,cond_true,cond_false] at *; omega)) (by first | exact Nat.lt_succ_self _ | (simp only [shr1_val,w64_val,c64_val,decide_eq_true_eq,decide_eq_false_iff_not,cond_true,cond_false] at *; omega)))
  ·refine Run.q (e:=vI) (gv:=vIv) (oi_quarter) fun r6 hr6=>?_
   exact Run.l (by kernel_rfl) (by kernel_rfl) (by kernel_rfl) (by kernel_rfl) (oi_latitudeOf_L1 ((r6.val - x_low.val).toNat + 1) a0 a1 x_low x_low r6 (by first | exact Nat.lt_succ_self _ | (have z:=impl_quarter1; rw [← hr6] at z; omega) | (have z:=impl_quarter1; (try simp only [w64_val]); subst_vars; (try simp only [w64_val]); omega)) (by first | exact Nat.lt_succ_self _ | (have z:=impl_quarter1; rw [← hr6] at z; omega) | (have z:=impl_quarter1; (try simp only [w64_val]); subst_vars; (try simp only [w64_val]); omega)) (by first | exact Nat.lt_succ_self _ | (have z:=impl_quarter1; rw [← hr6] at z; omega) | (have z:=impl_quarter1; (try simp only [w64_val]); subst_vars; (try simp only [w64_val]); omega)) (by first | exact Nat.lt_succ_self _ | (have z:=impl_quarter1; rw [← hr6] at z; omega) | (have z:=impl_quarter1; (try simp only [w64_val]); subst_vars; (try simp only [w64_val]); omega)))
theorem oi_latitudeOf (a0 : El) (a1 : Vc) : Fun Tryz.prog 133 [] #[vEl a0,vVc a1] (vIv (I_latitudeOf a0 a1)) []:=by
 refine Fun.ofH 400 E_ok mixed Tryz.func133 (by kernel_rfl) (by kernel_rfl) ?_
 unfold I_latitudeOf
 refine Run.q (e:=vI) (gv:=vIv) (oi_quarter) fun r1 hr1=>?_
 refine Run.q (e:=vI) (gv:=vIv) (oi_quarter) fun r2 hr2=>?_
 exact Run.l (by kernel_rfl) (by kernel_rfl) (by kernel_rfl) (by kernel_rfl) (oi_latitudeOf_L0 ((r2.val - (w64 (0 - r1.val)).val).toNat + 1) a0 a1 (w64 (0 - r1.val)) r2 (by first | exact Nat.lt_succ_self _ | (have z:=impl_quarter1; rw [← hr6] at z; omega) | (have z:=impl_quarter1; (try simp only [w64_val]); subst_vars; (try simp only [w64_val]); omega)) (by first | exact Nat.lt_succ_self _ | (have z:=impl_quarter1; rw [← hr6] at z; omega) | (have z:=impl_quarter1; (try simp only [w64_val]); subst_vars; (try simp only [w64_val]); omega)) (by first | exact Nat.lt_succ_self _ | (have z:=impl_quarter1; rw [← hr6] at z; omega) | (have z:=impl_quarter1; (try simp only [w64_val]); subst_vars; (try simp only [w64_val]); omega)) (by first | exact Nat.lt_succ_self _ | (have z:=impl_quarter1; rw [← hr6] at z; omega) | (have z:=impl_quarter1; (try simp only [w64_val]); subst_vars; (try simp only [w64_val]); omega)))
theorem oi_isOpen (a0 : I64) : Fun Tryz.prog 252 [] #[vI a0] (vB (I_isOpen a0)) []:=by
 refine Fun.ofH 400 E_ok mixed Tryz.func252 (by kernel_rfl) (by kernel_rfl) ?_
 unfold I_isOpen
 refine Run.y (gv:=vB) (fun _=>?_) (fun _=>?_)
 ·refine Run.z [true,true] ?_
  exact Run.x 0
 ·refine Run.z [false,false] ?_
  exact Run.x 0
theorem oi_halfCircle : Fun Tryz.prog 204 [] #[] (vIv (I_halfCircle)) []:=by
 refine Fun.ofH 400 E_ok mixed Tryz.func204 (by kernel_rfl) (by kernel_rfl) ?_
 unfold I_halfCircle
 refine Run.q (e:=vIv) (gv:=vIv) (oi_TurnI _) fun r1 _=>?_
 refine Run.q (e:=vIv) (gv:=vIv) (oi_TurnI _) fun r2 _=>?_
 exact Run.x 0
theorem oi_halved (a0 : Iv) : Fun Tryz.prog 312 [] #[vIv a0] (vIv (I_halved a0)) []:=by
 refine Fun.ofH 400 E_ok mixed Tryz.func312 (by kernel_rfl) (by kernel_rfl) ?_
 unfold I_halved
 refine Run.q (e:=vIv) (gv:=vIv) (oi_Integer _) fun r1 _=>?_
 refine Run.q (e:=vIv) (gv:=vIv) (oi_Integer _) fun r2 _=>?_
 refine Run.q (e:=vIv) (gv:=vIv) (oi_SqrI _) fun r3 _=>?_
 refine Run.q (e:=vIv) (gv:=vIv) (oi_AddI _ _) fun r4 _=>?_
 refine Run.q (e:=vIv) (gv:=vIv) (oi_SqrtI _) fun r5 _=>?_
 refine Run.q (e:=vIv) (gv:=vIv) (oi_AddI _ _) fun r6 _=>?_
 refine Run.q (e:=vIv) (gv:=vIv) (oi_DivI _ _) fun r7 _=>?_
 exact Run.x 0
theorem oi_ArcSeries (a0 : Iv) : Fun Tryz.prog 311 [] #[vIv a0] (vIv (I_ArcSeries a0)) []:=by
 refine Fun.ofH 400 E_ok mixed Tryz.func311 (by kernel_rfl) (by kernel_rfl) ?_
 unfold I_ArcSeries
 refine Run.q (e:=vB) (gv:=vIv) (oi_InsideI _ _) fun r1 _=>?_
 refine Run.y (gv:=vIv) (fun _=>?_) (fun _=>?_)
 ·refine Run.q (e:=vIv) (gv:=vIv) (oi_Whole) fun r2 _=>?_
  exact Run.x 0
 ·refine Run.q (e:=vIv) (gv:=vIv) (oi_SqrI _) fun r3 _=>?_
  refine Run.q (e:=vIv) (gv:=vIv) (oi_Quotient _ _) fun r4 _=>?_
  refine Run.u 400 E_ok mixed Tryz.func311 ?_
  refine Run.z [true] ?_
  refine Run.q (e:=vIv) (gv:=vIv) (oi_Quotient _ _) fun r5 _=>?_
  refine Run.q (e:=vIv) (gv:=vIv) (oi_MulI _ _) fun r6 _=>?_
  refine Run.q (e:=vIv) (gv:=vIv) (oi_SubI _ _) fun r7 _=>?_
  refine Run.u 400 E_ok mixed Tryz.func311 ?_
  refine Run.z [true] ?_
  refine Run.q (e:=vIv) (gv:=vIv) (oi_Quotient _ _) fun r8 _=>?_
  refine Run.q (e:=vIv) (gv:=vIv) (oi_MulI _ _) fun r9 _=>?_
  refine Run.q (e:=vIv) (gv:=vIv) (oi_SubI _ _) fun r10 _=>?_
  refine Run.u 400 E_ok mixed Tryz.func311 ?_
  refine Run.z [true] ?_
  refine Run.q (e:=vIv) (gv:=vIv) (oi_Quotient _ _) fun r11 _=>?_
  refine Run.q (e:=vIv) (gv:=vIv) (oi_MulI _ _) fun r12 _=>?_
  refine Run.q (e:=vIv) (gv:=vIv) (oi_SubI _ _) fun r13 _=>?_
  refine Run.u 400 E_ok mixed Tryz.func311 ?_
  refine Run.z [true] ?_
  refine Run.q (e:=vIv) (gv:=vIv) (oi_Quotient _ _) fun r14 _=>?_
  refine Run.q (e:=vIv) (gv:=vIv) (oi_MulI _ _) fun r15 _=>?_
  refine Run.q (e:=vIv) (gv:=vIv) (oi_SubI _ _) fun r16 _=>?_
  refine Run.u 400 E_ok mixed Tryz.func311 ?_
  refine Run.z [true] ?_
  refine Run.q (e:=vIv) (gv:=vIv) (oi_Quotient _ _) fun r17 _=>?_
  refine Run.q (e:=vIv) (gv:=vIv) (oi_MulI _ _) fun r18 _=>?_
  refine Run.q (e:=vIv) (gv:=vIv) (oi_SubI _ _) fun r19 _=>?_
  refine Run.u 400 E_ok mixed Tryz.func311 ?_
  refine Run.z [true] ?_
  refine Run.q (e:=vIv) (gv:=vIv) (oi_Quotient _ _) fun r20 _=>?_
  refine Run.q (e:=vIv) (gv:=vIv) (oi_MulI _ _) fun r21 _=>?_
  refine Run.q (e:=vIv) (gv:=vIv) (oi_SubI _ _) fun r22 _=>?_
  refine Run.u 400 E_ok mixed Tryz.func311 ?_
  refine Run.z [true] ?_
  refine Run.q (e:=vIv) (gv:=vIv) (oi_Quotient _ _) fun r23 _=>?_
  refine Run.q (e:=vIv) (gv:=vIv) (oi_MulI _ _) fun r24 _=>?_
  refine Run.q (e:=vIv) (gv:=vIv) (oi_SubI _ _) fun r25 _=>?_
  refine Run.u 400 E_ok mixed Tryz.func311 ?_
  refine Run.z [true] ?_
  refine Run.q (e:=vIv) (gv:=vIv) (oi_Quotient _ _) fun r26 _=>?_
  refine Run.q (e:=vIv) (gv:=vIv) (oi_MulI _ _) fun r27 _=>?_
  refine Run.q (e:=vIv) (gv:=vIv) (oi_SubI _ _) fun r28 _=>?_
  refine Run.u 400 E_ok mixed Tryz.func311 ?_
  refine Run.z [true] ?_
  refine Run.q (e:=vIv) (gv:=vIv) (oi_Quotient _ _) fun r29 _=>?_
  refine Run.q (e:=vIv) (gv:=vIv) (oi_MulI _ _) fun r30 _=>?_
  refine Run.q (e:=vIv) (gv:=vIv) (oi_SubI _ _) fun r31 _=>?_
  refine Run.u 400 E_ok mixed Tryz.func311 ?_
  refine Run.z [true] ?_
  refine Run.q (e:=vIv) (gv:=vIv) (oi_Quotient _ _) fun r32 _=>?_
  refine Run.q (e:=vIv) (gv:=vIv) (oi_MulI _ _) fun r33 _=>?_
  refine Run.q (e:=vIv) (gv:=vIv) (oi_SubI _ _) fun r34 _=>?_
  refine Run.u 400 E_ok mixed Tryz.func311 ?_
  refine Run.z [false] ?_
  refine Run.q (e:=vIv) (gv:=vIv) (oi_MulI _ _) fun r35 _=>?_
  refine Run.q (e:=vIv) (gv:=vIv) (oi_tiny) fun r36 _=>?_
  refine Run.q (e:=vIv) (gv:=vIv) (oi_AddI _ _) fun r37 _=>?_
  exact Run.x 0
theorem oi_DoubleI (a0 : Iv) : Fun Tryz.prog 200 [] #[vIv a0] (vIv (I_DoubleI a0)) []:=by
 refine Fun.ofH 400 E_ok mixed Tryz.func200 (by kernel_rfl) (by kernel_rfl) ?_
 unfold I_DoubleI
 refine Run.q (e:=vIv) (gv:=vIv) (oi_AddI _ _) fun r1 _=>?_
 exact Run.x 0
theorem oi_fourfold (a0 : Iv) : Fun Tryz.prog 290 [] #[vIv a0] (vIv (I_fourfold a0)) []:=by
 refine Fun.ofH 400 E_ok mixed Tryz.func290 (by kernel_rfl) (by kernel_rfl) ?_
 unfold I_fourfold
 refine Run.q (e:=vIv) (gv:=vIv) (oi_halved _) fun r1 _=>?_
 refine Run.q (e:=vIv) (gv:=vIv) (oi_halved _) fun r2 _=>?_
 refine Run.q (e:=vIv) (gv:=vIv) (oi_ArcSeries _) fun r3 _=>?_
 refine Run.q (e:=vIv) (gv:=vIv) (oi_DoubleI _) fun r4 _=>?_
 refine Run.q (e:=vIv) (gv:=vIv) (oi_DoubleI _) fun r5 _=>?_
 exact Run.x 0
theorem oi_AtanAt_r : ∀ (fu : Nat) (a0 : I64) (hm : min (0 - a0.val).toNat 1 < fu),Fun Tryz.prog 249 [] #[vI a0] (vIv (I_AtanAt_r fu a0)) []:=by
 intro fu
 induction fu with
 | zero=>intro a0 hm; exact absurd hm (Nat.not_lt_zero _)
 | succ fu ih=>
  intro a0 hm
  refine Fun.ofH 400 E_ok mixed Tryz.func249 (by kernel_rfl) (by kernel_rfl) ?_
  unfold I_AtanAt_r
  unfold I_AtanAt_b
  refine Run.q (e:=vB) (gv:=vIv) (oi_isOpen _) fun r1 hr1=>?_
  refine Run.y (gv:=vIv) (fun h2=>?_) (fun h2=>?_)
  ·refine Run.q (e:=vIv) (gv:=vIv) (oi_halfCircle) fun r3 hr3=>?_
   exact Run.x 0
  ·refine Run.y (gv:=vIv) (fun h4=>?_) (fun h4=>?_)
   ·refine Run.q (e:=vIv) (gv:=vIv) (ih (w64 (0 - a0.val)) (by rw [hr1] at h2; simp [I_isOpen,c64_val] at h2; simp only [w64_val,decide_eq_true_eq,decide_eq_false_iff_not] at *; omega)) fun r5 hr5=>?_
    refine Run.q (e:=vIv) (gv:=vIv) (oi_NegI _) fun r6 hr6=>?_
    exact Run.x 0
   ·refine Run.y (gv:=vIv) (fun h7=>?_) (fun h7=>?_)
    ·refine Run.q (e:=vIv) (gv:=vIv) (oi_TurnI _) fun r8 hr8=>?_
     refine Run.q (e:=vIv) (gv:=vIv) (oi_Integer _) fun r9 hr9=>?_
     refine Run.q (e:=vIv) (gv:=vIv) (oi_at _) fun r10 hr10=>?_
     refine Run.q (e:=vIv) (gv:=vIv) (oi_DivI _ _) fun r11 hr11=>?_
     refine Run.q (e:=vIv) (gv:=vIv) (oi_fourfold _) fun r12 hr12=>?_
     refine Run.q (e:=vIv) (gv:=vIv) (oi_SubI _ _) fun r13 hr13=>?_
     exact Run.x 0
    ·refine Run.q (e:=vIv) (gv:=vIv) (oi_at _) fun r14 hr14=>?_
     refine Run.q (e:=vIv) (gv:=vIv) (oi_fourfold _) fun r15 hr15=>?_
     exact Run.x 0
theorem oi_AtanAt (a0 : I64) : Fun Tryz.prog 249 [] #[vI a0] (vIv (I_AtanAt a0)) []:=oi_AtanAt_r 2 a0 (by omega)
theorem oi_AtanI (a0 : Iv) : Fun Tryz.prog 201 [] #[vIv a0] (vIv (I_AtanI a0)) []:=by
 refine Fun.ofH 400 E_ok mixed Tryz.func201 (by kernel_rfl) (by kernel_rfl) ?_
 unfold I_AtanI
 refine Run.q (e:=vB) (gv:=vIv) (oi_IsWhole _) fun r1 _=>?_
 refine Run.y (gv:=vIv) (fun _=>?_) (fun _=>?_)
 ·refine Run.q (e:=vIv) (gv:=vIv) (oi_halfCircle) fun r2 _=>?_
  exact Run.x 0
 ·refine Run.q (e:=vIv) (gv:=vIv) (oi_AtanAt _) fun r3 _=>?_
  refine Run.q (e:=vIv) (gv:=vIv) (oi_AtanAt _) fun r4 _=>?_
  refine Run.q (e:=vIv) (gv:=vIv) (oi_HullI _ _) fun r5 _=>?_
  exact Run.x 0
theorem oi_DirectionAt (a0 : I64) (a1 : I64) : Fun Tryz.prog 209 [] #[vI a0,vI a1] (vIv (I_DirectionAt a0 a1)) []:=by
 refine Fun.ofH 400 E_ok mixed Tryz.func209 (by kernel_rfl) (by kernel_rfl) ?_
 unfold I_DirectionAt
 refine Run.q (e:=vB) (gv:=vIv) (oi_isOpen _) fun r1 _=>?_
 refine Run.y (gv:=vIv) (fun _=>?_) (fun _=>?_)
 ·refine Run.z [true,true,true,true,true,true,true,true,true] ?_
  refine Run.q (e:=vIv) (gv:=vIv) (oi_Whole) fun r2 _=>?_
  exact Run.x 0
 ·refine Run.z [false] ?_
  refine Run.q (e:=vB) (gv:=vIv) (oi_isOpen _) fun r3 _=>?_
  refine Run.z [false,false] ?_
  refine Run.y (gv:=vIv) (fun _=>?_) (fun _=>?_)
  ·refine Run.z [true,true,true,true,true] ?_
   refine Run.q (e:=vIv) (gv:=vIv) (oi_Whole) fun r4 _=>?_
   exact Run.x 0
  ·refine Run.z [false,false] ?_
   refine Run.y (gv:=vIv) (fun _=>?_) (fun _=>?_)
   ·refine Run.z [true,false,true,false] ?_
    refine Run.y (gv:=vIv) (fun _=>?_) (fun _=>?_)
    ·refine Run.q (e:=vIv) (gv:=vIv) (oi_Whole) fun r5 _=>?_
     exact Run.x 0
    ·refine Run.q (e:=vI) (gv:=vIv) (oi_abs _) fun r6 _=>?_
     refine Run.q (e:=vI) (gv:=vIv) (oi_abs _) fun r7 _=>?_
     refine Run.y (gv:=vIv) (fun _=>?_) (fun _=>?_)
     ·refine Run.q (e:=vIv) (gv:=vIv) (oi_TurnI _) fun r8 _=>?_
      refine Run.y (gv:=vIv) (fun _=>?_) (fun _=>?_)
      ·refine Run.q (e:=vIv) (gv:=vIv) (oi_TurnI _) fun r9 _=>?_
       refine Run.q (e:=vIv) (gv:=vIv) (oi_at _) fun r10 _=>?_
       refine Run.q (e:=vIv) (gv:=vIv) (oi_at _) fun r11 _=>?_
       refine Run.q (e:=vIv) (gv:=vIv) (oi_DivI _ _) fun r12 _=>?_
       refine Run.q (e:=vIv) (gv:=vIv) (oi_AtanI _) fun r13 _=>?_
       refine Run.q (e:=vIv) (gv:=vIv) (oi_SubI _ _) fun r14 _=>?_
       exact Run.x 0
      ·refine Run.q (e:=vIv) (gv:=vIv) (oi_at _) fun r15 _=>?_
       refine Run.q (e:=vIv) (gv:=vIv) (oi_at _) fun r16 _=>?_
       refine Run.q (e:=vIv) (gv:=vIv) (oi_DivI _ _) fun r17 _=>?_
       refine Run.q (e:=vIv) (gv:=vIv) (oi_AtanI _) fun r18 _=>?_
       refine Run.q (e:=vIv) (gv:=vIv) (oi_SubI _ _) fun r19 _=>?_
       exact Run.x 0
     ·refine Run.q (e:=vIv) (gv:=vIv) (oi_at _) fun r20 _=>?_
      refine Run.q (e:=vIv) (gv:=vIv) (oi_at _) fun r21 _=>?_
      refine Run.q (e:=vIv) (gv:=vIv) (oi_DivI _ _) fun r22 _=>?_
      refine Run.q (e:=vIv) (gv:=vIv) (oi_AtanI _) fun r23 _=>?_
      refine Run.y (gv:=vIv) (fun _=>?_) (fun _=>?_)
      ·exact Run.x 0
      ·refine Run.y (gv:=vIv) (fun _=>?_) (fun _=>?_)
       ·refine Run.q (e:=vIv) (gv:=vIv) (oi_TurnI _) fun r24 _=>?_
        refine Run.q (e:=vIv) (gv:=vIv) (oi_AddI _ _) fun r25 _=>?_
        exact Run.x 0
       ·refine Run.q (e:=vIv) (gv:=vIv) (oi_TurnI _) fun r26 _=>?_
        refine Run.q (e:=vIv) (gv:=vIv) (oi_AddI _ _) fun r27 _=>?_
        exact Run.x 0
   ·refine Run.z [false,false,false,false,false] ?_
    refine Run.q (e:=vI) (gv:=vIv) (oi_abs _) fun r28 _=>?_
    refine Run.q (e:=vI) (gv:=vIv) (oi_abs _) fun r29 _=>?_
    refine Run.y (gv:=vIv) (fun _=>?_) (fun _=>?_)
    ·refine Run.q (e:=vIv) (gv:=vIv) (oi_TurnI _) fun r30 _=>?_
     refine Run.y (gv:=vIv) (fun _=>?_) (fun _=>?_)
     ·refine Run.q (e:=vIv) (gv:=vIv) (oi_TurnI _) fun r31 _=>?_
      refine Run.q (e:=vIv) (gv:=vIv) (oi_at _) fun r32 _=>?_
      refine Run.q (e:=vIv) (gv:=vIv) (oi_at _) fun r33 _=>?_
      refine Run.q (e:=vIv) (gv:=vIv) (oi_DivI _ _) fun r34 _=>?_
      refine Run.q (e:=vIv) (gv:=vIv) (oi_AtanI _) fun r35 _=>?_
      refine Run.q (e:=vIv) (gv:=vIv) (oi_SubI _ _) fun r36 _=>?_
      exact Run.x 0
     ·refine Run.q (e:=vIv) (gv:=vIv) (oi_at _) fun r37 _=>?_
      refine Run.q (e:=vIv) (gv:=vIv) (oi_at _) fun r38 _=>?_
      refine Run.q (e:=vIv) (gv:=vIv) (oi_DivI _ _) fun r39 _=>?_
      refine Run.q (e:=vIv) (gv:=vIv) (oi_AtanI _) fun r40 _=>?_
      refine Run.q (e:=vIv) (gv:=vIv) (oi_SubI _ _) fun r41 _=>?_
      exact Run.x 0
    ·refine Run.q (e:=vIv) (gv:=vIv) (oi_at _) fun r42 _=>?_
     refine Run.q (e:=vIv) (gv:=vIv) (oi_at _) fun r43 _=>?_
     refine Run.q (e:=vIv) (gv:=vIv) (oi_DivI _ _) fun r44 _=>?_
     refine Run.q (e:=vIv) (gv:=vIv) (oi_AtanI _) fun r45 _=>?_
     refine Run.y (gv:=vIv) (fun _=>?_) (fun _=>?_)
     ·exact Run.x 0
     ·refine Run.y (gv:=vIv) (fun _=>?_) (fun _=>?_)
      ·refine Run.q (e:=vIv) (gv:=vIv) (oi_TurnI _) fun r46 _=>?_
       refine Run.q (e:=vIv) (gv:=vIv) (oi_AddI _ _) fun r47 _=>?_
       exact Run.x 0
      ·refine Run.q (e:=vIv) (gv:=vIv) (oi_TurnI _) fun r48 _=>?_
       refine Run.q (e:=vIv) (gv:=vIv) (oi_AddI _ _) fun r49 _=>?_
       exact Run.x 0
theorem oi_DirectionI (a0 : Iv) (a1 : Iv) : Fun Tryz.prog 138 [] #[vIv a0,vIv a1] (vIv (I_DirectionI a0 a1)) []:=by
 refine Fun.ofH 400 E_ok mixed Tryz.func138 (by kernel_rfl) (by kernel_rfl) ?_
 unfold I_DirectionI
 refine Run.q (e:=vB) (gv:=vIv) (oi_areBounded _ _) fun r1 _=>?_
 refine Run.y (gv:=vIv) (fun _=>?_) (fun _=>?_)
 ·refine Run.z [true,true,true,true,true,true,true,true,true,true,true,true,true] ?_
  refine Run.q (e:=vIv) (gv:=vIv) (oi_Whole) fun r2 _=>?_
  exact Run.x 0
 ·refine Run.z [false] ?_
  refine Run.q (e:=vB) (gv:=vIv) (oi_HasI _ _) fun r3 _=>?_
  refine Run.z [false] ?_
  refine Run.y (gv:=vIv) (fun _=>?_) (fun _=>?_)
  ·refine Run.z [true] ?_
   refine Run.q (e:=vB) (gv:=vIv) (oi_HasI _ _) fun r4 _=>?_
   refine Run.z [false,true,false] ?_
   refine Run.y (gv:=vIv) (fun _=>?_) (fun _=>?_)
   ·refine Run.z [true,true,true,true,true,true,true,true] ?_
    refine Run.q (e:=vIv) (gv:=vIv) (oi_Whole) fun r5 _=>?_
    exact Run.x 0
   ·refine Run.z [false,false,false] ?_
    refine Run.y (gv:=vIv) (fun _=>?_) (fun _=>?_)
    ·refine Run.z [true,true,false,true,false] ?_
     refine Run.y (gv:=vIv) (fun _=>?_) (fun _=>?_)
     ·refine Run.z [true,true,false,true,false] ?_
      refine Run.y (gv:=vIv) (fun _=>?_) (fun _=>?_)
      ·refine Run.q (e:=vIv) (gv:=vIv) (oi_Whole) fun r6 _=>?_
       exact Run.x 0
      ·refine Run.q (e:=vIv) (gv:=vIv) (oi_DirectionAt _ _) fun r7 _=>?_
       refine Run.q (e:=vIv) (gv:=vIv) (oi_DirectionAt _ _) fun r8 _=>?_
       refine Run.q (e:=vIv) (gv:=vIv) (oi_HullI _ _) fun r9 _=>?_
       refine Run.q (e:=vIv) (gv:=vIv) (oi_DirectionAt _ _) fun r10 _=>?_
       refine Run.q (e:=vIv) (gv:=vIv) (oi_DirectionAt _ _) fun r11 _=>?_
       refine Run.q (e:=vIv) (gv:=vIv) (oi_HullI _ _) fun r12 _=>?_
       refine Run.q (e:=vIv) (gv:=vIv) (oi_HullI _ _) fun r13 _=>?_
       exact Run.x 0
     ·refine Run.z [false,false,false,false,false,false] ?_
      refine Run.q (e:=vIv) (gv:=vIv) (oi_DirectionAt _ _) fun r14 _=>?_
      refine Run.q (e:=vIv) (gv:=vIv) (oi_DirectionAt _ _) fun r15 _=>?_
      refine Run.q (e:=vIv) (gv:=vIv) (oi_HullI _ _) fun r16 _=>?_
      refine Run.q (e:=vIv) (gv:=vIv) (oi_DirectionAt _ _) fun r17 _=>?_
      refine Run.q (e:=vIv) (gv:=vIv) (oi_DirectionAt _ _) fun r18 _=>?_
      refine Run.q (e:=vIv) (gv:=vIv) (oi_HullI _ _) fun r19 _=>?_
      refine Run.q (e:=vIv) (gv:=vIv) (oi_HullI _ _) fun r20 _=>?_
      exact Run.x 0
    ·refine Run.z [false,false,false,false,false,false,false,false,false,false,false,false] ?_
     refine Run.q (e:=vIv) (gv:=vIv) (oi_DirectionAt _ _) fun r21 _=>?_
     refine Run.q (e:=vIv) (gv:=vIv) (oi_DirectionAt _ _) fun r22 _=>?_
     refine Run.q (e:=vIv) (gv:=vIv) (oi_HullI _ _) fun r23 _=>?_
     refine Run.q (e:=vIv) (gv:=vIv) (oi_DirectionAt _ _) fun r24 _=>?_
     refine Run.q (e:=vIv) (gv:=vIv) (oi_DirectionAt _ _) fun r25 _=>?_
     refine Run.q (e:=vIv) (gv:=vIv) (oi_HullI _ _) fun r26 _=>?_
     refine Run.q (e:=vIv) (gv:=vIv) (oi_HullI _ _) fun r27 _=>?_
     exact Run.x 0
  ·refine Run.z [false,false,false,false,false,false,false,false] ?_
   refine Run.y (gv:=vIv) (fun _=>?_) (fun _=>?_)
   ·refine Run.z [true,true,false,true,false] ?_
    refine Run.y (gv:=vIv) (fun _=>?_) (fun _=>?_)
    ·refine Run.z [true,true,false,true,false] ?_
     refine Run.y (gv:=vIv) (fun _=>?_) (fun _=>?_)
     ·refine Run.q (e:=vIv) (gv:=vIv) (oi_Whole) fun r28 _=>?_
      exact Run.x 0
     ·refine Run.q (e:=vIv) (gv:=vIv) (oi_DirectionAt _ _) fun r29 _=>?_
      refine Run.q (e:=vIv) (gv:=vIv) (oi_DirectionAt _ _) fun r30 _=>?_
      refine Run.q (e:=vIv) (gv:=vIv) (oi_HullI _ _) fun r31 _=>?_
      refine Run.q (e:=vIv) (gv:=vIv) (oi_DirectionAt _ _) fun r32 _=>?_
      refine Run.q (e:=vIv) (gv:=vIv) (oi_DirectionAt _ _) fun r33 _=>?_
      refine Run.q (e:=vIv) (gv:=vIv) (oi_HullI _ _) fun r34 _=>?_
      refine Run.q (e:=vIv) (gv:=vIv) (oi_HullI _ _) fun r35 _=>?_
      exact Run.x 0
    ·refine Run.z [false,false,false,false,false,false] ?_
     refine Run.q (e:=vIv) (gv:=vIv) (oi_DirectionAt _ _) fun r36 _=>?_
     refine Run.q (e:=vIv) (gv:=vIv) (oi_DirectionAt _ _) fun r37 _=>?_
     refine Run.q (e:=vIv) (gv:=vIv) (oi_HullI _ _) fun r38 _=>?_
     refine Run.q (e:=vIv) (gv:=vIv) (oi_DirectionAt _ _) fun r39 _=>?_
     refine Run.q (e:=vIv) (gv:=vIv) (oi_DirectionAt _ _) fun r40 _=>?_
     refine Run.q (e:=vIv) (gv:=vIv) (oi_HullI _ _) fun r41 _=>?_
     refine Run.q (e:=vIv) (gv:=vIv) (oi_HullI _ _) fun r42 _=>?_
     exact Run.x 0
   ·refine Run.z [false,false,false,false,false,false,false,false,false,false,false,false] ?_
    refine Run.q (e:=vIv) (gv:=vIv) (oi_DirectionAt _ _) fun r43 _=>?_
    refine Run.q (e:=vIv) (gv:=vIv) (oi_DirectionAt _ _) fun r44 _=>?_
    refine Run.q (e:=vIv) (gv:=vIv) (oi_HullI _ _) fun r45 _=>?_
    refine Run.q (e:=vIv) (gv:=vIv) (oi_DirectionAt _ _) fun r46 _=>?_
    refine Run.q (e:=vIv) (gv:=vIv) (oi_DirectionAt _ _) fun r47 _=>?_
    refine Run.q (e:=vIv) (gv:=vIv) (oi_HullI _ _) fun r48 _=>?_
    refine Run.q (e:=vIv) (gv:=vIv) (oi_HullI _ _) fun r49 _=>?_
    exact Run.x 0
theorem oi_FromCartesian (a0 : El) (a1 : Vc) : Fun Tryz.prog 68 [] #[vEl a0,vVc a1] (vT_Iv_Iv_Iv_I (I_FromCartesian a0 a1)) []:=by
 refine Fun.ofH 400 E_ok mixed Tryz.func68 (by kernel_rfl) (by kernel_rfl) ?_
 unfold I_FromCartesian
 refine Run.q (e:=vI) (gv:=vT_Iv_Iv_Iv_I) (oi_centreCode _ _) fun r1 _=>?_
 refine Run.y (gv:=vT_Iv_Iv_Iv_I) (fun _=>?_) (fun _=>?_)
 ·exact Run.x 0
 ·refine Run.q (e:=vIv) (gv:=vT_Iv_Iv_Iv_I) (oi_latitudeOf _ _) fun r2 _=>?_
  refine Run.q (e:=vIv) (gv:=vT_Iv_Iv_Iv_I) (oi_SinI _) fun r3 _=>?_
  refine Run.q (e:=vIv) (gv:=vT_Iv_Iv_Iv_I) (oi_fromAxis _) fun r4 _=>?_
  refine Run.q (e:=vIv) (gv:=vT_Iv_Iv_Iv_I) (oi_CosI _) fun r5 _=>?_
  refine Run.q (e:=vIv) (gv:=vT_Iv_Iv_Iv_I) (oi_MulI _ _) fun r6 _=>?_
  refine Run.q (e:=vIv) (gv:=vT_Iv_Iv_Iv_I) (oi_MulI _ _) fun r7 _=>?_
  refine Run.q (e:=vIv) (gv:=vT_Iv_Iv_Iv_I) (oi_AddI _ _) fun r8 _=>?_
  refine Run.q (e:=vIv) (gv:=vT_Iv_Iv_Iv_I) (oi_MajorI _) fun r9 _=>?_
  refine Run.q (e:=vIv) (gv:=vT_Iv_Iv_Iv_I) (oi_weightOf _ _) fun r10 _=>?_
  refine Run.q (e:=vIv) (gv:=vT_Iv_Iv_Iv_I) (oi_SqrtI _) fun r11 _=>?_
  refine Run.q (e:=vIv) (gv:=vT_Iv_Iv_Iv_I) (oi_MulI _ _) fun r12 _=>?_
  refine Run.q (e:=vIv) (gv:=vT_Iv_Iv_Iv_I) (oi_SubI _ _) fun r13 _=>?_
  refine Run.q (e:=vB) (gv:=vT_Iv_Iv_Iv_I) (oi_IsWhole _) fun r14 _=>?_
  refine Run.y (gv:=vT_Iv_Iv_Iv_I) (fun _=>?_) (fun _=>?_)
  ·exact Run.x 0
  ·refine Run.q (e:=vIv) (gv:=vT_Iv_Iv_Iv_I) (oi_DirectionI _ _) fun r15 _=>?_
   exact Run.x 0
theorem oi_MovePlace (a0 : El) (a1 : Sf) (a2 : El) (a3 : Pl) : Fun Tryz.prog 20 [] #[vEl a0,vSf a1,vEl a2,vPl a3] (vT_Iv_Iv_Iv_I (I_MovePlace a0 a1 a2 a3)) []:=by
 refine Fun.ofH 400 E_ok mixed Tryz.func20 (by kernel_rfl) (by kernel_rfl) ?_
 unfold I_MovePlace
 refine Run.q (e:=vB) (gv:=vT_Iv_Iv_Iv_I) (oi_ValidEllipsoid _) fun r1 _=>?_
 refine Run.y (gv:=vT_Iv_Iv_Iv_I) (fun _=>?_) (fun _=>?_)
 ·refine Run.z [true,true,true,true,true,true,true,true,true,true,true,true] ?_
  exact Run.x 0
 ·refine Run.z [false] ?_
  refine Run.q (e:=vB) (gv:=vT_Iv_Iv_Iv_I) (oi_ValidEllipsoid _) fun r2 _=>?_
  refine Run.z [false,false] ?_
  refine Run.y (gv:=vT_Iv_Iv_Iv_I) (fun _=>?_) (fun _=>?_)
  ·refine Run.z [true,true,true,true,true,true,true,true] ?_
   exact Run.x 0
  ·refine Run.z [false] ?_
   refine Run.q (e:=vB) (gv:=vT_Iv_Iv_Iv_I) (oi_ValidShift _) fun r3 _=>?_
   refine Run.z [false,false] ?_
   refine Run.y (gv:=vT_Iv_Iv_Iv_I) (fun _=>?_) (fun _=>?_)
   ·refine Run.z [true,true,true,true] ?_
    exact Run.x 0
   ·refine Run.z [false] ?_
    refine Run.q (e:=vB) (gv:=vT_Iv_Iv_Iv_I) (oi_ValidPlace _) fun r4 _=>?_
    refine Run.z [false,false] ?_
    refine Run.y (gv:=vT_Iv_Iv_Iv_I) (fun _=>?_) (fun _=>?_)
    ·exact Run.x 0
    ·refine Run.q (e:=vAf) (gv:=vT_Iv_Iv_Iv_I) (oi_affineOf _) fun r5 _=>?_
     refine Run.q (e:=vVc) (gv:=vT_Iv_Iv_Iv_I) (oi_toCartesian _ _) fun r6 _=>?_
     refine Run.q (e:=vVc) (gv:=vT_Iv_Iv_Iv_I) (oi_ApplyAffine _ _) fun r7 _=>?_
     refine Run.q (e:=vT_Iv_Iv_Iv_I) (gv:=vT_Iv_Iv_Iv_I) (oi_FromCartesian _ _) fun r8 _=>?_
     exact Run.x 0
end Go.Proofs.YtfhnlkinjbakgaaGreat.Abs
