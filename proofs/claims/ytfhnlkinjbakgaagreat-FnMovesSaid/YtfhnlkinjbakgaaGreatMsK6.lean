/- The program's functions are these; part 6 (written by w.py). -/
import Derived.Test.YtfhnlkinjbakgaaGreatMsE
import Derived.Test.YtfhnlkinjbakgaaGreatMsF4
import Derived.Test.YtfhnlkinjbakgaaGreatMsQpre
import Derived.Test.YtfhnlkinjbakgaaGreatMsK1
import Derived.Test.YtfhnlkinjbakgaaGreatMsK2
import Derived.Test.YtfhnlkinjbakgaaGreatMsK3
import Derived.Test.YtfhnlkinjbakgaaGreatMsK5
set_option linter.unusedVariables false
set_option linter.unusedSimpArgs false
namespace Go.Proofs.YtfhnlkinjbakgaaGreat.Abs
open Go Go.RowKit
theorem ol_d8Long (c0 : Cd) (c1 : Cd) : Fun Tryz.prog 17 [(c0.row,c0.ty),(c1.row,c1.ty)] #[c0.sl 0,c1.sl 1] (vB (L_d8Long c0 c1)) [(c0.row,c0.ty),(c1.row,c1.ty)]:=by
 refine Fun.ofH 400 E_ok mixed Tryz.func17 (by kernel_rfl) (by kernel_rfl) ?_
 unfold L_d8Long
 refine Run.y (gv:=vB) (fun _=>?_) (fun _=>?_)
 ·refine Run.z [true,true,true] ?_
  exact Run.x 2
 ·refine Run.z [false,false,false] ?_
  exact Run.x 2
theorem ol_d8At (c0 : Cd) (a0 : I64) (a1 : I64) (p0 : 0 ≤ a0.val) (p1 : a0.val ≤ 1000000) : Fun Tryz.prog 25 [(c0.row,c0.ty)] #[c0.sl 0,vI a0,vI a1] (vI (L_d8At c0 a0 a1)) [(c0.row,c0.ty)]:=by
 refine Fun.ofH 400 E_ok mixed Tryz.func25 (by kernel_rfl) (by kernel_rfl) ?_
 unfold L_d8At
 refine Run.y (gv:=vI) (fun h1=>?_) (fun h1=>?_)
 ·refine Run.z [true,true,true,true,true] ?_
  exact Run.x 1
 ·refine Run.z [false,false,false,false] ?_
  refine Run.y (gv:=vI) (fun h2=>?_) (fun h2=>?_)
  ·exact Run.x 1
  ·refine Run.k (c:=(decide (0 ≤ a0.val ∧ a0.val < ((c0.L.length : Nat) : Int)))) (by kernel_rfl) (by simp only [w64_val,wu64_val,c64_val,cu64_val,decide_eq_true_eq,decide_eq_false_iff_not,cond_true,cond_false] at *; omega) ?_
   refine Run.ld (by kernel_rfl) (Cd.byte c0 (i:=a0) (by simp only [w64_val,wu64_val,c64_val,cu64_val,decide_eq_true_eq,decide_eq_false_iff_not,cond_true,cond_false] at *; omega)) ?_
   refine Run.y (gv:=vI) (fun h3=>?_) (fun h3=>?_)
   ·refine Run.k (c:=(decide (0 ≤ (w64 (a0.val + 1)).val ∧ (w64 (a0.val + 1)).val < ((c0.L.length : Nat) : Int)))) (by kernel_rfl) (by simp only [w64_val,wu64_val,c64_val,cu64_val,decide_eq_true_eq,decide_eq_false_iff_not,cond_true,cond_false] at *; omega) ?_
    refine Run.ld (by kernel_rfl) (Cd.byte c0 (i:=(w64 (a0.val + 1))) (by simp only [w64_val,wu64_val,c64_val,cu64_val,decide_eq_true_eq,decide_eq_false_iff_not,cond_true,cond_false] at *; omega)) ?_
    refine Run.k (c:=(decide (a1.val ≠ 0))) (by kernel_rfl) (by simp only [w64_val,wu64_val,c64_val,cu64_val,decide_eq_true_eq,decide_eq_false_iff_not,cond_true,cond_false] at *; omega) ?_
    exact Run.x 1
   ·refine Run.k (c:=(decide (a1.val ≠ 0))) (by kernel_rfl) (by simp only [w64_val,wu64_val,c64_val,cu64_val,decide_eq_true_eq,decide_eq_false_iff_not,cond_true,cond_false] at *; omega) ?_
    exact Run.x 1
theorem ol_FnMoves (c0 : Cd) (c1 : Cd) : Fun Tryz.prog 4 [(c0.row,c0.ty),(c1.row,c1.ty)] #[c0.sl 0,c1.sl 1] (vB (L_FnMoves c0 c1)) [(c0.row,c0.ty),(c1.row,c1.ty)]:=by
 refine Fun.ofH 400 E_ok mixed Tryz.func4 (by kernel_rfl) (by kernel_rfl) ?_
 unfold L_FnMoves
 refine Run.vl (e:=vB) (gv:=vB) [0,1] (ol_d8Long _ _) (allc (c0.calm) (allc (c1.calm) rfl)) fun r1 hr1=>?_
 refine Run.y (gv:=vB) (fun h2=>?_) (fun h2=>?_)
 ·exact Run.x 2
 ·refine Run.vl (e:=vEl) (gv:=vB) [1] (os_E8Ellipsoid _) (allc (c1.calm) rfl) fun r3 hr3=>?_
  refine Run.vl (e:=vPl) (gv:=vB) [0] (os_E8Place _) (allc (c0.calm) rfl) fun r4 hr4=>?_
  refine Run.q (e:=vT_Iv_Iv_Iv_I) (gv:=vB) (oi_MovePlace _ _ _ _) fun r5 hr5=>?_
  refine Run.y (gv:=vB) (fun h6=>?_) (fun h6=>?_)
  ·refine Run.q (e:=vT_Iv_Iv_Iv_I) (gv:=vB) (os_MovePlace _ _ _ _) fun r7 hr7=>?_
   exact Run.x 2
  ·refine Run.q (e:=vB) (gv:=vB) (os_AtPoint _ _ _) fun r8 hr8=>?_
   refine Run.y (gv:=vB) (fun h9=>?_) (fun h9=>?_)
   ·refine Run.z [true,true,true,true,true,true,true] ?_
    exact Run.x 2
   ·refine Run.z [false,false,false] ?_
    refine Run.q (e:=vIv) (gv:=vB) (os_HeightI _) fun r10 hr10=>?_
    refine Run.z [false] ?_
    refine Run.q (e:=vB) (gv:=vB) (os_OverlapI _ _) fun r11 hr11=>?_
    refine Run.z [false,false] ?_
    refine Run.y (gv:=vB) (fun h12=>?_) (fun h12=>?_)
    ·exact Run.x 2
    ·refine Run.q (e:=vT_El_I) (gv:=vB) (os_SphereOf _) fun r13 hr13=>?_
     refine Run.vq (e:=vI) (gv:=vB) [1] (ol_d8At _ _ _ (by simp only [w64_val,wu64_val,c64_val,cu64_val,decide_eq_true_eq,decide_eq_false_iff_not,cond_true,cond_false] at *; omega) (by simp only [w64_val,wu64_val,c64_val,cu64_val,decide_eq_true_eq,decide_eq_false_iff_not,cond_true,cond_false] at *; omega)) (allc (c1.calm) rfl) fun r14 hr14=>?_
     refine Run.q (e:=vT_Iv_Iv_Iv_I) (gv:=vB) (oi_MovePlace _ _ _ _) fun r15 hr15=>?_
     refine Run.y (gv:=vB) (fun h16=>?_) (fun h16=>?_)
     ·refine Run.z [true,true,true,true,true] ?_
      exact Run.x 2
     ·refine Run.z [false,false,false,false] ?_
      refine Run.q (e:=vB) (gv:=vB) (os_AtPoint _ _ _) fun r17 hr17=>?_
      refine Run.z [false] ?_
      exact Run.x 2
theorem ol_d8Long_ln (c0 : Cd) : Fun Tryz.prog 17 [(c0.row,c0.ty)] #[c0.sl 0,.slice none 0 0] (vB (L_d8Long c0 Cd.nil)) [(c0.row,c0.ty)]:=by
 refine Fun.ofH 400 E_ok mixed Tryz.func17 (by kernel_rfl) (by kernel_rfl) ?_
 unfold L_d8Long
 refine Run.y (gv:=vB) (fun _=>?_) (fun _=>?_)
 ·refine Run.z [true,true,true] ?_
  exact Run.x 1
 ·refine Run.z [false,false,false] ?_
  exact Run.x 1
theorem ol_d8At_n (a0 : I64) (a1 : I64) (p0 : 0 ≤ a0.val) (p1 : a0.val ≤ 1000000) : Fun Tryz.prog 25 [] #[.slice none 0 0,vI a0,vI a1] (vI (L_d8At Cd.nil a0 a1)) []:=by
 refine Fun.ofH 400 E_ok mixed Tryz.func25 (by kernel_rfl) (by kernel_rfl) ?_
 unfold L_d8At
 refine Run.y (gv:=vI) (fun h1=>?_) (fun h1=>?_)
 ·refine Run.z [true,true,true,true,true] ?_
  exact Run.x 0
 ·refine Run.z [false,false,false,false] ?_
  refine Run.gt (Rg:=(fun b=>RvH [] (vI b))) (c:=(decide (a0.val ≥ (((Cd.nil.L.length : Nat) : Int))))) (by kernel_rfl) (decide_eq_true (show a0.val ≥ 0 from p0)) ?_
  exact Run.x 0
theorem ol_FnMoves_ln (c0 : Cd) : Fun Tryz.prog 4 [(c0.row,c0.ty)] #[c0.sl 0,.slice none 0 0] (vB (L_FnMoves c0 Cd.nil)) [(c0.row,c0.ty)]:=by
 refine Fun.ofH 400 E_ok mixed Tryz.func4 (by kernel_rfl) (by kernel_rfl) ?_
 unfold L_FnMoves
 refine Run.vl (e:=vB) (gv:=vB) [0] (ol_d8Long_ln _) (allc (c0.calm) rfl) fun r1 hr1=>?_
 refine Run.y (gv:=vB) (fun h2=>?_) (fun h2=>?_)
 ·exact Run.x 1
 ·refine Run.q (e:=vEl) (gv:=vB) (os_E8Ellipsoid_n) fun r3 hr3=>?_
  refine Run.vl (e:=vPl) (gv:=vB) [0] (os_E8Place _) (allc (c0.calm) rfl) fun r4 hr4=>?_
  refine Run.q (e:=vT_Iv_Iv_Iv_I) (gv:=vB) (oi_MovePlace _ _ _ _) fun r5 hr5=>?_
  refine Run.y (gv:=vB) (fun h6=>?_) (fun h6=>?_)
  ·refine Run.q (e:=vT_Iv_Iv_Iv_I) (gv:=vB) (os_MovePlace _ _ _ _) fun r7 hr7=>?_
   exact Run.x 1
  ·refine Run.q (e:=vB) (gv:=vB) (os_AtPoint _ _ _) fun r8 hr8=>?_
   refine Run.y (gv:=vB) (fun h9=>?_) (fun h9=>?_)
   ·refine Run.z [true,true,true,true,true,true,true] ?_
    exact Run.x 1
   ·refine Run.z [false,false,false] ?_
    refine Run.q (e:=vIv) (gv:=vB) (os_HeightI _) fun r10 hr10=>?_
    refine Run.z [false] ?_
    refine Run.q (e:=vB) (gv:=vB) (os_OverlapI _ _) fun r11 hr11=>?_
    refine Run.z [false,false] ?_
    refine Run.y (gv:=vB) (fun h12=>?_) (fun h12=>?_)
    ·exact Run.x 1
    ·refine Run.q (e:=vT_El_I) (gv:=vB) (os_SphereOf _) fun r13 hr13=>?_
     refine Run.q (e:=vI) (gv:=vB) (ol_d8At_n _ _ (by simp only [w64_val,wu64_val,c64_val,cu64_val,decide_eq_true_eq,decide_eq_false_iff_not,cond_true,cond_false] at *; omega) (by simp only [w64_val,wu64_val,c64_val,cu64_val,decide_eq_true_eq,decide_eq_false_iff_not,cond_true,cond_false] at *; omega)) fun r14 hr14=>?_
     refine Run.q (e:=vT_Iv_Iv_Iv_I) (gv:=vB) (oi_MovePlace _ _ _ _) fun r15 hr15=>?_
     refine Run.y (gv:=vB) (fun h16=>?_) (fun h16=>?_)
     ·refine Run.z [true,true,true,true,true] ?_
      exact Run.x 1
     ·refine Run.z [false,false,false,false] ?_
      refine Run.q (e:=vB) (gv:=vB) (os_AtPoint _ _ _) fun r17 hr17=>?_
      refine Run.z [false] ?_
      exact Run.x 1
theorem ol_d8Long_nl (c0 : Cd) : Fun Tryz.prog 17 [(c0.row,c0.ty)] #[.slice none 0 0,c0.sl 0] (vB (L_d8Long Cd.nil c0)) [(c0.row,c0.ty)]:=by
 refine Fun.ofH 400 E_ok mixed Tryz.func17 (by kernel_rfl) (by kernel_rfl) ?_
 unfold L_d8Long
 refine Run.y (gv:=vB) (fun _=>?_) (fun _=>?_)
 ·refine Run.z [true,true,true] ?_
  exact Run.x 1
 ·refine Run.z [false,false,false] ?_
  exact Run.x 1
theorem ol_FnMoves_nl (c0 : Cd) : Fun Tryz.prog 4 [(c0.row,c0.ty)] #[.slice none 0 0,c0.sl 0] (vB (L_FnMoves Cd.nil c0)) [(c0.row,c0.ty)]:=by
 refine Fun.ofH 400 E_ok mixed Tryz.func4 (by kernel_rfl) (by kernel_rfl) ?_
 unfold L_FnMoves
 refine Run.vl (e:=vB) (gv:=vB) [0] (ol_d8Long_nl _) (allc (c0.calm) rfl) fun r1 hr1=>?_
 refine Run.y (gv:=vB) (fun h2=>?_) (fun h2=>?_)
 ·exact Run.x 1
 ·refine Run.vl (e:=vEl) (gv:=vB) [0] (os_E8Ellipsoid _) (allc (c0.calm) rfl) fun r3 hr3=>?_
  refine Run.q (e:=vPl) (gv:=vB) (os_E8Place_n) fun r4 hr4=>?_
  refine Run.q (e:=vT_Iv_Iv_Iv_I) (gv:=vB) (oi_MovePlace _ _ _ _) fun r5 hr5=>?_
  refine Run.y (gv:=vB) (fun h6=>?_) (fun h6=>?_)
  ·refine Run.q (e:=vT_Iv_Iv_Iv_I) (gv:=vB) (os_MovePlace _ _ _ _) fun r7 hr7=>?_
   exact Run.x 1
  ·refine Run.q (e:=vB) (gv:=vB) (os_AtPoint _ _ _) fun r8 hr8=>?_
   refine Run.y (gv:=vB) (fun h9=>?_) (fun h9=>?_)
   ·refine Run.z [true,true,true,true,true,true,true] ?_
    exact Run.x 1
   ·refine Run.z [false,false,false] ?_
    refine Run.q (e:=vIv) (gv:=vB) (os_HeightI _) fun r10 hr10=>?_
    refine Run.z [false] ?_
    refine Run.q (e:=vB) (gv:=vB) (os_OverlapI _ _) fun r11 hr11=>?_
    refine Run.z [false,false] ?_
    refine Run.y (gv:=vB) (fun h12=>?_) (fun h12=>?_)
    ·exact Run.x 1
    ·refine Run.q (e:=vT_El_I) (gv:=vB) (os_SphereOf _) fun r13 hr13=>?_
     refine Run.vq (e:=vI) (gv:=vB) [0] (ol_d8At _ _ _ (by simp only [w64_val,wu64_val,c64_val,cu64_val,decide_eq_true_eq,decide_eq_false_iff_not,cond_true,cond_false] at *; omega) (by simp only [w64_val,wu64_val,c64_val,cu64_val,decide_eq_true_eq,decide_eq_false_iff_not,cond_true,cond_false] at *; omega)) (allc (c0.calm) rfl) fun r14 hr14=>?_
     refine Run.q (e:=vT_Iv_Iv_Iv_I) (gv:=vB) (oi_MovePlace _ _ _ _) fun r15 hr15=>?_
     refine Run.y (gv:=vB) (fun h16=>?_) (fun h16=>?_)
     ·refine Run.z [true,true,true,true,true] ?_
      exact Run.x 1
     ·refine Run.z [false,false,false,false] ?_
      refine Run.q (e:=vB) (gv:=vB) (os_AtPoint _ _ _) fun r17 hr17=>?_
      refine Run.z [false] ?_
      exact Run.x 1
theorem ol_d8Long_nn : Fun Tryz.prog 17 [] #[.slice none 0 0,.slice none 0 0] (vB (L_d8Long Cd.nil Cd.nil)) []:=by
 refine Fun.ofH 400 E_ok mixed Tryz.func17 (by kernel_rfl) (by kernel_rfl) ?_
 unfold L_d8Long
 refine Run.y (gv:=vB) (fun _=>?_) (fun _=>?_)
 ·refine Run.z [true,true,true] ?_
  exact Run.x 0
 ·refine Run.z [false,false,false] ?_
  exact Run.x 0
theorem ol_FnMoves_nn : Fun Tryz.prog 4 [] #[.slice none 0 0,.slice none 0 0] (vB (L_FnMoves Cd.nil Cd.nil)) []:=by
 refine Fun.ofH 400 E_ok mixed Tryz.func4 (by kernel_rfl) (by kernel_rfl) ?_
 unfold L_FnMoves
 refine Run.q (e:=vB) (gv:=vB) (ol_d8Long_nn) fun r1 hr1=>?_
 refine Run.y (gv:=vB) (fun h2=>?_) (fun h2=>?_)
 ·exact Run.x 0
 ·refine Run.q (e:=vEl) (gv:=vB) (os_E8Ellipsoid_n) fun r3 hr3=>?_
  refine Run.q (e:=vPl) (gv:=vB) (os_E8Place_n) fun r4 hr4=>?_
  refine Run.q (e:=vT_Iv_Iv_Iv_I) (gv:=vB) (oi_MovePlace _ _ _ _) fun r5 hr5=>?_
  refine Run.y (gv:=vB) (fun h6=>?_) (fun h6=>?_)
  ·refine Run.q (e:=vT_Iv_Iv_Iv_I) (gv:=vB) (os_MovePlace _ _ _ _) fun r7 hr7=>?_
   exact Run.x 0
  ·refine Run.q (e:=vB) (gv:=vB) (os_AtPoint _ _ _) fun r8 hr8=>?_
   refine Run.y (gv:=vB) (fun h9=>?_) (fun h9=>?_)
   ·refine Run.z [true,true,true,true,true,true,true] ?_
    exact Run.x 0
   ·refine Run.z [false,false,false] ?_
    refine Run.q (e:=vIv) (gv:=vB) (os_HeightI _) fun r10 hr10=>?_
    refine Run.z [false] ?_
    refine Run.q (e:=vB) (gv:=vB) (os_OverlapI _ _) fun r11 hr11=>?_
    refine Run.z [false,false] ?_
    refine Run.y (gv:=vB) (fun h12=>?_) (fun h12=>?_)
    ·exact Run.x 0
    ·refine Run.q (e:=vT_El_I) (gv:=vB) (os_SphereOf _) fun r13 hr13=>?_
     refine Run.q (e:=vI) (gv:=vB) (ol_d8At_n _ _ (by simp only [w64_val,wu64_val,c64_val,cu64_val,decide_eq_true_eq,decide_eq_false_iff_not,cond_true,cond_false] at *; omega) (by simp only [w64_val,wu64_val,c64_val,cu64_val,decide_eq_true_eq,decide_eq_false_iff_not,cond_true,cond_false] at *; omega)) fun r14 hr14=>?_
     refine Run.q (e:=vT_Iv_Iv_Iv_I) (gv:=vB) (oi_MovePlace _ _ _ _) fun r15 hr15=>?_
     refine Run.y (gv:=vB) (fun h16=>?_) (fun h16=>?_)
     ·refine Run.z [true,true,true,true,true] ?_
      exact Run.x 0
     ·refine Run.z [false,false,false,false] ?_
      refine Run.q (e:=vB) (gv:=vB) (os_AtPoint _ _ _) fun r17 hr17=>?_
      refine Run.z [false] ?_
      exact Run.x 0
theorem ol_d8Long_lv (c0 : Cd) (c1 : Cv c0.row) : Fun Tryz.prog 17 [(c0.row,c0.ty)] #[c0.sl 0,(c0.vw c1).sl 0] (vB (L_d8Long c0 (c0.vw c1))) [(c0.row,c0.ty)]:=by
 refine Fun.ofH 400 E_ok mixed Tryz.func17 (by kernel_rfl) (by kernel_rfl) ?_
 unfold L_d8Long
 refine Run.y (gv:=vB) (fun _=>?_) (fun _=>?_)
 ·refine Run.z [true,true,true] ?_
  exact Run.x 1
 ·refine Run.z [false,false,false] ?_
  exact Run.x 1
theorem ol_FnMoves_lv (c0 : Cd) (c1 : Cv c0.row) : Fun Tryz.prog 4 [(c0.row,c0.ty)] #[c0.sl 0,(c0.vw c1).sl 0] (vB (L_FnMoves c0 (c0.vw c1))) [(c0.row,c0.ty)]:=by
 refine Fun.ofH 400 E_ok mixed Tryz.func4 (by kernel_rfl) (by kernel_rfl) ?_
 unfold L_FnMoves
 refine Run.vl (e:=vB) (gv:=vB) [0] (ol_d8Long_lv _ _) (allc (c0.calm) rfl) fun r1 hr1=>?_
 refine Run.y (gv:=vB) (fun h2=>?_) (fun h2=>?_)
 ·exact Run.x 1
 ·refine Run.vl (e:=vEl) (gv:=vB) [0] (os_E8Ellipsoid _) (allc (c0.calm) rfl) fun r3 hr3=>?_
  refine Run.vl (e:=vPl) (gv:=vB) [0] (os_E8Place _) (allc (c0.calm) rfl) fun r4 hr4=>?_
  refine Run.q (e:=vT_Iv_Iv_Iv_I) (gv:=vB) (oi_MovePlace _ _ _ _) fun r5 hr5=>?_
  refine Run.y (gv:=vB) (fun h6=>?_) (fun h6=>?_)
  ·refine Run.q (e:=vT_Iv_Iv_Iv_I) (gv:=vB) (os_MovePlace _ _ _ _) fun r7 hr7=>?_
   exact Run.x 1
  ·refine Run.q (e:=vB) (gv:=vB) (os_AtPoint _ _ _) fun r8 hr8=>?_
   refine Run.y (gv:=vB) (fun h9=>?_) (fun h9=>?_)
   ·refine Run.z [true,true,true,true,true,true,true] ?_
    exact Run.x 1
   ·refine Run.z [false,false,false] ?_
    refine Run.q (e:=vIv) (gv:=vB) (os_HeightI _) fun r10 hr10=>?_
    refine Run.z [false] ?_
    refine Run.q (e:=vB) (gv:=vB) (os_OverlapI _ _) fun r11 hr11=>?_
    refine Run.z [false,false] ?_
    refine Run.y (gv:=vB) (fun h12=>?_) (fun h12=>?_)
    ·exact Run.x 1
    ·refine Run.q (e:=vT_El_I) (gv:=vB) (os_SphereOf _) fun r13 hr13=>?_
     refine Run.vq (e:=vI) (gv:=vB) [0] (ol_d8At _ _ _ (by simp only [w64_val,wu64_val,c64_val,cu64_val,decide_eq_true_eq,decide_eq_false_iff_not,cond_true,cond_false] at *; omega) (by simp only [w64_val,wu64_val,c64_val,cu64_val,decide_eq_true_eq,decide_eq_false_iff_not,cond_true,cond_false] at *; omega)) (allc (c0.calm) rfl) fun r14 hr14=>?_
     refine Run.q (e:=vT_Iv_Iv_Iv_I) (gv:=vB) (oi_MovePlace _ _ _ _) fun r15 hr15=>?_
     refine Run.y (gv:=vB) (fun h16=>?_) (fun h16=>?_)
     ·refine Run.z [true,true,true,true,true] ?_
      exact Run.x 1
     ·refine Run.z [false,false,false,false] ?_
      refine Run.q (e:=vB) (gv:=vB) (os_AtPoint _ _ _) fun r17 hr17=>?_
      refine Run.z [false] ?_
      exact Run.x 1
end Go.Proofs.YtfhnlkinjbakgaaGreat.Abs
