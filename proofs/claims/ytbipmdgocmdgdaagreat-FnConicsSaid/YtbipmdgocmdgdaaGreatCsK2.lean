/- The program's functions are these; part 2 (written by w.py). -/
import Derived.Test.YtbipmdgocmdgdaaGreatCsE
import Derived.Test.YtbipmdgocmdgdaaGreatCsF3
import Derived.Test.YtbipmdgocmdgdaaGreatCsQpre
import Derived.Test.YtbipmdgocmdgdaaGreatCsK1
set_option linter.unusedVariables false
set_option linter.unusedSimpArgs false
namespace Go.Proofs.YtbipmdgocmdgdaaGreat.Abs
open Go Go.RowKit
theorem os_l02Shift (a0 : Wd) (a1 : I64) : Fun Tryz.prog 216 [] #[vWd a0,vI a1] (vWd (S_l02Shift a0 a1)) []:=by
 refine Fun.ofH 400 E_ok mixed Tryz.func216 (by kernel_rfl) (by kernel_rfl) ?_
 unfold S_l02Shift
 refine Run.y (gv:=vWd) (fun h1=>?_) (fun h1=>?_)
 ·exact Run.x 0
 ·refine Run.y (gv:=vWd) (fun h2=>?_) (fun h2=>?_)
  ·refine Run.k (c:=(decide (0 ≤ (wu64 a1.val).val))) (by kernel_rfl) (by simp only [w64_val,wu64_val,c64_val,cu64_val,decide_eq_true_eq,decide_eq_false_iff_not,cond_true,cond_false] at *; omega) ?_
   refine Run.k (c:=(decide (0 ≤ (wu64 a1.val).val))) (by kernel_rfl) (by simp only [w64_val,wu64_val,c64_val,cu64_val,decide_eq_true_eq,decide_eq_false_iff_not,cond_true,cond_false] at *; omega) ?_
   refine Run.k (c:=(decide (0 ≤ (wu64 (w64 (64 - a1.val)).val).val))) (by kernel_rfl) (by simp only [w64_val,wu64_val,c64_val,cu64_val,decide_eq_true_eq,decide_eq_false_iff_not,cond_true,cond_false] at *; omega) ?_
   exact Run.x 0
  ·refine Run.z [true] ?_
   refine Run.k (c:=(decide (0 ≤ (wu64 (w64 (a1.val - 64)).val).val))) (by kernel_rfl) (by simp only [w64_val,wu64_val,c64_val,cu64_val,decide_eq_true_eq,decide_eq_false_iff_not,cond_true,cond_false] at *; omega) ?_
   exact Run.x 0
theorem os_MulFloor (a0 : I64) (a1 : I64) (a2 : I64) : Fun Tryz.prog 160 [] #[vI a0,vI a1,vI a2] (vT_I_B (S_MulFloor a0 a1 a2)) []:=by
 refine Fun.ofH 400 E_ok mixed Tryz.func160 (by kernel_rfl) (by kernel_rfl) ?_
 unfold S_MulFloor
 refine Run.q (e:=vB) (gv:=vT_I_B) (os_l00In _ _ _) fun r1 _=>?_
 refine Run.y (gv:=vT_I_B) (fun _=>?_) (fun _=>?_)
 ·exact Run.x 0
 ·refine Run.q (e:=vWd) (gv:=vT_I_B) (os_l02Mul _ _) fun r2 _=>?_
  refine Run.q (e:=vWd) (gv:=vT_I_B) (os_l02Shift _ _) fun r3 _=>?_
  refine Run.q (e:=vT_I_B) (gv:=vT_I_B) (os_l02Int _) fun r4 _=>?_
  exact Run.x 0
theorem os_l03End (a0 : I64) (a1 : Bool) : Fun Tryz.prog 161 [] #[vI a0,vB a1] (vT_I_B (S_l03End a0 a1)) []:=by
 refine Fun.ofH 400 E_ok mixed Tryz.func161 (by kernel_rfl) (by kernel_rfl) ?_
 unfold S_l03End
 refine Run.y (gv:=vT_I_B) (fun _=>?_) (fun _=>?_)
 ·refine Run.z [true,true,true,true] ?_
  exact Run.x 0
 ·refine Run.z [false] ?_
  refine Run.q (e:=vB) (gv:=vT_I_B) (os_l03Ok _) fun r1 _=>?_
  refine Run.z [false,false] ?_
  refine Run.y (gv:=vT_I_B) (fun _=>?_) (fun _=>?_)
  ·exact Run.x 0
  ·exact Run.x 0
theorem os_l03MulDown (a0 : I64) (a1 : I64) : Fun Tryz.prog 69 [] #[vI a0,vI a1] (vT_I_B (S_l03MulDown a0 a1)) []:=by
 refine Fun.ofH 400 E_ok mixed Tryz.func69 (by kernel_rfl) (by kernel_rfl) ?_
 unfold S_l03MulDown
 refine Run.q (e:=vB) (gv:=vT_I_B) (os_l03Ok _) fun r1 _=>?_
 refine Run.y (gv:=vT_I_B) (fun _=>?_) (fun _=>?_)
 ·refine Run.z [true,true,true,true] ?_
  exact Run.x 0
 ·refine Run.z [false] ?_
  refine Run.q (e:=vB) (gv:=vT_I_B) (os_l03Ok _) fun r2 _=>?_
  refine Run.z [false,false] ?_
  refine Run.y (gv:=vT_I_B) (fun _=>?_) (fun _=>?_)
  ·exact Run.x 0
  ·refine Run.q (e:=vT_I_B) (gv:=vT_I_B) (os_MulFloor _ _ _) fun r3 _=>?_
   refine Run.q (e:=vT_I_B) (gv:=vT_I_B) (os_l03End _ _) fun r4 _=>?_
   exact Run.x 0
theorem os_l03MulUp (a0 : I64) (a1 : I64) : Fun Tryz.prog 70 [] #[vI a0,vI a1] (vT_I_B (S_l03MulUp a0 a1)) []:=by
 refine Fun.ofH 400 E_ok mixed Tryz.func70 (by kernel_rfl) (by kernel_rfl) ?_
 unfold S_l03MulUp
 refine Run.q (e:=vT_I_B) (gv:=vT_I_B) (os_l03MulDown _ _) fun r1 _=>?_
 refine Run.q (e:=vB) (gv:=vT_I_B) (os_l03Ok _) fun r2 _=>?_
 refine Run.y (gv:=vT_I_B) (fun _=>?_) (fun _=>?_)
 ·refine Run.z [true,true,true] ?_
  exact Run.x 0
 ·refine Run.z [false,false] ?_
  refine Run.y (gv:=vT_I_B) (fun _=>?_) (fun _=>?_)
  ·exact Run.x 0
  ·exact Run.x 0
theorem os_SqrI (a0 : Iv) : Fun Tryz.prog 18 [] #[vIv a0] (vIv (S_SqrI a0)) []:=by
 refine Fun.ofH 400 E_ok mixed Tryz.func18 (by kernel_rfl) (by kernel_rfl) ?_
 unfold S_SqrI
 refine Run.q (e:=vB) (gv:=vIv) (os_l04Ok _) fun r1 _=>?_
 refine Run.y (gv:=vIv) (fun _=>?_) (fun _=>?_)
 ·refine Run.q (e:=vIv) (gv:=vIv) (os_l04Whole) fun r2 _=>?_
  exact Run.x 0
 ·refine Run.q (e:=vT_I_I) (gv:=vIv) (os_l04Ends _) fun r3 _=>?_
  refine Run.q (e:=vT_I_B) (gv:=vIv) (os_l03MulDown _ _) fun r4 _=>?_
  refine Run.q (e:=vT_I_B) (gv:=vIv) (os_l03MulUp _ _) fun r5 _=>?_
  refine Run.y (gv:=vIv) (fun _=>?_) (fun _=>?_)
  ·refine Run.z [true,true,true] ?_
   refine Run.q (e:=vIv) (gv:=vIv) (os_l04Whole) fun r6 _=>?_
   exact Run.x 0
  ·refine Run.z [false,false] ?_
   refine Run.y (gv:=vIv) (fun _=>?_) (fun _=>?_)
   ·refine Run.q (e:=vIv) (gv:=vIv) (os_l04Whole) fun r7 _=>?_
    exact Run.x 0
   ·refine Run.q (e:=vIv) (gv:=vIv) (os_l04Make _ _) fun r8 _=>?_
    exact Run.x 0
theorem os_AddI (a0 : Iv) (a1 : Iv) : Fun Tryz.prog 17 [] #[vIv a0,vIv a1] (vIv (S_AddI a0 a1)) []:=by
 refine Fun.ofH 400 E_ok mixed Tryz.func17 (by kernel_rfl) (by kernel_rfl) ?_
 unfold S_AddI
 refine Run.q (e:=vB) (gv:=vIv) (os_l04Ok _) fun r1 _=>?_
 refine Run.y (gv:=vIv) (fun _=>?_) (fun _=>?_)
 ·refine Run.z [true,true,true,true] ?_
  refine Run.q (e:=vIv) (gv:=vIv) (os_l04Whole) fun r2 _=>?_
  exact Run.x 0
 ·refine Run.z [false] ?_
  refine Run.q (e:=vB) (gv:=vIv) (os_l04Ok _) fun r3 _=>?_
  refine Run.z [false,false] ?_
  refine Run.y (gv:=vIv) (fun _=>?_) (fun _=>?_)
  ·refine Run.q (e:=vIv) (gv:=vIv) (os_l04Whole) fun r4 _=>?_
   exact Run.x 0
  ·refine Run.q (e:=vIv) (gv:=vIv) (os_l04Make _ _) fun r5 _=>?_
   exact Run.x 0
theorem os_l00From_n : FunS Tryz.prog 30 [] [] #[(.slice none 0 0)] (fun v Y=>v = .pointer (some ⟨0,0,none⟩) ∧ Y = [srcB 115 (.slice none 0 0) (c64 0) (cu64 0)]):=Sourced.none (by decide) os_l00Sourced
theorem os_l00Src_next__src_n (b1 : Src) (ps : 0 ≤ b1.ix.val ∧ b1.ix.val + 1 ≤ 1000000000) : FunS Tryz.prog 114 [] [srcB 115 (.slice none 0 0) b1.ix b1.sd] #[.pointer (some ⟨0,0,none⟩)] (Drew vI 115 (.slice none 0 0) b1.ix.val (b1.ix.val + 1) (S_l00Src_next__src Cd.nil b1)):=by
 refine FunS.drew (fun _ _=>rfl) rfl (by kernel_rfl) (FunR.of 400 E_ok mixed Tryz.func114 (by kernel_rfl) ?_)
 show Run _ _ ((RD [] vI 115 (.slice none 0 0) b1.ix.val (b1.ix.val + 1)) (S_l00Src_next__src Cd.nil b1)) _
 unfold S_l00Src_next__src
 refine Run.gn (Rg:=(RD [] vI 115 (.slice none 0 0) b1.ix.val (b1.ix.val + 1))) (c:=(decide (b1.ix.val < (((Cd.nil.L.length : Nat) : Int))))) (by kernel_rfl) (by refine decide_eq_false ?_; show ¬ (b1.ix.val < 0); omega) ?_
 refine Run.gy (Rg:=(RD [] vI 115 (.slice none 0 0) b1.ix.val (b1.ix.val + 1))) (fun h1=>?_) (fun h1=>?_)
 ·exact Run.dr (by kernel_rfl) (by kernel_rfl) (by first | omega | (simp only [w64_val,c64_val] at *; omega))
 ·refine Run.z [true] ?_
  exact Run.dr (by kernel_rfl) (by kernel_rfl) (by first | omega | (simp only [w64_val,c64_val] at *; omega))
theorem os_l00Src_pick__src_n (b1 : Src) (a0 : I64) (ps : 0 ≤ b1.ix.val ∧ b1.ix.val + 2 ≤ 1000000000) : FunS Tryz.prog 32 [] [srcB 115 (.slice none 0 0) b1.ix b1.sd] #[.pointer (some ⟨0,0,none⟩),vI a0] (Drew vI 115 (.slice none 0 0) b1.ix.val (b1.ix.val + 2) (S_l00Src_pick__src Cd.nil b1 a0)):=by
 refine FunS.drew (fun _ _=>rfl) rfl (by kernel_rfl) (FunR.of 400 E_ok mixed Tryz.func32 (by kernel_rfl) ?_)
 show Run _ _ ((RD [] vI 115 (.slice none 0 0) b1.ix.val (b1.ix.val + 2)) (S_l00Src_pick__src Cd.nil b1 a0)) _
 unfold S_l00Src_pick__src
 refine Run.gy (Rg:=(RD [] vI 115 (.slice none 0 0) b1.ix.val (b1.ix.val + 2))) (fun h1=>?_) (fun h1=>?_)
 ·exact Run.dr (by kernel_rfl) (by kernel_rfl) (by first | omega | (simp only [w64_val,c64_val] at *; omega))
 ·refine Run.cw (e:=vI) (Rg:=(RD [] vI 115 (.slice none 0 0) b1.ix.val (b1.ix.val + 2))) [] 0 (os_l00Src_next__src_n _ (by first | omega | (simp only [w64_val,c64_val] at *; omega))) rfl fun r2 hr2 kr2=>?_
  refine Run.gy (Rg:=(RD [] vI 115 (.slice none 0 0) b1.ix.val (b1.ix.val + 2))) (fun h3=>?_) (fun h3=>?_)
  ·refine Run.cw (e:=vI) (Rg:=(RD [] vI 115 (.slice none 0 0) b1.ix.val (b1.ix.val + 2))) [] 0 (os_l00Src_next__src_n _ (by first | omega | (simp only [w64_val,c64_val] at *; omega))) rfl fun r4 hr4 kr4=>?_
   refine Run.k (c:=(decide (a0.val ≠ 0))) (by kernel_rfl) (by simp only [w64_val,wu64_val,c64_val,cu64_val,decide_eq_true_eq,decide_eq_false_iff_not,cond_true,cond_false] at *; omega) ?_
   exact Run.dr (by kernel_rfl) (by kernel_rfl) (by first | omega | (simp only [w64_val,c64_val] at *; omega))
  ·refine Run.k (c:=(decide (a0.val ≠ 0))) (by kernel_rfl) (by simp only [w64_val,wu64_val,c64_val,cu64_val,decide_eq_true_eq,decide_eq_false_iff_not,cond_true,cond_false] at *; omega) ?_
   exact Run.dr (by kernel_rfl) (by kernel_rfl) (by first | omega | (simp only [w64_val,c64_val] at *; omega))
theorem os_l00Src_one__src_n (b1 : Src) (a0 : I64) (ps : 0 ≤ b1.ix.val ∧ b1.ix.val + 2 ≤ 1000000000) : FunS Tryz.prog 72 [] [srcB 115 (.slice none 0 0) b1.ix b1.sd] #[.pointer (some ⟨0,0,none⟩),vI a0] (Drew vB 115 (.slice none 0 0) b1.ix.val (b1.ix.val + 2) (S_l00Src_one__src Cd.nil b1 a0)):=by
 refine FunS.drew (fun _ _=>rfl) rfl (by kernel_rfl) (FunR.of 400 E_ok mixed Tryz.func72 (by kernel_rfl) ?_)
 show Run _ _ ((RD [] vB 115 (.slice none 0 0) b1.ix.val (b1.ix.val + 2)) (S_l00Src_one__src Cd.nil b1 a0)) _
 unfold S_l00Src_one__src
 refine Run.cw (e:=vI) (Rg:=(RD [] vB 115 (.slice none 0 0) b1.ix.val (b1.ix.val + 2))) [] 0 (os_l00Src_pick__src_n _ _ (by first | omega | (simp only [w64_val,c64_val] at *; omega))) rfl fun r1 hr1 kr1=>?_
 exact Run.dr (by kernel_rfl) (by kernel_rfl) (by first | omega | (simp only [w64_val,c64_val] at *; omega))
theorem os_l00Src_among__src__s4_n (b1_0 : I64) (b1_1 : I64) (b1_2 : I64) (b1_3 : I64) (b2 : Src) (ps : 0 ≤ b2.ix.val ∧ b2.ix.val + 2 ≤ 1000000000) : FunS Tryz.prog 121 [(#[.int .i64 b1_0.val,.int .i64 b1_1.val,.int .i64 b1_2.val,.int .i64 b1_3.val],2)] [srcB 115 (.slice none 0 0) b2.ix b2.sd] #[.pointer (some ⟨1,0,none⟩),.slice (some ⟨0,0,none⟩) 4 4] (Drew vI 115 (.slice none 0 0) b2.ix.val (b2.ix.val + 2) (S_l00Src_among__src__s4 Cd.nil b1_0 b1_1 b1_2 b1_3 b2)):=by
 refine FunS.marks (args:=#[.pointer (some ⟨1,0,none⟩),.slice (some ⟨0,0,some 0⟩) 4 4]) (by kernel_rfl) ?_
 refine FunS.drew (fun _ _=>rfl) (allc (by kernel_rfl) rfl) (by kernel_rfl) (FunR.of 400 E_ok mixed Tryz.func121 (by kernel_rfl) ?_)
 show Run _ _ ((RD [(#[.int .i64 b1_0.val,.int .i64 b1_1.val,.int .i64 b1_2.val,.int .i64 b1_3.val],2)] vI 115 (.slice none 0 0) b2.ix.val (b2.ix.val + 2)) (S_l00Src_among__src__s4 Cd.nil b1_0 b1_1 b1_2 b1_3 b2)) _
 unfold S_l00Src_among__src__s4
 refine Run.cw (e:=vI) (Rg:=(RD [(#[.int .i64 b1_0.val,.int .i64 b1_1.val,.int .i64 b1_2.val,.int .i64 b1_3.val],2)] vI 115 (.slice none 0 0) b2.ix.val (b2.ix.val + 2))) [] 1 (os_l00Src_pick__src_n _ _ (by first | omega | (simp only [w64_val,c64_val] at *; omega))) rfl fun r1 hr1 kr1=>?_
 refine Run.k (c:=(decide (0 ≤ r1.1.val ∧ r1.1.val < 4))) (by kernel_rfl) (by rw [hr1]; first | exact decide_eq_true ⟨(pick_range _ _ _).1,(pick_range _ _ _).2 (by decide)⟩ | exact ⟨(pick_range _ _ _).1,(pick_range _ _ _).2 (by decide)⟩) ?_
 refine Run.ld (by kernel_rfl) (listAt_ok (L:=[b1_0,b1_1,b1_2,b1_3]) (pad:=[]) (i:=r1.1) (by rw [hr1]; first | exact decide_eq_true ⟨(pick_range _ _ _).1,(pick_range _ _ _).2 (by decide)⟩ | exact ⟨(pick_range _ _ _).1,(pick_range _ _ _).2 (by decide)⟩)) ?_
 exact Run.dr (by kernel_rfl) (by kernel_rfl) (by first | omega | (simp only [w64_val,c64_val] at *; omega))
theorem os_l05Number__src_n (b1 : Src) (a0 : I64) (p0 : 0 ≤ a0.val) (p1 : a0.val < 9223372036854775807) (ps : 0 ≤ b1.ix.val ∧ b1.ix.val + 13 ≤ 1000000000) : FunS Tryz.prog 120 [] [srcB 115 (.slice none 0 0) b1.ix b1.sd] #[.pointer (some ⟨0,0,none⟩),vI a0] (Drew vI 115 (.slice none 0 0) b1.ix.val (b1.ix.val + 13) (S_l05Number__src Cd.nil b1 a0)):=by
 refine FunS.drew (fun _ _=>rfl) rfl (by kernel_rfl) (FunR.of 400 E_ok mixed Tryz.func120 (by kernel_rfl) ?_)
 show Run _ _ ((RD [] vI 115 (.slice none 0 0) b1.ix.val (b1.ix.val + 13)) (S_l05Number__src Cd.nil b1 a0)) _
 unfold S_l05Number__src
 refine Run.u 400 E_ok mixed Tryz.func120 ?_
 refine Run.z [true,true] ?_
 refine Run.cw (e:=vI) (Rg:=(RD [] vI 115 (.slice none 0 0) b1.ix.val (b1.ix.val + 13))) [] 0 (os_l00Src_next__src_n _ (by first | omega | (simp only [w64_val,c64_val] at *; omega))) rfl fun r1 hr1 kr1=>?_
 refine Run.u 400 E_ok mixed Tryz.func120 ?_
 refine Run.z [true,true] ?_
 refine Run.cw (e:=vI) (Rg:=(RD [] vI 115 (.slice none 0 0) b1.ix.val (b1.ix.val + 13))) [] 0 (os_l00Src_next__src_n _ (by first | omega | (simp only [w64_val,c64_val] at *; omega))) rfl fun r2 hr2 kr2=>?_
 refine Run.u 400 E_ok mixed Tryz.func120 ?_
 refine Run.z [true,true] ?_
 refine Run.cw (e:=vI) (Rg:=(RD [] vI 115 (.slice none 0 0) b1.ix.val (b1.ix.val + 13))) [] 0 (os_l00Src_next__src_n _ (by first | omega | (simp only [w64_val,c64_val] at *; omega))) rfl fun r3 hr3 kr3=>?_
 refine Run.u 400 E_ok mixed Tryz.func120 ?_
 refine Run.z [true,true] ?_
 refine Run.cw (e:=vI) (Rg:=(RD [] vI 115 (.slice none 0 0) b1.ix.val (b1.ix.val + 13))) [] 0 (os_l00Src_next__src_n _ (by first | omega | (simp only [w64_val,c64_val] at *; omega))) rfl fun r4 hr4 kr4=>?_
 refine Run.u 400 E_ok mixed Tryz.func120 ?_
 refine Run.z [true,true] ?_
 refine Run.cw (e:=vI) (Rg:=(RD [] vI 115 (.slice none 0 0) b1.ix.val (b1.ix.val + 13))) [] 0 (os_l00Src_next__src_n _ (by first | omega | (simp only [w64_val,c64_val] at *; omega))) rfl fun r5 hr5 kr5=>?_
 refine Run.u 400 E_ok mixed Tryz.func120 ?_
 refine Run.z [true,true] ?_
 refine Run.cw (e:=vI) (Rg:=(RD [] vI 115 (.slice none 0 0) b1.ix.val (b1.ix.val + 13))) [] 0 (os_l00Src_next__src_n _ (by first | omega | (simp only [w64_val,c64_val] at *; omega))) rfl fun r6 hr6 kr6=>?_
 refine Run.u 400 E_ok mixed Tryz.func120 ?_
 refine Run.z [true,true] ?_
 refine Run.cw (e:=vI) (Rg:=(RD [] vI 115 (.slice none 0 0) b1.ix.val (b1.ix.val + 13))) [] 0 (os_l00Src_next__src_n _ (by first | omega | (simp only [w64_val,c64_val] at *; omega))) rfl fun r7 hr7 kr7=>?_
 refine Run.u 400 E_ok mixed Tryz.func120 ?_
 refine Run.z [false] ?_
 refine Run.k (c:=(decide ((w64 (a0.val + 1)).val ≠ 0))) (by kernel_rfl) (by simp only [w64_val,wu64_val,c64_val,cu64_val,decide_eq_true_eq,decide_eq_false_iff_not,cond_true,cond_false] at *; omega) ?_
 refine Run.cw (e:=vI) (Rg:=(RD [] vI 115 (.slice none 0 0) b1.ix.val (b1.ix.val + 13))) [] 0 (os_l00Src_pick__src_n _ _ (by first | omega | (simp only [w64_val,c64_val] at *; omega))) rfl fun r8 hr8 kr8=>?_
 refine Run.gy (Rg:=(RD [] vI 115 (.slice none 0 0) b1.ix.val (b1.ix.val + 13))) (fun h9=>?_) (fun h9=>?_)
 ·refine Run.cw (e:=vI) (Rg:=(RD [] vI 115 (.slice none 0 0) b1.ix.val (b1.ix.val + 13))) [] 0 (os_l00Src_pick__src_n _ _ (by first | omega | (simp only [w64_val,c64_val] at *; omega))) rfl fun r10 hr10 kr10=>?_
  refine Run.k (c:=(decide (0 ≤ (wu64 r10.1.val).val))) (by kernel_rfl) (by simp only [w64_val,wu64_val,c64_val,cu64_val,decide_eq_true_eq,decide_eq_false_iff_not,cond_true,cond_false] at *; omega) ?_
  refine Run.cw (e:=vB) (Rg:=(RD [] vI 115 (.slice none 0 0) b1.ix.val (b1.ix.val + 13))) [] 0 (os_l00Src_one__src_n _ _ (by first | omega | (simp only [w64_val,c64_val] at *; omega))) rfl fun r11 hr11 kr11=>?_
  refine Run.gy (Rg:=(RD [] vI 115 (.slice none 0 0) b1.ix.val (b1.ix.val + 13))) (fun h12=>?_) (fun h12=>?_)
  ·exact Run.dr (by kernel_rfl) (by kernel_rfl) (by first | omega | (simp only [w64_val,c64_val] at *; omega))
  ·exact Run.dr (by kernel_rfl) (by kernel_rfl) (by first | omega | (simp only [w64_val,c64_val] at *; omega))
 ·refine Run.gy (Rg:=(RD [] vI 115 (.slice none 0 0) b1.ix.val (b1.ix.val + 13))) (fun h13=>?_) (fun h13=>?_)
  ·refine Run.z [true] ?_
   refine Run.cw (e:=vI) (Rg:=(RD [] vI 115 (.slice none 0 0) b1.ix.val (b1.ix.val + 13))) [1] 0 (os_l00Src_among__src__s4_n _ _ _ _ _ (by first | omega | (simp only [w64_val,c64_val] at *; omega))) (allc (by kernel_rfl) rfl) fun r14 hr14 kr14=>?_
   refine Run.cw (e:=vB) (Rg:=(RD [] vI 115 (.slice none 0 0) b1.ix.val (b1.ix.val + 13))) [] 0 (os_l00Src_one__src_n _ _ (by first | omega | (simp only [w64_val,c64_val] at *; omega))) rfl fun r15 hr15 kr15=>?_
   refine Run.gy (Rg:=(RD [] vI 115 (.slice none 0 0) b1.ix.val (b1.ix.val + 13))) (fun h16=>?_) (fun h16=>?_)
   ·exact Run.dr (by kernel_rfl) (by kernel_rfl) (by first | omega | (simp only [w64_val,c64_val] at *; omega))
   ·exact Run.dr (by kernel_rfl) (by kernel_rfl) (by first | omega | (simp only [w64_val,c64_val] at *; omega))
  ·refine Run.cw (e:=vB) (Rg:=(RD [] vI 115 (.slice none 0 0) b1.ix.val (b1.ix.val + 13))) [] 0 (os_l00Src_one__src_n _ _ (by first | omega | (simp only [w64_val,c64_val] at *; omega))) rfl fun r17 hr17 kr17=>?_
   refine Run.gy (Rg:=(RD [] vI 115 (.slice none 0 0) b1.ix.val (b1.ix.val + 13))) (fun h18=>?_) (fun h18=>?_)
   ·exact Run.dr (by kernel_rfl) (by kernel_rfl) (by first | omega | (simp only [w64_val,c64_val] at *; omega))
   ·exact Run.dr (by kernel_rfl) (by kernel_rfl) (by first | omega | (simp only [w64_val,c64_val] at *; omega))
theorem os_l00Src_among__src__s5_n (b1_0 : I64) (b1_1 : I64) (b1_2 : I64) (b1_3 : I64) (b1_4 : I64) (b2 : Src) (ps : 0 ≤ b2.ix.val ∧ b2.ix.val + 2 ≤ 1000000000) : FunS Tryz.prog 121 [(#[.int .i64 b1_0.val,.int .i64 b1_1.val,.int .i64 b1_2.val,.int .i64 b1_3.val,.int .i64 b1_4.val],2)] [srcB 115 (.slice none 0 0) b2.ix b2.sd] #[.pointer (some ⟨1,0,none⟩),.slice (some ⟨0,0,none⟩) 5 5] (Drew vI 115 (.slice none 0 0) b2.ix.val (b2.ix.val + 2) (S_l00Src_among__src__s5 Cd.nil b1_0 b1_1 b1_2 b1_3 b1_4 b2)):=by
 refine FunS.marks (args:=#[.pointer (some ⟨1,0,none⟩),.slice (some ⟨0,0,some 0⟩) 5 5]) (by kernel_rfl) ?_
 refine FunS.drew (fun _ _=>rfl) (allc (by kernel_rfl) rfl) (by kernel_rfl) (FunR.of 400 E_ok mixed Tryz.func121 (by kernel_rfl) ?_)
 show Run _ _ ((RD [(#[.int .i64 b1_0.val,.int .i64 b1_1.val,.int .i64 b1_2.val,.int .i64 b1_3.val,.int .i64 b1_4.val],2)] vI 115 (.slice none 0 0) b2.ix.val (b2.ix.val + 2)) (S_l00Src_among__src__s5 Cd.nil b1_0 b1_1 b1_2 b1_3 b1_4 b2)) _
 unfold S_l00Src_among__src__s5
 refine Run.cw (e:=vI) (Rg:=(RD [(#[.int .i64 b1_0.val,.int .i64 b1_1.val,.int .i64 b1_2.val,.int .i64 b1_3.val,.int .i64 b1_4.val],2)] vI 115 (.slice none 0 0) b2.ix.val (b2.ix.val + 2))) [] 1 (os_l00Src_pick__src_n _ _ (by first | omega | (simp only [w64_val,c64_val] at *; omega))) rfl fun r1 hr1 kr1=>?_
 refine Run.k (c:=(decide (0 ≤ r1.1.val ∧ r1.1.val < 5))) (by kernel_rfl) (by rw [hr1]; first | exact decide_eq_true ⟨(pick_range _ _ _).1,(pick_range _ _ _).2 (by decide)⟩ | exact ⟨(pick_range _ _ _).1,(pick_range _ _ _).2 (by decide)⟩) ?_
 refine Run.ld (by kernel_rfl) (listAt_ok (L:=[b1_0,b1_1,b1_2,b1_3,b1_4]) (pad:=[]) (i:=r1.1) (by rw [hr1]; first | exact decide_eq_true ⟨(pick_range _ _ _).1,(pick_range _ _ _).2 (by decide)⟩ | exact ⟨(pick_range _ _ _).1,(pick_range _ _ _).2 (by decide)⟩)) ?_
 exact Run.dr (by kernel_rfl) (by kernel_rfl) (by first | omega | (simp only [w64_val,c64_val] at *; omega))
theorem os_l11Draw__src_n (b1 : Src) (ps : 0 ≤ b1.ix.val ∧ b1.ix.val + 30 ≤ 1000000000) : FunS Tryz.prog 36 [] [srcB 115 (.slice none 0 0) b1.ix b1.sd] #[.pointer (some ⟨0,0,none⟩)] (Drew vPt 115 (.slice none 0 0) b1.ix.val (b1.ix.val + 30) (S_l11Draw__src Cd.nil b1)):=by
 refine FunS.drew (fun _ _=>rfl) rfl (by kernel_rfl) (FunR.of 400 E_ok mixed Tryz.func36 (by kernel_rfl) ?_)
 show Run _ _ ((RD [] vPt 115 (.slice none 0 0) b1.ix.val (b1.ix.val + 30)) (S_l11Draw__src Cd.nil b1)) _
 unfold S_l11Draw__src
 refine Run.cw (e:=vI) (Rg:=(RD [] vPt 115 (.slice none 0 0) b1.ix.val (b1.ix.val + 30))) [] 0 (os_l05Number__src_n _ _ (by simp only [w64_val,wu64_val,c64_val,cu64_val,decide_eq_true_eq,decide_eq_false_iff_not,cond_true,cond_false] at *; omega) (by simp only [w64_val,wu64_val,c64_val,cu64_val,decide_eq_true_eq,decide_eq_false_iff_not,cond_true,cond_false] at *; omega) (by first | omega | (simp only [w64_val,c64_val] at *; omega))) rfl fun r1 hr1 kr1=>?_
 refine Run.cw (e:=vI) (Rg:=(RD [] vPt 115 (.slice none 0 0) b1.ix.val (b1.ix.val + 30))) [] 0 (os_l05Number__src_n _ _ (by simp only [w64_val,wu64_val,c64_val,cu64_val,decide_eq_true_eq,decide_eq_false_iff_not,cond_true,cond_false] at *; omega) (by simp only [w64_val,wu64_val,c64_val,cu64_val,decide_eq_true_eq,decide_eq_false_iff_not,cond_true,cond_false] at *; omega) (by first | omega | (simp only [w64_val,c64_val] at *; omega))) rfl fun r2 hr2 kr2=>?_
 refine Run.gq (Rg:=(RD [] vPt 115 (.slice none 0 0) b1.ix.val (b1.ix.val + 30))) (e:=vI) (os_l11Wrap _) fun r3 hr3=>?_
 refine Run.cw (e:=vI) (Rg:=(RD [] vPt 115 (.slice none 0 0) b1.ix.val (b1.ix.val + 30))) [] 0 (os_l00Src_pick__src_n _ _ (by first | omega | (simp only [w64_val,c64_val] at *; omega))) rfl fun r4 hr4 kr4=>?_
 refine Run.gy (Rg:=(RD [] vPt 115 (.slice none 0 0) b1.ix.val (b1.ix.val + 30))) (fun h5=>?_) (fun h5=>?_)
 ·refine Run.cw (e:=vI) (Rg:=(RD [] vPt 115 (.slice none 0 0) b1.ix.val (b1.ix.val + 30))) [3] 0 (os_l00Src_among__src__s4_n _ _ _ _ _ (by first | omega | (simp only [w64_val,c64_val] at *; omega))) (allc (by kernel_rfl) rfl) fun r6 hr6 kr6=>?_
  exact Run.dr (by kernel_rfl) (by kernel_rfl) (by first | omega | (simp only [w64_val,c64_val] at *; omega))
 ·refine Run.gy (Rg:=(RD [] vPt 115 (.slice none 0 0) b1.ix.val (b1.ix.val + 30))) (fun h7=>?_) (fun h7=>?_)
  ·refine Run.cw (e:=vI) (Rg:=(RD [] vPt 115 (.slice none 0 0) b1.ix.val (b1.ix.val + 30))) [3] 0 (os_l00Src_among__src__s5_n _ _ _ _ _ _ (by first | omega | (simp only [w64_val,c64_val] at *; omega))) (allc (by kernel_rfl) rfl) fun r8 hr8 kr8=>?_
   exact Run.dr (by kernel_rfl) (by kernel_rfl) (by first | omega | (simp only [w64_val,c64_val] at *; omega))
  ·exact Run.dr (by kernel_rfl) (by kernel_rfl) (by first | omega | (simp only [w64_val,c64_val] at *; omega))
theorem os_l17Draw__src_n (b1 : Src) (a0 : I64) (ps : 0 ≤ b1.ix.val ∧ b1.ix.val + 60 ≤ 1000000000) : FunS Tryz.prog 31 [] [srcB 115 (.slice none 0 0) b1.ix b1.sd] #[.pointer (some ⟨0,0,none⟩),vI a0] (Drew vPj 115 (.slice none 0 0) b1.ix.val (b1.ix.val + 60) (S_l17Draw__src Cd.nil b1 a0)):=by
 refine FunS.drew (fun _ _=>rfl) rfl (by kernel_rfl) (FunR.of 400 E_ok mixed Tryz.func31 (by kernel_rfl) ?_)
 show Run _ _ ((RD [] vPj 115 (.slice none 0 0) b1.ix.val (b1.ix.val + 60)) (S_l17Draw__src Cd.nil b1 a0)) _
 unfold S_l17Draw__src
 refine Run.cw (e:=vPt) (Rg:=(RD [] vPj 115 (.slice none 0 0) b1.ix.val (b1.ix.val + 60))) [] 0 (os_l11Draw__src_n _ (by first | omega | (simp only [w64_val,c64_val] at *; omega))) rfl fun r1 hr1 kr1=>?_
 refine Run.gy (Rg:=(RD [] vPj 115 (.slice none 0 0) b1.ix.val (b1.ix.val + 60))) (fun h2=>?_) (fun h2=>?_)
 ·refine Run.z [true,true,true] ?_
  refine Run.cw (e:=vI) (Rg:=(RD [] vPj 115 (.slice none 0 0) b1.ix.val (b1.ix.val + 60))) [] 0 (os_l00Src_pick__src_n _ _ (by first | omega | (simp only [w64_val,c64_val] at *; omega))) rfl fun r3 hr3 kr3=>?_
  exact Run.dr (by kernel_rfl) (by kernel_rfl) (by first | omega | (simp only [w64_val,c64_val] at *; omega))
 ·refine Run.z [false,false] ?_
  refine Run.gy (Rg:=(RD [] vPj 115 (.slice none 0 0) b1.ix.val (b1.ix.val + 60))) (fun h4=>?_) (fun h4=>?_)
  ·refine Run.cw (e:=vI) (Rg:=(RD [] vPj 115 (.slice none 0 0) b1.ix.val (b1.ix.val + 60))) [] 0 (os_l00Src_pick__src_n _ _ (by first | omega | (simp only [w64_val,c64_val] at *; omega))) rfl fun r5 hr5 kr5=>?_
   exact Run.dr (by kernel_rfl) (by kernel_rfl) (by first | omega | (simp only [w64_val,c64_val] at *; omega))
  ·refine Run.gq (Rg:=(RD [] vPj 115 (.slice none 0 0) b1.ix.val (b1.ix.val + 60))) (e:=vB) (os_l00In _ _ _) fun r6 hr6=>?_
   refine Run.gy (Rg:=(RD [] vPj 115 (.slice none 0 0) b1.ix.val (b1.ix.val + 60))) (fun h7=>?_) (fun h7=>?_)
   ·refine Run.z [true,true,true] ?_
    refine Run.cw (e:=vPt) (Rg:=(RD [] vPj 115 (.slice none 0 0) b1.ix.val (b1.ix.val + 60))) [] 0 (os_l11Draw__src_n _ (by first | omega | (simp only [w64_val,c64_val] at *; omega))) rfl fun r8 hr8 kr8=>?_
    exact Run.dr (by kernel_rfl) (by kernel_rfl) (by first | omega | (simp only [w64_val,c64_val] at *; omega))
   ·refine Run.z [false,false] ?_
    refine Run.gy (Rg:=(RD [] vPj 115 (.slice none 0 0) b1.ix.val (b1.ix.val + 60))) (fun h9=>?_) (fun h9=>?_)
    ·refine Run.cw (e:=vPt) (Rg:=(RD [] vPj 115 (.slice none 0 0) b1.ix.val (b1.ix.val + 60))) [] 0 (os_l11Draw__src_n _ (by first | omega | (simp only [w64_val,c64_val] at *; omega))) rfl fun r10 hr10 kr10=>?_
     exact Run.dr (by kernel_rfl) (by kernel_rfl) (by first | omega | (simp only [w64_val,c64_val] at *; omega))
    ·refine Run.gq (Rg:=(RD [] vPj 115 (.slice none 0 0) b1.ix.val (b1.ix.val + 60))) (e:=vB) (os_l00In _ _ _) fun r11 hr11=>?_
     refine Run.gy (Rg:=(RD [] vPj 115 (.slice none 0 0) b1.ix.val (b1.ix.val + 60))) (fun h12=>?_) (fun h12=>?_)
     ·refine Run.cw (e:=vI) (Rg:=(RD [] vPj 115 (.slice none 0 0) b1.ix.val (b1.ix.val + 60))) [] 0 (os_l00Src_pick__src_n _ _ (by first | omega | (simp only [w64_val,c64_val] at *; omega))) rfl fun r13 hr13 kr13=>?_
      refine Run.cw (e:=vI) (Rg:=(RD [] vPj 115 (.slice none 0 0) b1.ix.val (b1.ix.val + 60))) [] 0 (os_l00Src_pick__src_n _ _ (by first | omega | (simp only [w64_val,c64_val] at *; omega))) rfl fun r14 hr14 kr14=>?_
      refine Run.cw (e:=vI) (Rg:=(RD [] vPj 115 (.slice none 0 0) b1.ix.val (b1.ix.val + 60))) [] 0 (os_l00Src_pick__src_n _ _ (by first | omega | (simp only [w64_val,c64_val] at *; omega))) rfl fun r15 hr15 kr15=>?_
      refine Run.cw (e:=vB) (Rg:=(RD [] vPj 115 (.slice none 0 0) b1.ix.val (b1.ix.val + 60))) [] 0 (os_l00Src_one__src_n _ _ (by first | omega | (simp only [w64_val,c64_val] at *; omega))) rfl fun r16 hr16 kr16=>?_
      refine Run.gy (Rg:=(RD [] vPj 115 (.slice none 0 0) b1.ix.val (b1.ix.val + 60))) (fun h17=>?_) (fun h17=>?_)
      ·refine Run.cw (e:=vB) (Rg:=(RD [] vPj 115 (.slice none 0 0) b1.ix.val (b1.ix.val + 60))) [] 0 (os_l00Src_one__src_n _ _ (by first | omega | (simp only [w64_val,c64_val] at *; omega))) rfl fun r18 hr18 kr18=>?_
       refine Run.gy (Rg:=(RD [] vPj 115 (.slice none 0 0) b1.ix.val (b1.ix.val + 60))) (fun h19=>?_) (fun h19=>?_)
       ·exact Run.dr (by kernel_rfl) (by kernel_rfl) (by first | omega | (simp only [w64_val,c64_val] at *; omega))
       ·exact Run.dr (by kernel_rfl) (by kernel_rfl) (by first | omega | (simp only [w64_val,c64_val] at *; omega))
      ·refine Run.cw (e:=vB) (Rg:=(RD [] vPj 115 (.slice none 0 0) b1.ix.val (b1.ix.val + 60))) [] 0 (os_l00Src_one__src_n _ _ (by first | omega | (simp only [w64_val,c64_val] at *; omega))) rfl fun r20 hr20 kr20=>?_
       refine Run.gy (Rg:=(RD [] vPj 115 (.slice none 0 0) b1.ix.val (b1.ix.val + 60))) (fun h21=>?_) (fun h21=>?_)
       ·exact Run.dr (by kernel_rfl) (by kernel_rfl) (by first | omega | (simp only [w64_val,c64_val] at *; omega))
       ·exact Run.dr (by kernel_rfl) (by kernel_rfl) (by first | omega | (simp only [w64_val,c64_val] at *; omega))
     ·exact Run.dr (by kernel_rfl) (by kernel_rfl) (by first | omega | (simp only [w64_val,c64_val] at *; omega))
theorem os_l00Src_among__src__s3_n (b1_0 : I64) (b1_1 : I64) (b1_2 : I64) (b2 : Src) (ps : 0 ≤ b2.ix.val ∧ b2.ix.val + 2 ≤ 1000000000) : FunS Tryz.prog 121 [(#[.int .i64 b1_0.val,.int .i64 b1_1.val,.int .i64 b1_2.val],2)] [srcB 115 (.slice none 0 0) b2.ix b2.sd] #[.pointer (some ⟨1,0,none⟩),.slice (some ⟨0,0,none⟩) 3 3] (Drew vI 115 (.slice none 0 0) b2.ix.val (b2.ix.val + 2) (S_l00Src_among__src__s3 Cd.nil b1_0 b1_1 b1_2 b2)):=by
 refine FunS.marks (args:=#[.pointer (some ⟨1,0,none⟩),.slice (some ⟨0,0,some 0⟩) 3 3]) (by kernel_rfl) ?_
 refine FunS.drew (fun _ _=>rfl) (allc (by kernel_rfl) rfl) (by kernel_rfl) (FunR.of 400 E_ok mixed Tryz.func121 (by kernel_rfl) ?_)
 show Run _ _ ((RD [(#[.int .i64 b1_0.val,.int .i64 b1_1.val,.int .i64 b1_2.val],2)] vI 115 (.slice none 0 0) b2.ix.val (b2.ix.val + 2)) (S_l00Src_among__src__s3 Cd.nil b1_0 b1_1 b1_2 b2)) _
 unfold S_l00Src_among__src__s3
 refine Run.cw (e:=vI) (Rg:=(RD [(#[.int .i64 b1_0.val,.int .i64 b1_1.val,.int .i64 b1_2.val],2)] vI 115 (.slice none 0 0) b2.ix.val (b2.ix.val + 2))) [] 1 (os_l00Src_pick__src_n _ _ (by first | omega | (simp only [w64_val,c64_val] at *; omega))) rfl fun r1 hr1 kr1=>?_
 refine Run.k (c:=(decide (0 ≤ r1.1.val ∧ r1.1.val < 3))) (by kernel_rfl) (by rw [hr1]; first | exact decide_eq_true ⟨(pick_range _ _ _).1,(pick_range _ _ _).2 (by decide)⟩ | exact ⟨(pick_range _ _ _).1,(pick_range _ _ _).2 (by decide)⟩) ?_
 refine Run.ld (by kernel_rfl) (listAt_ok (L:=[b1_0,b1_1,b1_2]) (pad:=[]) (i:=r1.1) (by rw [hr1]; first | exact decide_eq_true ⟨(pick_range _ _ _).1,(pick_range _ _ _).2 (by decide)⟩ | exact ⟨(pick_range _ _ _).1,(pick_range _ _ _).2 (by decide)⟩)) ?_
 exact Run.dr (by kernel_rfl) (by kernel_rfl) (by first | omega | (simp only [w64_val,c64_val] at *; omega))
theorem os_l11Bent__src_n (b1 : Src) (ps : 0 ≤ b1.ix.val ∧ b1.ix.val + 34 ≤ 1000000000) : FunS Tryz.prog 116 [] [srcB 115 (.slice none 0 0) b1.ix b1.sd] #[.pointer (some ⟨0,0,none⟩)] (Drew vPt 115 (.slice none 0 0) b1.ix.val (b1.ix.val + 34) (S_l11Bent__src Cd.nil b1)):=by
 refine FunS.drew (fun _ _=>rfl) rfl (by kernel_rfl) (FunR.of 400 E_ok mixed Tryz.func116 (by kernel_rfl) ?_)
 show Run _ _ ((RD [] vPt 115 (.slice none 0 0) b1.ix.val (b1.ix.val + 34)) (S_l11Bent__src Cd.nil b1)) _
 unfold S_l11Bent__src
 refine Run.cw (e:=vPt) (Rg:=(RD [] vPt 115 (.slice none 0 0) b1.ix.val (b1.ix.val + 34))) [] 0 (os_l11Draw__src_n _ (by first | omega | (simp only [w64_val,c64_val] at *; omega))) rfl fun r1 hr1 kr1=>?_
 refine Run.cw (e:=vI) (Rg:=(RD [] vPt 115 (.slice none 0 0) b1.ix.val (b1.ix.val + 34))) [] 0 (os_l00Src_pick__src_n _ _ (by first | omega | (simp only [w64_val,c64_val] at *; omega))) rfl fun r2 hr2 kr2=>?_
 refine Run.gy (Rg:=(RD [] vPt 115 (.slice none 0 0) b1.ix.val (b1.ix.val + 34))) (fun h3=>?_) (fun h3=>?_)
 ·refine Run.cw (e:=vI) (Rg:=(RD [] vPt 115 (.slice none 0 0) b1.ix.val (b1.ix.val + 34))) [3] 0 (os_l00Src_among__src__s3_n _ _ _ _ (by first | omega | (simp only [w64_val,c64_val] at *; omega))) (allc (by kernel_rfl) rfl) fun r4 hr4 kr4=>?_
  exact Run.dr (by kernel_rfl) (by kernel_rfl) (by first | omega | (simp only [w64_val,c64_val] at *; omega))
 ·refine Run.gy (Rg:=(RD [] vPt 115 (.slice none 0 0) b1.ix.val (b1.ix.val + 34))) (fun h5=>?_) (fun h5=>?_)
  ·refine Run.cw (e:=vI) (Rg:=(RD [] vPt 115 (.slice none 0 0) b1.ix.val (b1.ix.val + 34))) [3] 0 (os_l00Src_among__src__s3_n _ _ _ _ (by first | omega | (simp only [w64_val,c64_val] at *; omega))) (allc (by kernel_rfl) rfl) fun r6 hr6 kr6=>?_
   exact Run.dr (by kernel_rfl) (by kernel_rfl) (by first | omega | (simp only [w64_val,c64_val] at *; omega))
  ·exact Run.dr (by kernel_rfl) (by kernel_rfl) (by first | omega | (simp only [w64_val,c64_val] at *; omega))
theorem os_l22Near__src_n (b1 : Src) (a0 : Pj) (ps : 0 ≤ b1.ix.val ∧ b1.ix.val + 40 ≤ 1000000000) : FunS Tryz.prog 34 [] [srcB 115 (.slice none 0 0) b1.ix b1.sd] #[.pointer (some ⟨0,0,none⟩),vPj a0] (Drew vPt 115 (.slice none 0 0) b1.ix.val (b1.ix.val + 40) (S_l22Near__src Cd.nil b1 a0)):=by
 refine FunS.drew (fun _ _=>rfl) rfl (by kernel_rfl) (FunR.of 400 E_ok mixed Tryz.func34 (by kernel_rfl) ?_)
 show Run _ _ ((RD [] vPt 115 (.slice none 0 0) b1.ix.val (b1.ix.val + 40)) (S_l22Near__src Cd.nil b1 a0)) _
 unfold S_l22Near__src
 refine Run.cw (e:=vPt) (Rg:=(RD [] vPt 115 (.slice none 0 0) b1.ix.val (b1.ix.val + 40))) [] 0 (os_l11Bent__src_n _ (by first | omega | (simp only [w64_val,c64_val] at *; omega))) rfl fun r1 hr1 kr1=>?_
 refine Run.cw (e:=vB) (Rg:=(RD [] vPt 115 (.slice none 0 0) b1.ix.val (b1.ix.val + 40))) [] 0 (os_l00Src_one__src_n _ _ (by first | omega | (simp only [w64_val,c64_val] at *; omega))) rfl fun r2 hr2 kr2=>?_
 refine Run.gy (Rg:=(RD [] vPt 115 (.slice none 0 0) b1.ix.val (b1.ix.val + 40))) (fun h3=>?_) (fun h3=>?_)
 ·refine Run.z [true,true,true,true] ?_
  exact Run.dr (by kernel_rfl) (by kernel_rfl) (by first | omega | (simp only [w64_val,c64_val] at *; omega))
 ·refine Run.z [false] ?_
  refine Run.gq (Rg:=(RD [] vPt 115 (.slice none 0 0) b1.ix.val (b1.ix.val + 40))) (e:=vB) (os_l11Ok _) fun r4 hr4=>?_
  refine Run.z [false,false] ?_
  refine Run.gy (Rg:=(RD [] vPt 115 (.slice none 0 0) b1.ix.val (b1.ix.val + 40))) (fun h5=>?_) (fun h5=>?_)
  ·exact Run.dr (by kernel_rfl) (by kernel_rfl) (by first | omega | (simp only [w64_val,c64_val] at *; omega))
  ·refine Run.gq (Rg:=(RD [] vPt 115 (.slice none 0 0) b1.ix.val (b1.ix.val + 40))) (e:=vI) (os_l22Family _) fun r6 hr6=>?_
   refine Run.gy (Rg:=(RD [] vPt 115 (.slice none 0 0) b1.ix.val (b1.ix.val + 40))) (fun h7=>?_) (fun h7=>?_)
   ·refine Run.cw (e:=vI) (Rg:=(RD [] vPt 115 (.slice none 0 0) b1.ix.val (b1.ix.val + 40))) [] 0 (os_l00Src_pick__src_n _ _ (by first | omega | (simp only [w64_val,c64_val] at *; omega))) rfl fun r8 hr8 kr8=>?_
    refine Run.o (by kernel_rfl) ?_ ?_
    ·refine Run.gq (Rg:=(RD [] vPt 115 (.slice none 0 0) b1.ix.val (b1.ix.val + 40))) (e:=vI) (os_l00Min _ _) fun r9 hr9=>?_
     refine Run.o (by kernel_rfl) ?_ ?_
     ·refine Run.gq (Rg:=(RD [] vPt 115 (.slice none 0 0) b1.ix.val (b1.ix.val + 40))) (e:=vI) (os_l00Max _ _) fun r10 hr10=>?_
      refine Run.o (by kernel_rfl) ?_ ?_
      ·refine Run.cw (e:=vI) (Rg:=(RD [] vPt 115 (.slice none 0 0) b1.ix.val (b1.ix.val + 40))) [] 0 (os_l00Src_pick__src_n _ _ (by first | omega | (simp only [w64_val,c64_val] at *; omega))) rfl fun r11 hr11 kr11=>?_
       refine Run.gq (Rg:=(RD [] vPt 115 (.slice none 0 0) b1.ix.val (b1.ix.val + 40))) (e:=vI) (os_l11Wrap _) fun r12 hr12=>?_
       exact Run.dr (by kernel_rfl) (by kernel_rfl) (by first | omega | (simp only [w64_val,c64_val] at *; omega))
      ·refine Run.cw (e:=vI) (Rg:=(RD [] vPt 115 (.slice none 0 0) b1.ix.val (b1.ix.val + 40))) [] 0 (os_l00Src_pick__src_n _ _ (by first | omega | (simp only [w64_val,c64_val] at *; omega))) rfl fun r13 hr13 kr13=>?_
       refine Run.gq (Rg:=(RD [] vPt 115 (.slice none 0 0) b1.ix.val (b1.ix.val + 40))) (e:=vI) (os_l11Wrap _) fun r14 hr14=>?_
       exact Run.dr (by kernel_rfl) (by kernel_rfl) (by first | omega | (simp only [w64_val,c64_val] at *; omega))
     ·refine Run.gq (Rg:=(RD [] vPt 115 (.slice none 0 0) b1.ix.val (b1.ix.val + 40))) (e:=vI) (os_l00Max _ _) fun r15 hr15=>?_
      refine Run.cw (e:=vI) (Rg:=(RD [] vPt 115 (.slice none 0 0) b1.ix.val (b1.ix.val + 40))) [] 0 (os_l00Src_pick__src_n _ _ (by first | omega | (simp only [w64_val,c64_val] at *; omega))) rfl fun r16 hr16 kr16=>?_
      refine Run.gq (Rg:=(RD [] vPt 115 (.slice none 0 0) b1.ix.val (b1.ix.val + 40))) (e:=vI) (os_l11Wrap _) fun r17 hr17=>?_
      exact Run.dr (by kernel_rfl) (by kernel_rfl) (by first | omega | (simp only [w64_val,c64_val] at *; omega))
    ·refine Run.gq (Rg:=(RD [] vPt 115 (.slice none 0 0) b1.ix.val (b1.ix.val + 40))) (e:=vI) (os_l00Min _ _) fun r18 hr18=>?_
     refine Run.gq (Rg:=(RD [] vPt 115 (.slice none 0 0) b1.ix.val (b1.ix.val + 40))) (e:=vI) (os_l00Max _ _) fun r19 hr19=>?_
     refine Run.cw (e:=vI) (Rg:=(RD [] vPt 115 (.slice none 0 0) b1.ix.val (b1.ix.val + 40))) [] 0 (os_l00Src_pick__src_n _ _ (by first | omega | (simp only [w64_val,c64_val] at *; omega))) rfl fun r20 hr20 kr20=>?_
     refine Run.gq (Rg:=(RD [] vPt 115 (.slice none 0 0) b1.ix.val (b1.ix.val + 40))) (e:=vI) (os_l11Wrap _) fun r21 hr21=>?_
     exact Run.dr (by kernel_rfl) (by kernel_rfl) (by first | omega | (simp only [w64_val,c64_val] at *; omega))
   ·refine Run.cw (e:=vI) (Rg:=(RD [] vPt 115 (.slice none 0 0) b1.ix.val (b1.ix.val + 40))) [] 0 (os_l00Src_pick__src_n _ _ (by first | omega | (simp only [w64_val,c64_val] at *; omega))) rfl fun r22 hr22 kr22=>?_
    refine Run.o (by kernel_rfl) ?_ ?_
    ·refine Run.gq (Rg:=(RD [] vPt 115 (.slice none 0 0) b1.ix.val (b1.ix.val + 40))) (e:=vI) (os_l00Min _ _) fun r23 hr23=>?_
     refine Run.o (by kernel_rfl) ?_ ?_
     ·refine Run.gq (Rg:=(RD [] vPt 115 (.slice none 0 0) b1.ix.val (b1.ix.val + 40))) (e:=vI) (os_l00Max _ _) fun r24 hr24=>?_
      refine Run.o (by kernel_rfl) ?_ ?_
      ·refine Run.cw (e:=vI) (Rg:=(RD [] vPt 115 (.slice none 0 0) b1.ix.val (b1.ix.val + 40))) [] 0 (os_l00Src_pick__src_n _ _ (by first | omega | (simp only [w64_val,c64_val] at *; omega))) rfl fun r25 hr25 kr25=>?_
       refine Run.gq (Rg:=(RD [] vPt 115 (.slice none 0 0) b1.ix.val (b1.ix.val + 40))) (e:=vI) (os_l11Wrap _) fun r26 hr26=>?_
       exact Run.dr (by kernel_rfl) (by kernel_rfl) (by first | omega | (simp only [w64_val,c64_val] at *; omega))
      ·refine Run.cw (e:=vI) (Rg:=(RD [] vPt 115 (.slice none 0 0) b1.ix.val (b1.ix.val + 40))) [] 0 (os_l00Src_pick__src_n _ _ (by first | omega | (simp only [w64_val,c64_val] at *; omega))) rfl fun r27 hr27 kr27=>?_
       refine Run.gq (Rg:=(RD [] vPt 115 (.slice none 0 0) b1.ix.val (b1.ix.val + 40))) (e:=vI) (os_l11Wrap _) fun r28 hr28=>?_
       exact Run.dr (by kernel_rfl) (by kernel_rfl) (by first | omega | (simp only [w64_val,c64_val] at *; omega))
     ·refine Run.gq (Rg:=(RD [] vPt 115 (.slice none 0 0) b1.ix.val (b1.ix.val + 40))) (e:=vI) (os_l00Max _ _) fun r29 hr29=>?_
      refine Run.cw (e:=vI) (Rg:=(RD [] vPt 115 (.slice none 0 0) b1.ix.val (b1.ix.val + 40))) [] 0 (os_l00Src_pick__src_n _ _ (by first | omega | (simp only [w64_val,c64_val] at *; omega))) rfl fun r30 hr30 kr30=>?_
      refine Run.gq (Rg:=(RD [] vPt 115 (.slice none 0 0) b1.ix.val (b1.ix.val + 40))) (e:=vI) (os_l11Wrap _) fun r31 hr31=>?_
      exact Run.dr (by kernel_rfl) (by kernel_rfl) (by first | omega | (simp only [w64_val,c64_val] at *; omega))
    ·refine Run.gq (Rg:=(RD [] vPt 115 (.slice none 0 0) b1.ix.val (b1.ix.val + 40))) (e:=vI) (os_l00Min _ _) fun r32 hr32=>?_
     refine Run.gq (Rg:=(RD [] vPt 115 (.slice none 0 0) b1.ix.val (b1.ix.val + 40))) (e:=vI) (os_l00Max _ _) fun r33 hr33=>?_
     refine Run.cw (e:=vI) (Rg:=(RD [] vPt 115 (.slice none 0 0) b1.ix.val (b1.ix.val + 40))) [] 0 (os_l00Src_pick__src_n _ _ (by first | omega | (simp only [w64_val,c64_val] at *; omega))) rfl fun r34 hr34 kr34=>?_
     refine Run.gq (Rg:=(RD [] vPt 115 (.slice none 0 0) b1.ix.val (b1.ix.val + 40))) (e:=vI) (os_l11Wrap _) fun r35 hr35=>?_
     exact Run.dr (by kernel_rfl) (by kernel_rfl) (by first | omega | (simp only [w64_val,c64_val] at *; omega))
theorem os_A2Projection_n (a0 : I64) (a1 : I64) : Fun Tryz.prog 6 [] #[.slice none 0 0,vI a0,vI a1] (vT_Pj_Pt (S_A2Projection Cd.nil a0 a1)) []:=by
 refine Fun.ofH 400 E_ok mixed Tryz.func6 (by kernel_rfl) (by kernel_rfl) ?_
 unfold S_A2Projection
 refine Run.cf [] os_l00From_n rfl ?_
 refine Run.cw (e:=vI) (Rg:=(fun b=>RvH [] (vT_Pj_Pt b))) [] 2 (os_l00Src_pick__src_n _ _ (by first | omega | (simp only [w64_val,c64_val] at *; omega))) rfl fun r1 hr1 kr1=>?_
 refine Run.cw (e:=vPj) (Rg:=(fun b=>RvH [] (vT_Pj_Pt b))) [] 2 (os_l17Draw__src_n _ _ (by first | omega | (simp only [w64_val,c64_val] at *; omega))) rfl fun r2 hr2 kr2=>?_
 refine Run.q (e:=vB) (gv:=vT_Pj_Pt) (os_l17Ok _) fun r3 hr3=>?_
 refine Run.y (gv:=vT_Pj_Pt) (fun h4=>?_) (fun h4=>?_)
 ·refine Run.cw (e:=vPt) (Rg:=(fun b=>RvH [] (vT_Pj_Pt b))) [] 2 (os_l22Near__src_n _ _ (by first | omega | (simp only [w64_val,c64_val] at *; omega))) rfl fun r5 hr5 kr5=>?_
  refine Run.q (e:=vB) (gv:=vT_Pj_Pt) (os_l11Ok _) fun r6 hr6=>?_
  refine Run.y (gv:=vT_Pj_Pt) (fun h7=>?_) (fun h7=>?_)
  ·refine Run.cw (e:=vPt) (Rg:=(fun b=>RvH [] (vT_Pj_Pt b))) [] 2 (os_l11Draw__src_n _ (by first | omega | (simp only [w64_val,c64_val] at *; omega))) rfl fun r8 hr8 kr8=>?_
   exact Run.x 0
  ·exact Run.x 0
 ·refine Run.cw (e:=vPt) (Rg:=(fun b=>RvH [] (vT_Pj_Pt b))) [] 2 (os_l22Near__src_n _ _ (by first | omega | (simp only [w64_val,c64_val] at *; omega))) rfl fun r9 hr9 kr9=>?_
  refine Run.q (e:=vB) (gv:=vT_Pj_Pt) (os_l11Ok _) fun r10 hr10=>?_
  refine Run.y (gv:=vT_Pj_Pt) (fun h11=>?_) (fun h11=>?_)
  ·refine Run.cw (e:=vPt) (Rg:=(fun b=>RvH [] (vT_Pj_Pt b))) [] 2 (os_l11Draw__src_n _ (by first | omega | (simp only [w64_val,c64_val] at *; omega))) rfl fun r12 hr12 kr12=>?_
   exact Run.x 0
  ·exact Run.x 0
end Go.Proofs.YtbipmdgocmdgdaaGreat.Abs
