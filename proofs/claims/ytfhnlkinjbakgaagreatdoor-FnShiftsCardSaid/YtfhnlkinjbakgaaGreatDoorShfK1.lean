/- The program's functions are these; part 1 (written by w.py). -/
import Derived.Test.YtfhnlkinjbakgaaGreatDoorShfE
import Derived.Test.YtfhnlkinjbakgaaGreatDoorShfFa
import Derived.Test.YtfhnlkinjbakgaaGreatDoorShfShM
import Derived.Test.YtfhnlkinjbakgaaGreatDoorShfQpre
set_option linter.unusedVariables false
set_option linter.unusedSimpArgs false
namespace Go.Proofs.YtfhnlkinjbakgaaGreatDoor.Abs
open Go Go.RowKit
theorem build_src (a : Option Addr) (l c : Nat) (w : World) : (Instr.build 84 #[(0,.slice a l c)]).run Tryz.prog w = .ok (.agg #[.slice a l c,.int .i64 0,.int .u64 0]) w:=run_build w 84 _ _ (by kernel_rfl)
attribute [local go_sem] build_src
theorem os_l00Sourced : Sourced Tryz.prog 17 84:=by
 refine ⟨⟨_,Tryz.func17,by kernel_rfl,by kernel_rfl⟩,fun a l c w=>?_⟩
 go_enter Tryz.func17,Tryz.ntmps17
 go_wp2
 go_ret
 exact ⟨rfl,rfl⟩
theorem os_l00From (c0 : Cd) : FunS Tryz.prog 17 [(c0.row,c0.ty)] [] #[(c0.sl 0)] (fun v Y=>v = .pointer (some ⟨1,0,none⟩) ∧ Y = [srcB 84 (c0.sl 0) (c64 0) (cu64 0)]):=Sourced.list c0 (by decide) os_l00Sourced
theorem os_l00Src_next__src (c0 : Cd) (b1 : Src) (ps : 0 ≤ b1.ix.val ∧ b1.ix.val + 1 ≤ 1000000000) : FunS Tryz.prog 38 [(c0.row,c0.ty)] [srcB 84 (c0.sl 0) b1.ix b1.sd] #[.pointer (some ⟨1,0,none⟩)] (Drew vI 84 (c0.sl 0) b1.ix.val (b1.ix.val + 1) (S_l00Src_next__src c0 b1)):=by
 refine FunS.drew (fun _ _=>rfl) (allc (c0.calm) rfl) (by kernel_rfl) (FunR.of 400 E_ok mixed Tryz.func38 (by kernel_rfl) ?_)
 show Run _ _ ((RD [(c0.row,c0.ty)] vI 84 (c0.sl 0) b1.ix.val (b1.ix.val + 1)) (S_l00Src_next__src c0 b1)) _
 unfold S_l00Src_next__src
 refine Run.gy (Rg:=(RD [(c0.row,c0.ty)] vI 84 (c0.sl 0) b1.ix.val (b1.ix.val + 1))) (fun h1=>?_) (fun h1=>?_)
 ·refine Run.k (c:=(decide (0 ≤ b1.ix.val ∧ b1.ix.val < ((c0.L.length : Nat) : Int)))) (by kernel_rfl) (by simp only [w64_val,wu64_val,c64_val,cu64_val,decide_eq_true_eq,decide_eq_false_iff_not,cond_true,cond_false] at *; omega) ?_
  refine Run.ld (by kernel_rfl) (Cd.byte c0 (i:=b1.ix) (by simp only [w64_val,wu64_val,c64_val,cu64_val,decide_eq_true_eq,decide_eq_false_iff_not,cond_true,cond_false] at *; omega)) ?_
  refine Run.gy (Rg:=(RD [(c0.row,c0.ty)] vI 84 (c0.sl 0) b1.ix.val (b1.ix.val + 1))) (fun h2=>?_) (fun h2=>?_)
  ·exact Run.dr (by kernel_rfl) (by kernel_rfl) (by first | omega | (simp only [w64_val,c64_val] at *; omega))
  ·refine Run.z [true] ?_
   exact Run.dr (by kernel_rfl) (by kernel_rfl) (by first | omega | (simp only [w64_val,c64_val] at *; omega))
 ·refine Run.gy (Rg:=(RD [(c0.row,c0.ty)] vI 84 (c0.sl 0) b1.ix.val (b1.ix.val + 1))) (fun h3=>?_) (fun h3=>?_)
  ·exact Run.dr (by kernel_rfl) (by kernel_rfl) (by first | omega | (simp only [w64_val,c64_val] at *; omega))
  ·refine Run.z [true] ?_
   exact Run.dr (by kernel_rfl) (by kernel_rfl) (by first | omega | (simp only [w64_val,c64_val] at *; omega))
theorem os_l00Src_pick__src (c0 : Cd) (b1 : Src) (a0 : I64) (ps : 0 ≤ b1.ix.val ∧ b1.ix.val + 2 ≤ 1000000000) : FunS Tryz.prog 19 [(c0.row,c0.ty)] [srcB 84 (c0.sl 0) b1.ix b1.sd] #[.pointer (some ⟨1,0,none⟩),vI a0] (Drew vI 84 (c0.sl 0) b1.ix.val (b1.ix.val + 2) (S_l00Src_pick__src c0 b1 a0)):=by
 refine FunS.drew (fun _ _=>rfl) (allc (c0.calm) rfl) (by kernel_rfl) (FunR.of 400 E_ok mixed Tryz.func19 (by kernel_rfl) ?_)
 show Run _ _ ((RD [(c0.row,c0.ty)] vI 84 (c0.sl 0) b1.ix.val (b1.ix.val + 2)) (S_l00Src_pick__src c0 b1 a0)) _
 unfold S_l00Src_pick__src
 refine Run.gy (Rg:=(RD [(c0.row,c0.ty)] vI 84 (c0.sl 0) b1.ix.val (b1.ix.val + 2))) (fun h1=>?_) (fun h1=>?_)
 ·exact Run.dr (by kernel_rfl) (by kernel_rfl) (by first | omega | (simp only [w64_val,c64_val] at *; omega))
 ·refine Run.cw (e:=vI) (Rg:=(RD [(c0.row,c0.ty)] vI 84 (c0.sl 0) b1.ix.val (b1.ix.val + 2))) [0] 1 (os_l00Src_next__src _ _ (by first | omega | (simp only [w64_val,c64_val] at *; omega))) (allc (c0.calm) rfl) fun r2 hr2 kr2=>?_
  refine Run.gy (Rg:=(RD [(c0.row,c0.ty)] vI 84 (c0.sl 0) b1.ix.val (b1.ix.val + 2))) (fun h3=>?_) (fun h3=>?_)
  ·refine Run.cw (e:=vI) (Rg:=(RD [(c0.row,c0.ty)] vI 84 (c0.sl 0) b1.ix.val (b1.ix.val + 2))) [0] 1 (os_l00Src_next__src _ _ (by first | omega | (simp only [w64_val,c64_val] at *; omega))) (allc (c0.calm) rfl) fun r4 hr4 kr4=>?_
   refine Run.k (c:=(decide (a0.val ≠ 0))) (by kernel_rfl) (by simp only [w64_val,wu64_val,c64_val,cu64_val,decide_eq_true_eq,decide_eq_false_iff_not,cond_true,cond_false] at *; omega) ?_
   exact Run.dr (by kernel_rfl) (by kernel_rfl) (by first | omega | (simp only [w64_val,c64_val] at *; omega))
  ·refine Run.k (c:=(decide (a0.val ≠ 0))) (by kernel_rfl) (by simp only [w64_val,wu64_val,c64_val,cu64_val,decide_eq_true_eq,decide_eq_false_iff_not,cond_true,cond_false] at *; omega) ?_
   exact Run.dr (by kernel_rfl) (by kernel_rfl) (by first | omega | (simp only [w64_val,c64_val] at *; omega))
theorem os_l00Src_one__src (c0 : Cd) (b1 : Src) (a0 : I64) (ps : 0 ≤ b1.ix.val ∧ b1.ix.val + 2 ≤ 1000000000) : FunS Tryz.prog 53 [(c0.row,c0.ty)] [srcB 84 (c0.sl 0) b1.ix b1.sd] #[.pointer (some ⟨1,0,none⟩),vI a0] (Drew vB 84 (c0.sl 0) b1.ix.val (b1.ix.val + 2) (S_l00Src_one__src c0 b1 a0)):=by
 refine FunS.drew (fun _ _=>rfl) (allc (c0.calm) rfl) (by kernel_rfl) (FunR.of 400 E_ok mixed Tryz.func53 (by kernel_rfl) ?_)
 show Run _ _ ((RD [(c0.row,c0.ty)] vB 84 (c0.sl 0) b1.ix.val (b1.ix.val + 2)) (S_l00Src_one__src c0 b1 a0)) _
 unfold S_l00Src_one__src
 refine Run.cw (e:=vI) (Rg:=(RD [(c0.row,c0.ty)] vB 84 (c0.sl 0) b1.ix.val (b1.ix.val + 2))) [0] 1 (os_l00Src_pick__src _ _ _ (by first | omega | (simp only [w64_val,c64_val] at *; omega))) (allc (c0.calm) rfl) fun r1 hr1 kr1=>?_
 exact Run.dr (by kernel_rfl) (by kernel_rfl) (by first | omega | (simp only [w64_val,c64_val] at *; omega))
theorem os_l00Src_among__src__s4 (c0 : Cd) (b1_0 : I64) (b1_1 : I64) (b1_2 : I64) (b1_3 : I64) (b2 : Src) (ps : 0 ≤ b2.ix.val ∧ b2.ix.val + 2 ≤ 1000000000) : FunS Tryz.prog 37 [(c0.row,c0.ty),(#[.int .i64 b1_0.val,.int .i64 b1_1.val,.int .i64 b1_2.val,.int .i64 b1_3.val],2)] [srcB 84 (c0.sl 0) b2.ix b2.sd] #[.pointer (some ⟨2,0,none⟩),.slice (some ⟨1,0,none⟩) 4 4] (Drew vI 84 (c0.sl 0) b2.ix.val (b2.ix.val + 2) (S_l00Src_among__src__s4 c0 b1_0 b1_1 b1_2 b1_3 b2)):=by
 refine FunS.marks (args:=#[.pointer (some ⟨2,0,none⟩),.slice (some ⟨1,0,some 0⟩) 4 4]) (by kernel_rfl) ?_
 refine FunS.drew (fun _ _=>rfl) (allc (c0.calm) (allc (by kernel_rfl) rfl)) (by kernel_rfl) (FunR.of 400 E_ok mixed Tryz.func37 (by kernel_rfl) ?_)
 show Run _ _ ((RD [(c0.row,c0.ty),(#[.int .i64 b1_0.val,.int .i64 b1_1.val,.int .i64 b1_2.val,.int .i64 b1_3.val],2)] vI 84 (c0.sl 0) b2.ix.val (b2.ix.val + 2)) (S_l00Src_among__src__s4 c0 b1_0 b1_1 b1_2 b1_3 b2)) _
 unfold S_l00Src_among__src__s4
 refine Run.cw (e:=vI) (Rg:=(RD [(c0.row,c0.ty),(#[.int .i64 b1_0.val,.int .i64 b1_1.val,.int .i64 b1_2.val,.int .i64 b1_3.val],2)] vI 84 (c0.sl 0) b2.ix.val (b2.ix.val + 2))) [0] 2 (os_l00Src_pick__src _ _ _ (by first | omega | (simp only [w64_val,c64_val] at *; omega))) (allc (c0.calm) rfl) fun r1 hr1 kr1=>?_
 refine Run.k (c:=(decide (0 ≤ r1.1.val ∧ r1.1.val < 4))) (by kernel_rfl) (by rw [hr1]; first | exact decide_eq_true ⟨(pick_range _ _ _).1,(pick_range _ _ _).2 (by decide)⟩ | exact ⟨(pick_range _ _ _).1,(pick_range _ _ _).2 (by decide)⟩) ?_
 refine Run.ld (by kernel_rfl) (listAt_ok (L:=[b1_0,b1_1,b1_2,b1_3]) (pad:=[]) (i:=r1.1) (by rw [hr1]; first | exact decide_eq_true ⟨(pick_range _ _ _).1,(pick_range _ _ _).2 (by decide)⟩ | exact ⟨(pick_range _ _ _).1,(pick_range _ _ _).2 (by decide)⟩)) ?_
 exact Run.dr (by kernel_rfl) (by kernel_rfl) (by first | omega | (simp only [w64_val,c64_val] at *; omega))
theorem os_l05Number__src (c0 : Cd) (b1 : Src) (a0 : I64) (p0 : 0 ≤ a0.val) (p1 : a0.val < 9223372036854775807) (ps : 0 ≤ b1.ix.val ∧ b1.ix.val + 13 ≤ 1000000000) : FunS Tryz.prog 25 [(c0.row,c0.ty)] [srcB 84 (c0.sl 0) b1.ix b1.sd] #[.pointer (some ⟨1,0,none⟩),vI a0] (Drew vI 84 (c0.sl 0) b1.ix.val (b1.ix.val + 13) (S_l05Number__src c0 b1 a0)):=by
 refine FunS.drew (fun _ _=>rfl) (allc (c0.calm) rfl) (by kernel_rfl) (FunR.of 400 E_ok mixed Tryz.func25 (by kernel_rfl) ?_)
 show Run _ _ ((RD [(c0.row,c0.ty)] vI 84 (c0.sl 0) b1.ix.val (b1.ix.val + 13)) (S_l05Number__src c0 b1 a0)) _
 unfold S_l05Number__src
 refine Run.u 400 E_ok mixed Tryz.func25 ?_
 refine Run.z [true,true] ?_
 refine Run.cw (e:=vI) (Rg:=(RD [(c0.row,c0.ty)] vI 84 (c0.sl 0) b1.ix.val (b1.ix.val + 13))) [0] 1 (os_l00Src_next__src _ _ (by first | omega | (simp only [w64_val,c64_val] at *; omega))) (allc (c0.calm) rfl) fun r1 hr1 kr1=>?_
 refine Run.u 400 E_ok mixed Tryz.func25 ?_
 refine Run.z [true,true] ?_
 refine Run.cw (e:=vI) (Rg:=(RD [(c0.row,c0.ty)] vI 84 (c0.sl 0) b1.ix.val (b1.ix.val + 13))) [0] 1 (os_l00Src_next__src _ _ (by first | omega | (simp only [w64_val,c64_val] at *; omega))) (allc (c0.calm) rfl) fun r2 hr2 kr2=>?_
 refine Run.u 400 E_ok mixed Tryz.func25 ?_
 refine Run.z [true,true] ?_
 refine Run.cw (e:=vI) (Rg:=(RD [(c0.row,c0.ty)] vI 84 (c0.sl 0) b1.ix.val (b1.ix.val + 13))) [0] 1 (os_l00Src_next__src _ _ (by first | omega | (simp only [w64_val,c64_val] at *; omega))) (allc (c0.calm) rfl) fun r3 hr3 kr3=>?_
 refine Run.u 400 E_ok mixed Tryz.func25 ?_
 refine Run.z [true,true] ?_
 refine Run.cw (e:=vI) (Rg:=(RD [(c0.row,c0.ty)] vI 84 (c0.sl 0) b1.ix.val (b1.ix.val + 13))) [0] 1 (os_l00Src_next__src _ _ (by first | omega | (simp only [w64_val,c64_val] at *; omega))) (allc (c0.calm) rfl) fun r4 hr4 kr4=>?_
 refine Run.u 400 E_ok mixed Tryz.func25 ?_
 refine Run.z [true,true] ?_
 refine Run.cw (e:=vI) (Rg:=(RD [(c0.row,c0.ty)] vI 84 (c0.sl 0) b1.ix.val (b1.ix.val + 13))) [0] 1 (os_l00Src_next__src _ _ (by first | omega | (simp only [w64_val,c64_val] at *; omega))) (allc (c0.calm) rfl) fun r5 hr5 kr5=>?_
 refine Run.u 400 E_ok mixed Tryz.func25 ?_
 refine Run.z [true,true] ?_
 refine Run.cw (e:=vI) (Rg:=(RD [(c0.row,c0.ty)] vI 84 (c0.sl 0) b1.ix.val (b1.ix.val + 13))) [0] 1 (os_l00Src_next__src _ _ (by first | omega | (simp only [w64_val,c64_val] at *; omega))) (allc (c0.calm) rfl) fun r6 hr6 kr6=>?_
 refine Run.u 400 E_ok mixed Tryz.func25 ?_
 refine Run.z [true,true] ?_
 refine Run.cw (e:=vI) (Rg:=(RD [(c0.row,c0.ty)] vI 84 (c0.sl 0) b1.ix.val (b1.ix.val + 13))) [0] 1 (os_l00Src_next__src _ _ (by first | omega | (simp only [w64_val,c64_val] at *; omega))) (allc (c0.calm) rfl) fun r7 hr7 kr7=>?_
 refine Run.u 400 E_ok mixed Tryz.func25 ?_
 refine Run.z [false] ?_
 refine Run.k (c:=(decide ((w64 (a0.val + 1)).val ≠ 0))) (by kernel_rfl) (by simp only [w64_val,wu64_val,c64_val,cu64_val,decide_eq_true_eq,decide_eq_false_iff_not,cond_true,cond_false] at *; omega) ?_
 refine Run.cw (e:=vI) (Rg:=(RD [(c0.row,c0.ty)] vI 84 (c0.sl 0) b1.ix.val (b1.ix.val + 13))) [0] 1 (os_l00Src_pick__src _ _ _ (by first | omega | (simp only [w64_val,c64_val] at *; omega))) (allc (c0.calm) rfl) fun r8 hr8 kr8=>?_
 refine Run.gy (Rg:=(RD [(c0.row,c0.ty)] vI 84 (c0.sl 0) b1.ix.val (b1.ix.val + 13))) (fun h9=>?_) (fun h9=>?_)
 ·refine Run.cw (e:=vI) (Rg:=(RD [(c0.row,c0.ty)] vI 84 (c0.sl 0) b1.ix.val (b1.ix.val + 13))) [0] 1 (os_l00Src_pick__src _ _ _ (by first | omega | (simp only [w64_val,c64_val] at *; omega))) (allc (c0.calm) rfl) fun r10 hr10 kr10=>?_
  refine Run.k (c:=(decide (0 ≤ (wu64 r10.1.val).val))) (by kernel_rfl) (by simp only [w64_val,wu64_val,c64_val,cu64_val,decide_eq_true_eq,decide_eq_false_iff_not,cond_true,cond_false] at *; omega) ?_
  refine Run.cw (e:=vB) (Rg:=(RD [(c0.row,c0.ty)] vI 84 (c0.sl 0) b1.ix.val (b1.ix.val + 13))) [0] 1 (os_l00Src_one__src _ _ _ (by first | omega | (simp only [w64_val,c64_val] at *; omega))) (allc (c0.calm) rfl) fun r11 hr11 kr11=>?_
  refine Run.gy (Rg:=(RD [(c0.row,c0.ty)] vI 84 (c0.sl 0) b1.ix.val (b1.ix.val + 13))) (fun h12=>?_) (fun h12=>?_)
  ·exact Run.dr (by kernel_rfl) (by kernel_rfl) (by first | omega | (simp only [w64_val,c64_val] at *; omega))
  ·exact Run.dr (by kernel_rfl) (by kernel_rfl) (by first | omega | (simp only [w64_val,c64_val] at *; omega))
 ·refine Run.gy (Rg:=(RD [(c0.row,c0.ty)] vI 84 (c0.sl 0) b1.ix.val (b1.ix.val + 13))) (fun h13=>?_) (fun h13=>?_)
  ·refine Run.z [true] ?_
   refine Run.cw (e:=vI) (Rg:=(RD [(c0.row,c0.ty)] vI 84 (c0.sl 0) b1.ix.val (b1.ix.val + 13))) [0,2] 1 (os_l00Src_among__src__s4 _ _ _ _ _ _ (by first | omega | (simp only [w64_val,c64_val] at *; omega))) (allc (c0.calm) (allc (by kernel_rfl) rfl)) fun r14 hr14 kr14=>?_
   refine Run.cw (e:=vB) (Rg:=(RD [(c0.row,c0.ty)] vI 84 (c0.sl 0) b1.ix.val (b1.ix.val + 13))) [0] 1 (os_l00Src_one__src _ _ _ (by first | omega | (simp only [w64_val,c64_val] at *; omega))) (allc (c0.calm) rfl) fun r15 hr15 kr15=>?_
   refine Run.gy (Rg:=(RD [(c0.row,c0.ty)] vI 84 (c0.sl 0) b1.ix.val (b1.ix.val + 13))) (fun h16=>?_) (fun h16=>?_)
   ·exact Run.dr (by kernel_rfl) (by kernel_rfl) (by first | omega | (simp only [w64_val,c64_val] at *; omega))
   ·exact Run.dr (by kernel_rfl) (by kernel_rfl) (by first | omega | (simp only [w64_val,c64_val] at *; omega))
  ·refine Run.cw (e:=vB) (Rg:=(RD [(c0.row,c0.ty)] vI 84 (c0.sl 0) b1.ix.val (b1.ix.val + 13))) [0] 1 (os_l00Src_one__src _ _ _ (by first | omega | (simp only [w64_val,c64_val] at *; omega))) (allc (c0.calm) rfl) fun r17 hr17 kr17=>?_
   refine Run.gy (Rg:=(RD [(c0.row,c0.ty)] vI 84 (c0.sl 0) b1.ix.val (b1.ix.val + 13))) (fun h18=>?_) (fun h18=>?_)
   ·exact Run.dr (by kernel_rfl) (by kernel_rfl) (by first | omega | (simp only [w64_val,c64_val] at *; omega))
   ·exact Run.dr (by kernel_rfl) (by kernel_rfl) (by first | omega | (simp only [w64_val,c64_val] at *; omega))
theorem os_l00Src_among__src__s2 (c0 : Cd) (b1_0 : I64) (b1_1 : I64) (b2 : Src) (ps : 0 ≤ b2.ix.val ∧ b2.ix.val + 2 ≤ 1000000000) : FunS Tryz.prog 37 [(c0.row,c0.ty),(#[.int .i64 b1_0.val,.int .i64 b1_1.val],2)] [srcB 84 (c0.sl 0) b2.ix b2.sd] #[.pointer (some ⟨2,0,none⟩),.slice (some ⟨1,0,none⟩) 2 2] (Drew vI 84 (c0.sl 0) b2.ix.val (b2.ix.val + 2) (S_l00Src_among__src__s2 c0 b1_0 b1_1 b2)):=by
 refine FunS.marks (args:=#[.pointer (some ⟨2,0,none⟩),.slice (some ⟨1,0,some 0⟩) 2 2]) (by kernel_rfl) ?_
 refine FunS.drew (fun _ _=>rfl) (allc (c0.calm) (allc (by kernel_rfl) rfl)) (by kernel_rfl) (FunR.of 400 E_ok mixed Tryz.func37 (by kernel_rfl) ?_)
 show Run _ _ ((RD [(c0.row,c0.ty),(#[.int .i64 b1_0.val,.int .i64 b1_1.val],2)] vI 84 (c0.sl 0) b2.ix.val (b2.ix.val + 2)) (S_l00Src_among__src__s2 c0 b1_0 b1_1 b2)) _
 unfold S_l00Src_among__src__s2
 refine Run.cw (e:=vI) (Rg:=(RD [(c0.row,c0.ty),(#[.int .i64 b1_0.val,.int .i64 b1_1.val],2)] vI 84 (c0.sl 0) b2.ix.val (b2.ix.val + 2))) [0] 2 (os_l00Src_pick__src _ _ _ (by first | omega | (simp only [w64_val,c64_val] at *; omega))) (allc (c0.calm) rfl) fun r1 hr1 kr1=>?_
 refine Run.k (c:=(decide (0 ≤ r1.1.val ∧ r1.1.val < 2))) (by kernel_rfl) (by rw [hr1]; first | exact decide_eq_true ⟨(pick_range _ _ _).1,(pick_range _ _ _).2 (by decide)⟩ | exact ⟨(pick_range _ _ _).1,(pick_range _ _ _).2 (by decide)⟩) ?_
 refine Run.ld (by kernel_rfl) (listAt_ok (L:=[b1_0,b1_1]) (pad:=[]) (i:=r1.1) (by rw [hr1]; first | exact decide_eq_true ⟨(pick_range _ _ _).1,(pick_range _ _ _).2 (by decide)⟩ | exact ⟨(pick_range _ _ _).1,(pick_range _ _ _).2 (by decide)⟩)) ?_
 exact Run.dr (by kernel_rfl) (by kernel_rfl) (by first | omega | (simp only [w64_val,c64_val] at *; omega))
theorem os_l23Draw__src (c0 : Cd) (b1 : Src) (ps : 0 ≤ b1.ix.val ∧ b1.ix.val + 93 ≤ 1000000000) : FunS Tryz.prog 18 [(c0.row,c0.ty)] [srcB 84 (c0.sl 0) b1.ix b1.sd] #[.pointer (some ⟨1,0,none⟩)] (Drew vSf 84 (c0.sl 0) b1.ix.val (b1.ix.val + 93) (S_l23Draw__src c0 b1)):=by
 refine FunS.drew (fun _ _=>rfl) (allc (c0.calm) rfl) (by kernel_rfl) (FunR.of 400 E_ok mixed Tryz.func18 (by kernel_rfl) ?_)
 show Run _ _ ((RD [(c0.row,c0.ty)] vSf 84 (c0.sl 0) b1.ix.val (b1.ix.val + 93)) (S_l23Draw__src c0 b1)) _
 unfold S_l23Draw__src
 refine Run.cw (e:=vI) (Rg:=(RD [(c0.row,c0.ty)] vSf 84 (c0.sl 0) b1.ix.val (b1.ix.val + 93))) [0] 1 (os_l05Number__src _ _ _ (by first | (simp only [w64_val,wu64_val,c64_val,cu64_val,decide_eq_true_eq,decide_eq_false_iff_not,cond_true,cond_false] at *; omega) | (have z:=among_scale c0 r6.2; rw [← hr7] at z; omega) | (have z:=among_scale Cd.nil r6.2; rw [← hr7] at z; omega)) (by first | (simp only [w64_val,wu64_val,c64_val,cu64_val,decide_eq_true_eq,decide_eq_false_iff_not,cond_true,cond_false] at *; omega) | (have z:=among_scale c0 r6.2; rw [← hr7] at z; omega) | (have z:=among_scale Cd.nil r6.2; rw [← hr7] at z; omega)) (by first | omega | (simp only [w64_val,c64_val] at *; omega))) (allc (c0.calm) rfl) fun r1 hr1 kr1=>?_
 refine Run.cw (e:=vI) (Rg:=(RD [(c0.row,c0.ty)] vSf 84 (c0.sl 0) b1.ix.val (b1.ix.val + 93))) [0] 1 (os_l05Number__src _ _ _ (by first | (simp only [w64_val,wu64_val,c64_val,cu64_val,decide_eq_true_eq,decide_eq_false_iff_not,cond_true,cond_false] at *; omega) | (have z:=among_scale c0 r6.2; rw [← hr7] at z; omega) | (have z:=among_scale Cd.nil r6.2; rw [← hr7] at z; omega)) (by first | (simp only [w64_val,wu64_val,c64_val,cu64_val,decide_eq_true_eq,decide_eq_false_iff_not,cond_true,cond_false] at *; omega) | (have z:=among_scale c0 r6.2; rw [← hr7] at z; omega) | (have z:=among_scale Cd.nil r6.2; rw [← hr7] at z; omega)) (by first | omega | (simp only [w64_val,c64_val] at *; omega))) (allc (c0.calm) rfl) fun r2 hr2 kr2=>?_
 refine Run.cw (e:=vI) (Rg:=(RD [(c0.row,c0.ty)] vSf 84 (c0.sl 0) b1.ix.val (b1.ix.val + 93))) [0] 1 (os_l05Number__src _ _ _ (by first | (simp only [w64_val,wu64_val,c64_val,cu64_val,decide_eq_true_eq,decide_eq_false_iff_not,cond_true,cond_false] at *; omega) | (have z:=among_scale c0 r6.2; rw [← hr7] at z; omega) | (have z:=among_scale Cd.nil r6.2; rw [← hr7] at z; omega)) (by first | (simp only [w64_val,wu64_val,c64_val,cu64_val,decide_eq_true_eq,decide_eq_false_iff_not,cond_true,cond_false] at *; omega) | (have z:=among_scale c0 r6.2; rw [← hr7] at z; omega) | (have z:=among_scale Cd.nil r6.2; rw [← hr7] at z; omega)) (by first | omega | (simp only [w64_val,c64_val] at *; omega))) (allc (c0.calm) rfl) fun r3 hr3 kr3=>?_
 refine Run.cw (e:=vI) (Rg:=(RD [(c0.row,c0.ty)] vSf 84 (c0.sl 0) b1.ix.val (b1.ix.val + 93))) [0] 1 (os_l05Number__src _ _ _ (by first | (simp only [w64_val,wu64_val,c64_val,cu64_val,decide_eq_true_eq,decide_eq_false_iff_not,cond_true,cond_false] at *; omega) | (have z:=among_scale c0 r6.2; rw [← hr7] at z; omega) | (have z:=among_scale Cd.nil r6.2; rw [← hr7] at z; omega)) (by first | (simp only [w64_val,wu64_val,c64_val,cu64_val,decide_eq_true_eq,decide_eq_false_iff_not,cond_true,cond_false] at *; omega) | (have z:=among_scale c0 r6.2; rw [← hr7] at z; omega) | (have z:=among_scale Cd.nil r6.2; rw [← hr7] at z; omega)) (by first | omega | (simp only [w64_val,c64_val] at *; omega))) (allc (c0.calm) rfl) fun r4 hr4 kr4=>?_
 refine Run.cw (e:=vI) (Rg:=(RD [(c0.row,c0.ty)] vSf 84 (c0.sl 0) b1.ix.val (b1.ix.val + 93))) [0] 1 (os_l05Number__src _ _ _ (by first | (simp only [w64_val,wu64_val,c64_val,cu64_val,decide_eq_true_eq,decide_eq_false_iff_not,cond_true,cond_false] at *; omega) | (have z:=among_scale c0 r6.2; rw [← hr7] at z; omega) | (have z:=among_scale Cd.nil r6.2; rw [← hr7] at z; omega)) (by first | (simp only [w64_val,wu64_val,c64_val,cu64_val,decide_eq_true_eq,decide_eq_false_iff_not,cond_true,cond_false] at *; omega) | (have z:=among_scale c0 r6.2; rw [← hr7] at z; omega) | (have z:=among_scale Cd.nil r6.2; rw [← hr7] at z; omega)) (by first | omega | (simp only [w64_val,c64_val] at *; omega))) (allc (c0.calm) rfl) fun r5 hr5 kr5=>?_
 refine Run.cw (e:=vI) (Rg:=(RD [(c0.row,c0.ty)] vSf 84 (c0.sl 0) b1.ix.val (b1.ix.val + 93))) [0] 1 (os_l05Number__src _ _ _ (by first | (simp only [w64_val,wu64_val,c64_val,cu64_val,decide_eq_true_eq,decide_eq_false_iff_not,cond_true,cond_false] at *; omega) | (have z:=among_scale c0 r6.2; rw [← hr7] at z; omega) | (have z:=among_scale Cd.nil r6.2; rw [← hr7] at z; omega)) (by first | (simp only [w64_val,wu64_val,c64_val,cu64_val,decide_eq_true_eq,decide_eq_false_iff_not,cond_true,cond_false] at *; omega) | (have z:=among_scale c0 r6.2; rw [← hr7] at z; omega) | (have z:=among_scale Cd.nil r6.2; rw [← hr7] at z; omega)) (by first | omega | (simp only [w64_val,c64_val] at *; omega))) (allc (c0.calm) rfl) fun r6 hr6 kr6=>?_
 refine Run.cw (e:=vI) (Rg:=(RD [(c0.row,c0.ty)] vSf 84 (c0.sl 0) b1.ix.val (b1.ix.val + 93))) [0,4] 1 (os_l00Src_among__src__s2 _ _ _ _ (by first | omega | (simp only [w64_val,c64_val] at *; omega))) (allc (c0.calm) (allc (by kernel_rfl) rfl)) fun r7 hr7 kr7=>?_
 refine Run.cw (e:=vI) (Rg:=(RD [(c0.row,c0.ty)] vSf 84 (c0.sl 0) b1.ix.val (b1.ix.val + 93))) [0] 1 (os_l05Number__src _ _ _ (by first | (simp only [w64_val,wu64_val,c64_val,cu64_val,decide_eq_true_eq,decide_eq_false_iff_not,cond_true,cond_false] at *; omega) | (have z:=among_scale c0 r6.2; rw [← hr7] at z; omega) | (have z:=among_scale Cd.nil r6.2; rw [← hr7] at z; omega)) (by first | (simp only [w64_val,wu64_val,c64_val,cu64_val,decide_eq_true_eq,decide_eq_false_iff_not,cond_true,cond_false] at *; omega) | (have z:=among_scale c0 r6.2; rw [← hr7] at z; omega) | (have z:=among_scale Cd.nil r6.2; rw [← hr7] at z; omega)) (by first | omega | (simp only [w64_val,c64_val] at *; omega))) (allc (c0.calm) rfl) fun r8 hr8 kr8=>?_
 exact Run.dr (by kernel_rfl) (by kernel_rfl) (by first | omega | (simp only [w64_val,c64_val] at *; omega))
theorem os_E8Shift (c0 : Cd) : Fun Tryz.prog 5 [(c0.row,c0.ty)] #[c0.sl 0] (vSf (S_E8Shift c0)) [(c0.row,c0.ty)]:=by
 refine Fun.ofH 400 E_ok mixed Tryz.func5 (by kernel_rfl) (by kernel_rfl) ?_
 unfold S_E8Shift
 refine Run.cf [0] (os_l00From c0) (allc (c0.calm) rfl) ?_
 refine Run.cw (e:=vSf) (Rg:=(fun b=>RvH [(c0.row,c0.ty)] (vSf b))) [0] 2 (os_l23Draw__src _ _ (by first | omega | (simp only [w64_val,c64_val] at *; omega))) (allc (c0.calm) rfl) fun r1 hr1 kr1=>?_
 exact Run.x 1
theorem os_l12Wgs : Fun Tryz.prog 20 [] #[] (vEl (S_l12Wgs)) []:=by
 refine Fun.ofH 400 E_ok mixed Tryz.func20 (by kernel_rfl) (by kernel_rfl) ?_
 unfold S_l12Wgs
 exact Run.x 0
theorem os_E8Ellipsoid (c0 : Cd) : Fun Tryz.prog 6 [(c0.row,c0.ty)] #[c0.sl 0] (vEl (S_E8Ellipsoid c0)) [(c0.row,c0.ty)]:=by
 refine Fun.ofH 400 E_ok mixed Tryz.func6 (by kernel_rfl) (by kernel_rfl) ?_
 unfold S_E8Ellipsoid
 refine Run.cf [0] (os_l00From c0) (allc (c0.calm) rfl) ?_
 refine Run.cw (e:=vI) (Rg:=(fun b=>RvH [(c0.row,c0.ty)] (vEl b))) [0] 2 (os_l00Src_pick__src _ _ _ (by first | omega | (simp only [w64_val,c64_val] at *; omega))) (allc (c0.calm) rfl) fun r1 hr1 kr1=>?_
 refine Run.y (gv:=vEl) (fun h2=>?_) (fun h2=>?_)
 ·exact Run.x 1
 ·refine Run.y (gv:=vEl) (fun h3=>?_) (fun h3=>?_)
  ·exact Run.x 1
  ·refine Run.y (gv:=vEl) (fun h4=>?_) (fun h4=>?_)
   ·refine Run.cw (e:=vI) (Rg:=(fun b=>RvH [(c0.row,c0.ty)] (vEl b))) [0] 2 (os_l00Src_pick__src _ _ _ (by first | omega | (simp only [w64_val,c64_val] at *; omega))) (allc (c0.calm) rfl) fun r5 hr5 kr5=>?_
    refine Run.cw (e:=vI) (Rg:=(fun b=>RvH [(c0.row,c0.ty)] (vEl b))) [0] 2 (os_l00Src_pick__src _ _ _ (by first | omega | (simp only [w64_val,c64_val] at *; omega))) (allc (c0.calm) rfl) fun r6 hr6 kr6=>?_
    refine Run.cw (e:=vI) (Rg:=(fun b=>RvH [(c0.row,c0.ty)] (vEl b))) [0] 2 (os_l00Src_pick__src _ _ _ (by first | omega | (simp only [w64_val,c64_val] at *; omega))) (allc (c0.calm) rfl) fun r7 hr7 kr7=>?_
    exact Run.x 1
   ·refine Run.q (e:=vEl) (gv:=vEl) (os_l12Wgs) fun r8 hr8=>?_
    exact Run.x 1
theorem os_l11Wrap (a0 : I64) : Fun Tryz.prog 52 [] #[vI a0] (vI (S_l11Wrap a0)) []:=by
 refine Fun.ofH 400 E_ok mixed Tryz.func52 (by kernel_rfl) (by kernel_rfl) ?_
 unfold S_l11Wrap
 refine Run.z [true] ?_
 refine Run.y (gv:=vI) (fun _=>?_) (fun _=>?_)
 ·refine Run.y (gv:=vI) (fun _=>?_) (fun _=>?_)
  ·exact Run.x 0
  ·exact Run.x 0
 ·refine Run.y (gv:=vI) (fun _=>?_) (fun _=>?_)
  ·exact Run.x 0
  ·exact Run.x 0
theorem os_l00Src_among__src__s5 (c0 : Cd) (b1_0 : I64) (b1_1 : I64) (b1_2 : I64) (b1_3 : I64) (b1_4 : I64) (b2 : Src) (ps : 0 ≤ b2.ix.val ∧ b2.ix.val + 2 ≤ 1000000000) : FunS Tryz.prog 37 [(c0.row,c0.ty),(#[.int .i64 b1_0.val,.int .i64 b1_1.val,.int .i64 b1_2.val,.int .i64 b1_3.val,.int .i64 b1_4.val],2)] [srcB 84 (c0.sl 0) b2.ix b2.sd] #[.pointer (some ⟨2,0,none⟩),.slice (some ⟨1,0,none⟩) 5 5] (Drew vI 84 (c0.sl 0) b2.ix.val (b2.ix.val + 2) (S_l00Src_among__src__s5 c0 b1_0 b1_1 b1_2 b1_3 b1_4 b2)):=by
 refine FunS.marks (args:=#[.pointer (some ⟨2,0,none⟩),.slice (some ⟨1,0,some 0⟩) 5 5]) (by kernel_rfl) ?_
 refine FunS.drew (fun _ _=>rfl) (allc (c0.calm) (allc (by kernel_rfl) rfl)) (by kernel_rfl) (FunR.of 400 E_ok mixed Tryz.func37 (by kernel_rfl) ?_)
 show Run _ _ ((RD [(c0.row,c0.ty),(#[.int .i64 b1_0.val,.int .i64 b1_1.val,.int .i64 b1_2.val,.int .i64 b1_3.val,.int .i64 b1_4.val],2)] vI 84 (c0.sl 0) b2.ix.val (b2.ix.val + 2)) (S_l00Src_among__src__s5 c0 b1_0 b1_1 b1_2 b1_3 b1_4 b2)) _
 unfold S_l00Src_among__src__s5
 refine Run.cw (e:=vI) (Rg:=(RD [(c0.row,c0.ty),(#[.int .i64 b1_0.val,.int .i64 b1_1.val,.int .i64 b1_2.val,.int .i64 b1_3.val,.int .i64 b1_4.val],2)] vI 84 (c0.sl 0) b2.ix.val (b2.ix.val + 2))) [0] 2 (os_l00Src_pick__src _ _ _ (by first | omega | (simp only [w64_val,c64_val] at *; omega))) (allc (c0.calm) rfl) fun r1 hr1 kr1=>?_
 refine Run.k (c:=(decide (0 ≤ r1.1.val ∧ r1.1.val < 5))) (by kernel_rfl) (by rw [hr1]; first | exact decide_eq_true ⟨(pick_range _ _ _).1,(pick_range _ _ _).2 (by decide)⟩ | exact ⟨(pick_range _ _ _).1,(pick_range _ _ _).2 (by decide)⟩) ?_
 refine Run.ld (by kernel_rfl) (listAt_ok (L:=[b1_0,b1_1,b1_2,b1_3,b1_4]) (pad:=[]) (i:=r1.1) (by rw [hr1]; first | exact decide_eq_true ⟨(pick_range _ _ _).1,(pick_range _ _ _).2 (by decide)⟩ | exact ⟨(pick_range _ _ _).1,(pick_range _ _ _).2 (by decide)⟩)) ?_
 exact Run.dr (by kernel_rfl) (by kernel_rfl) (by first | omega | (simp only [w64_val,c64_val] at *; omega))
theorem os_l11Draw__src (c0 : Cd) (b1 : Src) (ps : 0 ≤ b1.ix.val ∧ b1.ix.val + 30 ≤ 1000000000) : FunS Tryz.prog 24 [(c0.row,c0.ty)] [srcB 84 (c0.sl 0) b1.ix b1.sd] #[.pointer (some ⟨1,0,none⟩)] (Drew vPt 84 (c0.sl 0) b1.ix.val (b1.ix.val + 30) (S_l11Draw__src c0 b1)):=by
 refine FunS.drew (fun _ _=>rfl) (allc (c0.calm) rfl) (by kernel_rfl) (FunR.of 400 E_ok mixed Tryz.func24 (by kernel_rfl) ?_)
 show Run _ _ ((RD [(c0.row,c0.ty)] vPt 84 (c0.sl 0) b1.ix.val (b1.ix.val + 30)) (S_l11Draw__src c0 b1)) _
 unfold S_l11Draw__src
 refine Run.cw (e:=vI) (Rg:=(RD [(c0.row,c0.ty)] vPt 84 (c0.sl 0) b1.ix.val (b1.ix.val + 30))) [0] 1 (os_l05Number__src _ _ _ (by simp only [w64_val,wu64_val,c64_val,cu64_val,decide_eq_true_eq,decide_eq_false_iff_not,cond_true,cond_false] at *; omega) (by simp only [w64_val,wu64_val,c64_val,cu64_val,decide_eq_true_eq,decide_eq_false_iff_not,cond_true,cond_false] at *; omega) (by first | omega | (simp only [w64_val,c64_val] at *; omega))) (allc (c0.calm) rfl) fun r1 hr1 kr1=>?_
 refine Run.cw (e:=vI) (Rg:=(RD [(c0.row,c0.ty)] vPt 84 (c0.sl 0) b1.ix.val (b1.ix.val + 30))) [0] 1 (os_l05Number__src _ _ _ (by simp only [w64_val,wu64_val,c64_val,cu64_val,decide_eq_true_eq,decide_eq_false_iff_not,cond_true,cond_false] at *; omega) (by simp only [w64_val,wu64_val,c64_val,cu64_val,decide_eq_true_eq,decide_eq_false_iff_not,cond_true,cond_false] at *; omega) (by first | omega | (simp only [w64_val,c64_val] at *; omega))) (allc (c0.calm) rfl) fun r2 hr2 kr2=>?_
 refine Run.gq (Rg:=(RD [(c0.row,c0.ty)] vPt 84 (c0.sl 0) b1.ix.val (b1.ix.val + 30))) (e:=vI) (os_l11Wrap _) fun r3 hr3=>?_
 refine Run.cw (e:=vI) (Rg:=(RD [(c0.row,c0.ty)] vPt 84 (c0.sl 0) b1.ix.val (b1.ix.val + 30))) [0] 1 (os_l00Src_pick__src _ _ _ (by first | omega | (simp only [w64_val,c64_val] at *; omega))) (allc (c0.calm) rfl) fun r4 hr4 kr4=>?_
 refine Run.gy (Rg:=(RD [(c0.row,c0.ty)] vPt 84 (c0.sl 0) b1.ix.val (b1.ix.val + 30))) (fun h5=>?_) (fun h5=>?_)
 ·refine Run.cw (e:=vI) (Rg:=(RD [(c0.row,c0.ty)] vPt 84 (c0.sl 0) b1.ix.val (b1.ix.val + 30))) [0,4] 1 (os_l00Src_among__src__s4 _ _ _ _ _ _ (by first | omega | (simp only [w64_val,c64_val] at *; omega))) (allc (c0.calm) (allc (by kernel_rfl) rfl)) fun r6 hr6 kr6=>?_
  exact Run.dr (by kernel_rfl) (by kernel_rfl) (by first | omega | (simp only [w64_val,c64_val] at *; omega))
 ·refine Run.gy (Rg:=(RD [(c0.row,c0.ty)] vPt 84 (c0.sl 0) b1.ix.val (b1.ix.val + 30))) (fun h7=>?_) (fun h7=>?_)
  ·refine Run.cw (e:=vI) (Rg:=(RD [(c0.row,c0.ty)] vPt 84 (c0.sl 0) b1.ix.val (b1.ix.val + 30))) [0,4] 1 (os_l00Src_among__src__s5 _ _ _ _ _ _ _ (by first | omega | (simp only [w64_val,c64_val] at *; omega))) (allc (c0.calm) (allc (by kernel_rfl) rfl)) fun r8 hr8 kr8=>?_
   exact Run.dr (by kernel_rfl) (by kernel_rfl) (by first | omega | (simp only [w64_val,c64_val] at *; omega))
  ·exact Run.dr (by kernel_rfl) (by kernel_rfl) (by first | omega | (simp only [w64_val,c64_val] at *; omega))
theorem os_E8Place (c0 : Cd) : Fun Tryz.prog 8 [(c0.row,c0.ty)] #[c0.sl 0] (vPl (S_E8Place c0)) [(c0.row,c0.ty)]:=by
 refine Fun.ofH 400 E_ok mixed Tryz.func8 (by kernel_rfl) (by kernel_rfl) ?_
 unfold S_E8Place
 refine Run.cf [0] (os_l00From c0) (allc (c0.calm) rfl) ?_
 refine Run.cw (e:=vPt) (Rg:=(fun b=>RvH [(c0.row,c0.ty)] (vPl b))) [0] 2 (os_l11Draw__src _ _ (by first | omega | (simp only [w64_val,c64_val] at *; omega))) (allc (c0.calm) rfl) fun r1 hr1 kr1=>?_
 refine Run.cw (e:=vI) (Rg:=(fun b=>RvH [(c0.row,c0.ty)] (vPl b))) [0] 2 (os_l05Number__src _ _ _ (by simp only [w64_val,wu64_val,c64_val,cu64_val,decide_eq_true_eq,decide_eq_false_iff_not,cond_true,cond_false] at *; omega) (by simp only [w64_val,wu64_val,c64_val,cu64_val,decide_eq_true_eq,decide_eq_false_iff_not,cond_true,cond_false] at *; omega) (by first | omega | (simp only [w64_val,c64_val] at *; omega))) (allc (c0.calm) rfl) fun r2 hr2 kr2=>?_
 refine Run.y (gv:=vPl) (fun h3=>?_) (fun h3=>?_)
 ·exact Run.x 1
 ·exact Run.x 1
theorem os_l00In (a0 : I64) (a1 : I64) (a2 : I64) : Fun Tryz.prog 41 [] #[vI a0,vI a1,vI a2] (vB (S_l00In a0 a1 a2)) []:=by
 refine Fun.ofH 400 E_ok mixed Tryz.func41 (by kernel_rfl) (by kernel_rfl) ?_
 unfold S_l00In
 refine Run.y (gv:=vB) (fun _=>?_) (fun _=>?_)
 ·refine Run.z [true,true,true] ?_
  exact Run.x 0
 ·refine Run.z [false,false,false] ?_
  exact Run.x 0
theorem os_l12Ok (a0 : El) : Fun Tryz.prog 39 [] #[vEl a0] (vB (S_l12Ok a0)) []:=by
 refine Fun.ofH 400 E_ok mixed Tryz.func39 (by kernel_rfl) (by kernel_rfl) ?_
 unfold S_l12Ok
 refine Run.q (e:=vB) (gv:=vB) (os_l00In _ _ _) fun r1 _=>?_
 refine Run.y (gv:=vB) (fun _=>?_) (fun _=>?_)
 ·refine Run.z [true,true] ?_
  refine Run.q (e:=vB) (gv:=vB) (os_l00In _ _ _) fun r2 _=>?_
  refine Run.z [true] ?_
  refine Run.y (gv:=vB) (fun _=>?_) (fun _=>?_)
  ·refine Run.z [true,true,true] ?_
   refine Run.y (gv:=vB) (fun _=>?_) (fun _=>?_)
   ·refine Run.z [true,true,true,true,true,true,true] ?_
    exact Run.x 0
   ·refine Run.z [false,false,false,false,false,false] ?_
    exact Run.x 0
  ·refine Run.z [false,false,false,false,false,false,false,false,false,false] ?_
   exact Run.x 0
 ·refine Run.z [false,false,false,false,false,false,false,false,false,false,false,false,false,false] ?_
  exact Run.x 0
theorem os_ValidEllipsoid (a0 : El) : Fun Tryz.prog 21 [] #[vEl a0] (vB (S_ValidEllipsoid a0)) []:=by
 refine Fun.ofH 400 E_ok mixed Tryz.func21 (by kernel_rfl) (by kernel_rfl) ?_
 unfold S_ValidEllipsoid
 refine Run.q (e:=vB) (gv:=vB) (os_l12Ok _) fun r1 _=>?_
 exact Run.x 0
theorem os_l11Ok (a0 : Pt) : Fun Tryz.prog 40 [] #[vPt a0] (vB (S_l11Ok a0)) []:=by
 refine Fun.ofH 400 E_ok mixed Tryz.func40 (by kernel_rfl) (by kernel_rfl) ?_
 unfold S_l11Ok
 refine Run.q (e:=vB) (gv:=vB) (os_l00In _ _ _) fun r1 _=>?_
 refine Run.y (gv:=vB) (fun _=>?_) (fun _=>?_)
 ·refine Run.z [true,true] ?_
  refine Run.q (e:=vB) (gv:=vB) (os_l00In _ _ _) fun r2 _=>?_
  refine Run.z [true] ?_
  exact Run.x 0
 ·refine Run.z [false,false,false] ?_
  exact Run.x 0
theorem os_l14Ok__pPl (b0 : Pl) : Fun Tryz.prog 22 [(#[.int .i64 b0.point.lat.val,.int .i64 b0.point.lon.val,.int .i64 b0.height.val],39)] #[.pointer (some ⟨0,0,none⟩)] (vB (S_l14Ok__pPl b0)) [(#[.int .i64 b0.point.lat.val,.int .i64 b0.point.lon.val,.int .i64 b0.height.val],39)]:=by
 refine Fun.ofH 400 E_ok mixed Tryz.func22 (by kernel_rfl) (by kernel_rfl) ?_
 unfold S_l14Ok__pPl
 refine Run.q (e:=vB) (gv:=vB) (os_l11Ok _) fun r1 _=>?_
 refine Run.y (gv:=vB) (fun _=>?_) (fun _=>?_)
 ·refine Run.z [true,true,true,true] ?_
  refine Run.q (e:=vB) (gv:=vB) (os_l00In _ _ _) fun r2 _=>?_
  refine Run.z [true] ?_
  exact Run.x 1
 ·refine Run.z [false,false,false,false,false] ?_
  exact Run.x 1
theorem os_l04Whole : Fun Tryz.prog 81 [] #[] (vIv (S_l04Whole)) []:=by
 refine Fun.ofH 400 E_ok mixed Tryz.func81 (by kernel_rfl) (by kernel_rfl) ?_
 unfold S_l04Whole
 exact Run.x 0
theorem os_Whole : Fun Tryz.prog 74 [] #[] (vIv (S_Whole)) []:=by
 refine Fun.ofH 400 E_ok mixed Tryz.func74 (by kernel_rfl) (by kernel_rfl) ?_
 unfold S_Whole
 refine Run.q (e:=vIv) (gv:=vIv) (os_l04Whole) fun r1 _=>?_
 exact Run.x 0
theorem os_l04Ok (a0 : Iv) : Fun Tryz.prog 85 [] #[vIv a0] (vB (S_l04Ok a0)) []:=by
 refine Fun.ofH 400 E_ok mixed Tryz.func85 (by kernel_rfl) (by kernel_rfl) ?_
 unfold S_l04Ok
 refine Run.y (gv:=vB) (fun _=>?_) (fun _=>?_)
 ·refine Run.z [true,true,true,true,true] ?_
  refine Run.y (gv:=vB) (fun _=>?_) (fun _=>?_)
  ·refine Run.z [true,true,true] ?_
   exact Run.x 0
  ·refine Run.z [false,false,false] ?_
   exact Run.x 0
 ·refine Run.z [false,false,false,false,false,false,false,false,false] ?_
  exact Run.x 0
theorem os_l04Make (a0 : I64) (a1 : I64) : Fun Tryz.prog 84 [] #[vI a0,vI a1] (vIv (S_l04Make a0 a1)) []:=by
 refine Fun.ofH 400 E_ok mixed Tryz.func84 (by kernel_rfl) (by kernel_rfl) ?_
 unfold S_l04Make
 refine Run.q (e:=vB) (gv:=vIv) (os_l04Ok _) fun r1 _=>?_
 refine Run.y (gv:=vIv) (fun _=>?_) (fun _=>?_)
 ·refine Run.q (e:=vIv) (gv:=vIv) (os_l04Whole) fun r2 _=>?_
  exact Run.x 0
 ·exact Run.x 0
theorem os_NegI (a0 : Iv) : Fun Tryz.prog 75 [] #[vIv a0] (vIv (S_NegI a0)) []:=by
 refine Fun.ofH 400 E_ok mixed Tryz.func75 (by kernel_rfl) (by kernel_rfl) ?_
 unfold S_NegI
 refine Run.q (e:=vB) (gv:=vIv) (os_l04Ok _) fun r1 _=>?_
 refine Run.y (gv:=vIv) (fun _=>?_) (fun _=>?_)
 ·refine Run.q (e:=vIv) (gv:=vIv) (os_l04Whole) fun r2 _=>?_
  exact Run.x 0
 ·refine Run.q (e:=vIv) (gv:=vIv) (os_l04Make _ _) fun r3 _=>?_
  exact Run.x 0
theorem os_l02Size (a0 : I64) : Fun Tryz.prog 156 [] #[vI a0] (vU (S_l02Size a0)) []:=by
 refine Fun.ofH 400 E_ok mixed Tryz.func156 (by kernel_rfl) (by kernel_rfl) ?_
 unfold S_l02Size
 refine Run.y (gv:=vU) (fun _=>?_) (fun _=>?_)
 ·exact Run.x 0
 ·exact Run.x 0
theorem os_l02Times (a0 : U64) (a1 : U64) : Fun Tryz.prog 155 [] #[vU a0,vU a1] (vT_U_U (S_l02Times a0 a1)) []:=by
 refine Fun.ofH 400 E_ok mixed Tryz.func155 (by kernel_rfl) (by kernel_rfl) ?_
 unfold S_l02Times
 refine Run.z [true,true,true,true,true,true,true] ?_
 exact Run.x 0
theorem os_l02Minus (a0 : Wd) : Fun Tryz.prog 152 [] #[vWd a0] (vWd (S_l02Minus a0)) []:=by
 refine Fun.ofH 400 E_ok mixed Tryz.func152 (by kernel_rfl) (by kernel_rfl) ?_
 unfold S_l02Minus
 refine Run.y (gv:=vWd) (fun _=>?_) (fun _=>?_)
 ·exact Run.x 0
 ·exact Run.x 0
theorem os_l02Mul (a0 : I64) (a1 : I64) : Fun Tryz.prog 113 [] #[vI a0,vI a1] (vWd (S_l02Mul a0 a1)) []:=by
 refine Fun.ofH 400 E_ok mixed Tryz.func113 (by kernel_rfl) (by kernel_rfl) ?_
 unfold S_l02Mul
 refine Run.q (e:=vU) (gv:=vWd) (os_l02Size _) fun r1 _=>?_
 refine Run.q (e:=vU) (gv:=vWd) (os_l02Size _) fun r2 _=>?_
 refine Run.q (e:=vT_U_U) (gv:=vWd) (os_l02Times _ _) fun r3 _=>?_
 refine Run.y (gv:=vWd) (fun _=>?_) (fun _=>?_)
 ·refine Run.q (e:=vWd) (gv:=vWd) (os_l02Minus _) fun r4 _=>?_
  exact Run.x 0
 ·exact Run.x 0
theorem os_l02Divide_L0 : ∀ (fu : Nat) (a1 : U64) (a2 : U64) (x_qhi : U64) (x_rest : U64) (x_q : U64) (x_i : I64) (q0 : x_i.val ≤ 63) (hm : (x_i.val + 1).toNat < fu) (t : Array Value) (ht : maskA t [0,3,4,5,13,14,15,16,17,18,19,20,21,22,23,24,25,26,27,28,29,30,31,32,33,34,35,36,37,38,39,40,41,42,43,44,45,46,47,48,49,50] = #[undef,.int .u64 a1.val,.int .u64 a2.val,undef,undef,undef,.int .u64 0,.int .u64 0,.int .u64 0,.int .u64 x_qhi.val,.int .u64 x_rest.val,.int .u64 x_q.val,.int .i64 x_i.val,undef,undef,undef,undef,undef,undef,undef,undef,undef,undef,undef,undef,undef,undef,undef,undef,undef,undef,undef,undef,undef,undef,undef,undef,undef,undef,undef,undef,undef,undef,undef,undef,undef,undef,undef,undef,undef,undef]),Cfg Tryz.prog 151 (loopAt Tryz.f151 0) t [] (RvH [] (vT_U_U_U (S_l02Divide_L0 fu a1 a2 x_qhi x_rest x_q x_i))):=by
 intro fu
 induction fu with
 | zero=>intro a1 a2 x_qhi x_rest x_q x_i q0 hm; exact absurd hm (Nat.not_lt_zero _)
 | succ fu ih=>
  intro a1 a2 x_qhi x_rest x_q x_i q0 hm t ht
  refine Cfg.round E_ok mixed Tryz.func151 ht fun g=>?_
  unfold S_l02Divide_L0
  refine Run.y (gv:=vT_U_U_U) (fun h1=>?_) (fun h1=>?_)
  ·refine Run.z [true,true] ?_
   refine Run.k (c:=(decide (0 ≤ (wu64 x_i.val).val))) (by kernel_rfl) (by simp only [w64_val,wu64_val,c64_val,cu64_val,decide_eq_true_eq] at *; first | assumption | omega) ?_
   refine Run.z [true] ?_
   refine Run.y (gv:=vT_U_U_U) (fun h2=>?_) (fun h2=>?_)
   ·refine Run.z [true,true,true,true] ?_
    exact Run.l (by kernel_rfl) (by kernel_rfl) (by kernel_rfl) (by kernel_rfl) (ih a1 a2 x_qhi (wu64 ((ior .u64 (ishl .u64 x_rest.val 1).val (iand .u64 (ishr a1 (wu64 x_i.val).val).val 1).val).val - a2.val)) (ior .u64 (ishl .u64 x_q.val 1).val 1) (w64 (x_i.val - 1)) (by have q1:=x_i.lo; simp only [w64_val,wu64_val,c64_val,cu64_val,decide_eq_true_eq] at *; omega) (by have q1:=x_i.lo; simp only [w64_val,wu64_val,c64_val,cu64_val,decide_eq_true_eq] at *; omega))
   ·refine Run.z [false,false,false] ?_
    refine Run.y (gv:=vT_U_U_U) (fun h3=>?_) (fun h3=>?_)
    ·exact Run.l (by kernel_rfl) (by kernel_rfl) (by kernel_rfl) (by kernel_rfl) (ih a1 a2 x_qhi (wu64 ((ior .u64 (ishl .u64 x_rest.val 1).val (iand .u64 (ishr a1 (wu64 x_i.val).val).val 1).val).val - a2.val)) (ior .u64 (ishl .u64 x_q.val 1).val 1) (w64 (x_i.val - 1)) (by have q1:=x_i.lo; simp only [w64_val,wu64_val,c64_val,cu64_val,decide_eq_true_eq] at *; omega) (by have q1:=x_i.lo; simp only [w64_val,wu64_val,c64_val,cu64_val,decide_eq_true_eq] at *; omega))
    ·exact Run.l (by kernel_rfl) (by kernel_rfl) (by kernel_rfl) (by kernel_rfl) (ih a1 a2 x_qhi (ior .u64 (ishl .u64 x_rest.val 1).val (iand .u64 (ishr a1 (wu64 x_i.val).val).val 1).val) (ishl .u64 x_q.val 1) (w64 (x_i.val - 1)) (by have q1:=x_i.lo; simp only [w64_val,wu64_val,c64_val,cu64_val,decide_eq_true_eq] at *; omega) (by have q1:=x_i.lo; simp only [w64_val,wu64_val,c64_val,cu64_val,decide_eq_true_eq] at *; omega))
  ·exact Run.x 0
theorem os_l02Divide (a0 : U64) (a1 : U64) (a2 : U64) (p0 : a2.val ≠ 0) : Fun Tryz.prog 151 [] #[vU a0,vU a1,vU a2] (vT_U_U_U (S_l02Divide a0 a1 a2)) []:=by
 refine Fun.ofH 400 E_ok mixed Tryz.func151 (by kernel_rfl) (by kernel_rfl) ?_
 unfold S_l02Divide
 refine Run.k (c:=(decide (a2.val ≠ 0))) (by kernel_rfl) (by simp only [w64_val,wu64_val,c64_val,cu64_val,decide_eq_true_eq] at *; first | assumption | omega) ?_
 refine Run.k (c:=(decide (a2.val ≠ 0))) (by kernel_rfl) (by simp only [w64_val,wu64_val,c64_val,cu64_val,decide_eq_true_eq] at *; first | assumption | omega) ?_
 exact Run.l (by kernel_rfl) (by kernel_rfl) (by kernel_rfl) (by kernel_rfl) (os_l02Divide_L0 65 a1 a2 (wu64 (Int.tdiv a0.val a2.val)) (imod a0 a2.val) (cu64 0) (c64 63) (by decide) (by decide))
theorem os_l02Of (a0 : I64) : Fun Tryz.prog 154 [] #[vI a0] (vWd (S_l02Of a0)) []:=by
 refine Fun.ofH 400 E_ok mixed Tryz.func154 (by kernel_rfl) (by kernel_rfl) ?_
 unfold S_l02Of
 refine Run.y (gv:=vWd) (fun _=>?_) (fun _=>?_)
 ·exact Run.x 0
 ·exact Run.x 0
theorem os_l02Plus (a0 : Wd) (a1 : Wd) : Fun Tryz.prog 153 [] #[vWd a0,vWd a1] (vWd (S_l02Plus a0 a1)) []:=by
 refine Fun.ofH 400 E_ok mixed Tryz.func153 (by kernel_rfl) (by kernel_rfl) ?_
 unfold S_l02Plus
 refine Run.y (gv:=vWd) (fun _=>?_) (fun _=>?_)
 ·exact Run.x 0
 ·exact Run.x 0
theorem os_l02Div (a0 : Wd) (a1 : I64) (p0 : 0 < a1.val) : Fun Tryz.prog 112 [] #[vWd a0,vI a1] (vT_Wd_I (S_l02Div a0 a1)) []:=by
 refine Fun.ofH 400 E_ok mixed Tryz.func112 (by kernel_rfl) (by kernel_rfl) ?_
 unfold S_l02Div
 refine Run.y (gv:=vT_Wd_I) (fun h1=>?_) (fun h1=>?_)
 ·refine Run.q (e:=vT_U_U_U) (gv:=vT_Wd_I) (os_l02Divide _ _ _ (by have q1:=a1.hi; simp only [w64_val,wu64_val,decide_eq_true_eq] at *; omega)) fun r2 hr2=>?_
  exact Run.x 0
 ·refine Run.q (e:=vWd) (gv:=vT_Wd_I) (os_l02Minus _) fun r3 hr3=>?_
  refine Run.q (e:=vT_U_U_U) (gv:=vT_Wd_I) (os_l02Divide _ _ _ (by have q1:=a1.hi; simp only [w64_val,wu64_val,decide_eq_true_eq] at *; omega)) fun r4 hr4=>?_
  refine Run.q (e:=vWd) (gv:=vT_Wd_I) (os_l02Minus _) fun r5 hr5=>?_
  refine Run.y (gv:=vT_Wd_I) (fun h6=>?_) (fun h6=>?_)
  ·exact Run.x 0
  ·refine Run.q (e:=vWd) (gv:=vT_Wd_I) (os_l02Of _) fun r7 hr7=>?_
   refine Run.q (e:=vWd) (gv:=vT_Wd_I) (os_l02Plus _ _) fun r8 hr8=>?_
   exact Run.x 0
theorem os_l02Int (a0 : Wd) : Fun Tryz.prog 114 [] #[vWd a0] (vT_I_B (S_l02Int a0)) []:=by
 refine Fun.ofH 400 E_ok mixed Tryz.func114 (by kernel_rfl) (by kernel_rfl) ?_
 unfold S_l02Int
 refine Run.q (e:=vWd) (gv:=vT_I_B) (os_l02Of _) fun r1 _=>?_
 refine Run.y (gv:=vT_I_B) (fun _=>?_) (fun _=>?_)
 ·exact Run.x 0
 ·exact Run.x 0
theorem os_MulDivFloor (a0 : I64) (a1 : I64) (a2 : I64) : Fun Tryz.prog 76 [] #[vI a0,vI a1,vI a2] (vT_I_B (S_MulDivFloor a0 a1 a2)) []:=by
 refine Fun.ofH 400 E_ok mixed Tryz.func76 (by kernel_rfl) (by kernel_rfl) ?_
 unfold S_MulDivFloor
 refine Run.y (gv:=vT_I_B) (fun h1=>?_) (fun h1=>?_)
 ·exact Run.x 0
 ·refine Run.q (e:=vWd) (gv:=vT_I_B) (os_l02Mul _ _) fun r2 hr2=>?_
  refine Run.q (e:=vT_Wd_I) (gv:=vT_I_B) (os_l02Div _ _ (by simp only [c64_val,decide_eq_true_eq,decide_eq_false_iff_not] at *; omega)) fun r3 hr3=>?_
  refine Run.q (e:=vT_I_B) (gv:=vT_I_B) (os_l02Int _) fun r4 hr4=>?_
  exact Run.x 0
theorem os_RadiansOf_r : ∀ (fu : Nat) (a0 : I64) (hm : min (0 - a0.val).toNat 1 < fu),Fun Tryz.prog 42 [] #[vI a0] (vIv (S_RadiansOf_r fu a0)) []:=by
 intro fu
 induction fu with
 | zero=>intro a0 hm; exact absurd hm (Nat.not_lt_zero _)
 | succ fu ih=>
  intro a0 hm
  refine Fun.ofH 400 E_ok mixed Tryz.func42 (by kernel_rfl) (by kernel_rfl) ?_
  unfold S_RadiansOf_r
  unfold S_RadiansOf_b
  refine Run.q (e:=vB) (gv:=vIv) (os_l00In _ _ _) fun r1 hr1=>?_
  refine Run.y (gv:=vIv) (fun h2=>?_) (fun h2=>?_)
  ·refine Run.q (e:=vIv) (gv:=vIv) (os_Whole) fun r3 hr3=>?_
   exact Run.x 0
  ·refine Run.y (gv:=vIv) (fun h4=>?_) (fun h4=>?_)
   ·exact Run.x 0
   ·refine Run.y (gv:=vIv) (fun h5=>?_) (fun h5=>?_)
    ·refine Run.q (e:=vIv) (gv:=vIv) (ih (w64 (0 - a0.val)) (by rw [hr1] at h2; simp [S_l00In,c64_val] at h2; simp only [w64_val,decide_eq_true_eq,decide_eq_false_iff_not] at *; omega)) fun r6 hr6=>?_
     refine Run.q (e:=vIv) (gv:=vIv) (os_NegI _) fun r7 hr7=>?_
     exact Run.x 0
    ·refine Run.q (e:=vT_I_B) (gv:=vIv) (os_MulDivFloor _ _ _) fun r8 hr8=>?_
     refine Run.q (e:=vT_I_B) (gv:=vIv) (os_MulDivFloor _ _ _) fun r9 hr9=>?_
     exact Run.x 0
theorem os_RadiansOf (a0 : I64) : Fun Tryz.prog 42 [] #[vI a0] (vIv (S_RadiansOf a0)) []:=os_RadiansOf_r 2 a0 (by omega)
theorem os_l03Ok (a0 : I64) : Fun Tryz.prog 122 [] #[vI a0] (vB (S_l03Ok a0)) []:=by
 refine Fun.ofH 400 E_ok mixed Tryz.func122 (by kernel_rfl) (by kernel_rfl) ?_
 unfold S_l03Ok
 refine Run.q (e:=vB) (gv:=vB) (os_l00In _ _ _) fun r1 _=>?_
 exact Run.x 0
theorem os_l03End (a0 : I64) (a1 : Bool) : Fun Tryz.prog 121 [] #[vI a0,vB a1] (vT_I_B (S_l03End a0 a1)) []:=by
 refine Fun.ofH 400 E_ok mixed Tryz.func121 (by kernel_rfl) (by kernel_rfl) ?_
 unfold S_l03End
 refine Run.y (gv:=vT_I_B) (fun _=>?_) (fun _=>?_)
 ·refine Run.z [true,true,true,true] ?_
  exact Run.x 0
 ·refine Run.z [false] ?_
  refine Run.q (e:=vB) (gv:=vT_I_B) (os_l03Ok _) fun r1 _=>?_
  refine Run.z [false,false] ?_
  refine Run.y (gv:=vT_I_B) (fun _=>?_) (fun _=>?_)
  ·exact Run.x 0
  ·exact Run.x 0
theorem os_l03Floor (a0 : I64) (a1 : I64) : Fun Tryz.prog 82 [] #[vI a0,vI a1] (vT_I_B (S_l03Floor a0 a1)) []:=by
 refine Fun.ofH 400 E_ok mixed Tryz.func82 (by kernel_rfl) (by kernel_rfl) ?_
 unfold S_l03Floor
 refine Run.y (gv:=vT_I_B) (fun _=>?_) (fun _=>?_)
 ·exact Run.x 0
 ·refine Run.q (e:=vT_I_B) (gv:=vT_I_B) (os_MulDivFloor _ _ _) fun r1 _=>?_
  refine Run.q (e:=vT_I_B) (gv:=vT_I_B) (os_l03End _ _) fun r2 _=>?_
  exact Run.x 0
theorem os_l03Ceil (a0 : I64) (a1 : I64) : Fun Tryz.prog 83 [] #[vI a0,vI a1] (vT_I_B (S_l03Ceil a0 a1)) []:=by
 refine Fun.ofH 400 E_ok mixed Tryz.func83 (by kernel_rfl) (by kernel_rfl) ?_
 unfold S_l03Ceil
 refine Run.y (gv:=vT_I_B) (fun _=>?_) (fun _=>?_)
 ·exact Run.x 0
 ·refine Run.q (e:=vT_I_B) (gv:=vT_I_B) (os_MulDivFloor _ _ _) fun r1 _=>?_
  refine Run.y (gv:=vT_I_B) (fun _=>?_) (fun _=>?_)
  ·exact Run.x 0
  ·refine Run.y (gv:=vT_I_B) (fun _=>?_) (fun _=>?_)
   ·refine Run.q (e:=vT_I_B) (gv:=vT_I_B) (os_l03End _ _) fun r2 _=>?_
    exact Run.x 0
   ·refine Run.q (e:=vT_I_B) (gv:=vT_I_B) (os_l03End _ _) fun r3 _=>?_
    exact Run.x 0
theorem os_Quotient (a0 : I64) (a1 : I64) : Fun Tryz.prog 44 [] #[vI a0,vI a1] (vIv (S_Quotient a0 a1)) []:=by
 refine Fun.ofH 400 E_ok mixed Tryz.func44 (by kernel_rfl) (by kernel_rfl) ?_
 unfold S_Quotient
 refine Run.y (gv:=vIv) (fun _=>?_) (fun _=>?_)
 ·refine Run.y (gv:=vIv) (fun _=>?_) (fun _=>?_)
  ·refine Run.z [true,true,true] ?_
   refine Run.q (e:=vIv) (gv:=vIv) (os_l04Whole) fun r1 _=>?_
   exact Run.x 0
  ·refine Run.z [false,false] ?_
   refine Run.y (gv:=vIv) (fun _=>?_) (fun _=>?_)
   ·refine Run.q (e:=vIv) (gv:=vIv) (os_l04Whole) fun r2 _=>?_
    exact Run.x 0
   ·refine Run.q (e:=vT_I_B) (gv:=vIv) (os_l03Floor _ _) fun r3 _=>?_
    refine Run.q (e:=vT_I_B) (gv:=vIv) (os_l03Ceil _ _) fun r4 _=>?_
    refine Run.y (gv:=vIv) (fun _=>?_) (fun _=>?_)
    ·refine Run.z [true,true,true] ?_
     refine Run.q (e:=vIv) (gv:=vIv) (os_l04Whole) fun r5 _=>?_
     exact Run.x 0
    ·refine Run.z [false,false] ?_
     refine Run.y (gv:=vIv) (fun _=>?_) (fun _=>?_)
     ·refine Run.q (e:=vIv) (gv:=vIv) (os_l04Whole) fun r6 _=>?_
      exact Run.x 0
     ·refine Run.q (e:=vIv) (gv:=vIv) (os_l04Make _ _) fun r7 _=>?_
      exact Run.x 0
 ·refine Run.q (e:=vT_I_B) (gv:=vIv) (os_l03Floor _ _) fun r8 _=>?_
  refine Run.q (e:=vT_I_B) (gv:=vIv) (os_l03Ceil _ _) fun r9 _=>?_
  refine Run.y (gv:=vIv) (fun _=>?_) (fun _=>?_)
  ·refine Run.z [true,true,true] ?_
   refine Run.q (e:=vIv) (gv:=vIv) (os_l04Whole) fun r10 _=>?_
   exact Run.x 0
  ·refine Run.z [false,false] ?_
   refine Run.y (gv:=vIv) (fun _=>?_) (fun _=>?_)
   ·refine Run.q (e:=vIv) (gv:=vIv) (os_l04Whole) fun r11 _=>?_
    exact Run.x 0
   ·refine Run.q (e:=vIv) (gv:=vIv) (os_l04Make _ _) fun r12 _=>?_
    exact Run.x 0
theorem os_MajorI (a0 : El) : Fun Tryz.prog 78 [] #[vEl a0] (vIv (S_MajorI a0)) []:=by
 refine Fun.ofH 400 E_ok mixed Tryz.func78 (by kernel_rfl) (by kernel_rfl) ?_
 unfold S_MajorI
 refine Run.q (e:=vB) (gv:=vIv) (os_l12Ok _) fun r1 _=>?_
 refine Run.y (gv:=vIv) (fun _=>?_) (fun _=>?_)
 ·refine Run.q (e:=vIv) (gv:=vIv) (os_l04Whole) fun r2 _=>?_
  exact Run.x 0
 ·refine Run.q (e:=vIv) (gv:=vIv) (os_Quotient _ _) fun r3 _=>?_
  exact Run.x 0
theorem os_Integer (a0 : I64) : Fun Tryz.prog 49 [] #[vI a0] (vIv (S_Integer a0)) []:=by
 refine Fun.ofH 400 E_ok mixed Tryz.func49 (by kernel_rfl) (by kernel_rfl) ?_
 unfold S_Integer
 refine Run.q (e:=vB) (gv:=vIv) (os_l00In _ _ _) fun r1 _=>?_
 refine Run.y (gv:=vIv) (fun _=>?_) (fun _=>?_)
 ·refine Run.q (e:=vIv) (gv:=vIv) (os_l04Whole) fun r2 _=>?_
  exact Run.x 0
 ·refine Run.q (e:=vIv) (gv:=vIv) (os_l04Make _ _) fun r3 _=>?_
  exact Run.x 0
theorem os_FlatteningI (a0 : El) : Fun Tryz.prog 91 [] #[vEl a0] (vIv (S_FlatteningI a0)) []:=by
 refine Fun.ofH 400 E_ok mixed Tryz.func91 (by kernel_rfl) (by kernel_rfl) ?_
 unfold S_FlatteningI
 refine Run.q (e:=vB) (gv:=vIv) (os_l12Ok _) fun r1 _=>?_
 refine Run.y (gv:=vIv) (fun _=>?_) (fun _=>?_)
 ·refine Run.q (e:=vIv) (gv:=vIv) (os_l04Whole) fun r2 _=>?_
  exact Run.x 0
 ·refine Run.q (e:=vIv) (gv:=vIv) (os_Quotient _ _) fun r3 _=>?_
  exact Run.x 0
theorem os_SubI (a0 : Iv) (a1 : Iv) : Fun Tryz.prog 48 [] #[vIv a0,vIv a1] (vIv (S_SubI a0 a1)) []:=by
 refine Fun.ofH 400 E_ok mixed Tryz.func48 (by kernel_rfl) (by kernel_rfl) ?_
 unfold S_SubI
 refine Run.q (e:=vB) (gv:=vIv) (os_l04Ok _) fun r1 _=>?_
 refine Run.y (gv:=vIv) (fun _=>?_) (fun _=>?_)
 ·refine Run.z [true,true,true,true] ?_
  refine Run.q (e:=vIv) (gv:=vIv) (os_l04Whole) fun r2 _=>?_
  exact Run.x 0
 ·refine Run.z [false] ?_
  refine Run.q (e:=vB) (gv:=vIv) (os_l04Ok _) fun r3 _=>?_
  refine Run.z [false,false] ?_
  refine Run.y (gv:=vIv) (fun _=>?_) (fun _=>?_)
  ·refine Run.q (e:=vIv) (gv:=vIv) (os_l04Whole) fun r4 _=>?_
   exact Run.x 0
  ·refine Run.q (e:=vIv) (gv:=vIv) (os_l04Make _ _) fun r5 _=>?_
   exact Run.x 0
theorem os_l02Shift (a0 : Wd) (a1 : I64) : Fun Tryz.prog 159 [] #[vWd a0,vI a1] (vWd (S_l02Shift a0 a1)) []:=by
 refine Fun.ofH 400 E_ok mixed Tryz.func159 (by kernel_rfl) (by kernel_rfl) ?_
 unfold S_l02Shift
 refine Run.y (gv:=vWd) (fun h1=>?_) (fun h1=>?_)
 ·exact Run.x 0
 ·refine Run.y (gv:=vWd) (fun h2=>?_) (fun h2=>?_)
  ·refine Run.k (c:=(decide (0 ≤ (wu64 a1.val).val))) (by kernel_rfl) (by simp only [w64_val,wu64_val,c64_val,cu64_val,decide_eq_true_eq,decide_eq_false_iff_not,cond_true,cond_false] at *; omega) ?_
   refine Run.k (c:=(decide (0 ≤ (wu64 a1.val).val))) (by kernel_rfl) (by simp only [w64_val,wu64_val,c64_val,cu64_val,decide_eq_true_eq,decide_eq_false_iff_not,cond_true,cond_false] at *; omega) ?_
   refine Run.k (c:=(decide (0 ≤ (wu64 (w64 (64 - a1.val)).val).val))) (by kernel_rfl) (by simp only [w64_val,wu64_val,c64_val,cu64_val,decide_eq_true_eq,decide_eq_false_iff_not,cond_true,cond_false] at *; omega) ?_
   exact Run.x 0
  ·refine Run.z [true] ?_
   refine Run.k (c:=(decide (0 ≤ (wu64 (w64 (a1.val - 64)).val).val))) (by kernel_rfl) (by simp only [w64_val,wu64_val,c64_val,cu64_val,decide_eq_true_eq,decide_eq_false_iff_not,cond_true,cond_false] at *; omega) ?_
   exact Run.x 0
theorem os_MulFloor (a0 : I64) (a1 : I64) (a2 : I64) : Fun Tryz.prog 123 [] #[vI a0,vI a1,vI a2] (vT_I_B (S_MulFloor a0 a1 a2)) []:=by
 refine Fun.ofH 400 E_ok mixed Tryz.func123 (by kernel_rfl) (by kernel_rfl) ?_
 unfold S_MulFloor
 refine Run.q (e:=vB) (gv:=vT_I_B) (os_l00In _ _ _) fun r1 _=>?_
 refine Run.y (gv:=vT_I_B) (fun _=>?_) (fun _=>?_)
 ·exact Run.x 0
 ·refine Run.q (e:=vWd) (gv:=vT_I_B) (os_l02Mul _ _) fun r2 _=>?_
  refine Run.q (e:=vWd) (gv:=vT_I_B) (os_l02Shift _ _) fun r3 _=>?_
  refine Run.q (e:=vT_I_B) (gv:=vT_I_B) (os_l02Int _) fun r4 _=>?_
  exact Run.x 0
theorem os_l03MulDown (a0 : I64) (a1 : I64) : Fun Tryz.prog 86 [] #[vI a0,vI a1] (vT_I_B (S_l03MulDown a0 a1)) []:=by
 refine Fun.ofH 400 E_ok mixed Tryz.func86 (by kernel_rfl) (by kernel_rfl) ?_
 unfold S_l03MulDown
 refine Run.q (e:=vB) (gv:=vT_I_B) (os_l03Ok _) fun r1 _=>?_
 refine Run.y (gv:=vT_I_B) (fun _=>?_) (fun _=>?_)
 ·refine Run.z [true,true,true,true] ?_
  exact Run.x 0
 ·refine Run.z [false] ?_
  refine Run.q (e:=vB) (gv:=vT_I_B) (os_l03Ok _) fun r2 _=>?_
  refine Run.z [false,false] ?_
  refine Run.y (gv:=vT_I_B) (fun _=>?_) (fun _=>?_)
  ·exact Run.x 0
  ·refine Run.q (e:=vT_I_B) (gv:=vT_I_B) (os_MulFloor _ _ _) fun r3 _=>?_
   refine Run.q (e:=vT_I_B) (gv:=vT_I_B) (os_l03End _ _) fun r4 _=>?_
   exact Run.x 0
theorem os_l03MulUp (a0 : I64) (a1 : I64) : Fun Tryz.prog 87 [] #[vI a0,vI a1] (vT_I_B (S_l03MulUp a0 a1)) []:=by
 refine Fun.ofH 400 E_ok mixed Tryz.func87 (by kernel_rfl) (by kernel_rfl) ?_
 unfold S_l03MulUp
 refine Run.q (e:=vT_I_B) (gv:=vT_I_B) (os_l03MulDown _ _) fun r1 _=>?_
 refine Run.q (e:=vB) (gv:=vT_I_B) (os_l03Ok _) fun r2 _=>?_
 refine Run.y (gv:=vT_I_B) (fun _=>?_) (fun _=>?_)
 ·refine Run.z [true,true,true] ?_
  exact Run.x 0
 ·refine Run.z [false,false] ?_
  refine Run.y (gv:=vT_I_B) (fun _=>?_) (fun _=>?_)
  ·exact Run.x 0
  ·exact Run.x 0
theorem os_l00Min (a0 : I64) (a1 : I64) : Fun Tryz.prog 88 [] #[vI a0,vI a1] (vI (S_l00Min a0 a1)) []:=by
 refine Fun.ofH 400 E_ok mixed Tryz.func88 (by kernel_rfl) (by kernel_rfl) ?_
 unfold S_l00Min
 refine Run.y (gv:=vI) (fun _=>?_) (fun _=>?_)
 ·exact Run.x 0
 ·exact Run.x 0
theorem os_l00Max (a0 : I64) (a1 : I64) : Fun Tryz.prog 89 [] #[vI a0,vI a1] (vI (S_l00Max a0 a1)) []:=by
 refine Fun.ofH 400 E_ok mixed Tryz.func89 (by kernel_rfl) (by kernel_rfl) ?_
 unfold S_l00Max
 refine Run.y (gv:=vI) (fun _=>?_) (fun _=>?_)
 ·exact Run.x 0
 ·exact Run.x 0
theorem os_MulI (a0 : Iv) (a1 : Iv) : Fun Tryz.prog 45 [] #[vIv a0,vIv a1] (vIv (S_MulI a0 a1)) []:=by
 refine Fun.ofH 400 E_ok mixed Tryz.func45 (by kernel_rfl) (by kernel_rfl) ?_
 unfold S_MulI
 refine Run.q (e:=vB) (gv:=vIv) (os_l04Ok _) fun r1 _=>?_
 refine Run.y (gv:=vIv) (fun _=>?_) (fun _=>?_)
 ·refine Run.z [true,true,true,true] ?_
  refine Run.q (e:=vIv) (gv:=vIv) (os_l04Whole) fun r2 _=>?_
  exact Run.x 0
 ·refine Run.z [false] ?_
  refine Run.q (e:=vB) (gv:=vIv) (os_l04Ok _) fun r3 _=>?_
  refine Run.z [false,false] ?_
  refine Run.y (gv:=vIv) (fun _=>?_) (fun _=>?_)
  ·refine Run.q (e:=vIv) (gv:=vIv) (os_l04Whole) fun r4 _=>?_
   exact Run.x 0
  ·refine Run.u 400 E_ok mixed Tryz.func45 ?_
   refine Run.z [true] ?_
   refine Run.u 400 E_ok mixed Tryz.func45 ?_
   refine Run.z [true,true,true] ?_
   refine Run.q (e:=vT_I_B) (gv:=vIv) (os_l03MulDown _ _) fun r5 _=>?_
   refine Run.z [true,true] ?_
   refine Run.q (e:=vT_I_B) (gv:=vIv) (os_l03MulUp _ _) fun r6 _=>?_
   refine Run.y (gv:=vIv) (fun _=>?_) (fun _=>?_)
   ·refine Run.z [true,true,true] ?_
    refine Run.q (e:=vIv) (gv:=vIv) (os_l04Whole) fun r7 _=>?_
    exact Run.x 0
   ·refine Run.z [false,false] ?_
    refine Run.y (gv:=vIv) (fun _=>?_) (fun _=>?_)
    ·refine Run.q (e:=vIv) (gv:=vIv) (os_l04Whole) fun r8 _=>?_
     exact Run.x 0
    ·refine Run.q (e:=vI) (gv:=vIv) (os_l00Min _ _) fun r9 _=>?_
     refine Run.q (e:=vI) (gv:=vIv) (os_l00Max _ _) fun r10 _=>?_
     refine Run.u 400 E_ok mixed Tryz.func45 ?_
     refine Run.z [true,true,true] ?_
     refine Run.q (e:=vT_I_B) (gv:=vIv) (os_l03MulDown _ _) fun r11 _=>?_
     refine Run.z [true,true] ?_
     refine Run.q (e:=vT_I_B) (gv:=vIv) (os_l03MulUp _ _) fun r12 _=>?_
     refine Run.y (gv:=vIv) (fun _=>?_) (fun _=>?_)
     ·refine Run.z [true,true,true] ?_
      refine Run.q (e:=vIv) (gv:=vIv) (os_l04Whole) fun r13 _=>?_
      exact Run.x 0
     ·refine Run.z [false,false] ?_
      refine Run.y (gv:=vIv) (fun _=>?_) (fun _=>?_)
      ·refine Run.q (e:=vIv) (gv:=vIv) (os_l04Whole) fun r14 _=>?_
       exact Run.x 0
      ·refine Run.q (e:=vI) (gv:=vIv) (os_l00Min _ _) fun r15 _=>?_
       refine Run.q (e:=vI) (gv:=vIv) (os_l00Max _ _) fun r16 _=>?_
       refine Run.u 400 E_ok mixed Tryz.func45 ?_
       refine Run.z [false] ?_
       refine Run.u 400 E_ok mixed Tryz.func45 ?_
       refine Run.z [true] ?_
       refine Run.u 400 E_ok mixed Tryz.func45 ?_
       refine Run.z [true,true,true] ?_
       refine Run.q (e:=vT_I_B) (gv:=vIv) (os_l03MulDown _ _) fun r17 _=>?_
       refine Run.z [true,true] ?_
       refine Run.q (e:=vT_I_B) (gv:=vIv) (os_l03MulUp _ _) fun r18 _=>?_
       refine Run.y (gv:=vIv) (fun _=>?_) (fun _=>?_)
       ·refine Run.z [true,true,true] ?_
        refine Run.q (e:=vIv) (gv:=vIv) (os_l04Whole) fun r19 _=>?_
        exact Run.x 0
       ·refine Run.z [false,false] ?_
        refine Run.y (gv:=vIv) (fun _=>?_) (fun _=>?_)
        ·refine Run.q (e:=vIv) (gv:=vIv) (os_l04Whole) fun r20 _=>?_
         exact Run.x 0
        ·refine Run.q (e:=vI) (gv:=vIv) (os_l00Min _ _) fun r21 _=>?_
         refine Run.q (e:=vI) (gv:=vIv) (os_l00Max _ _) fun r22 _=>?_
         refine Run.u 400 E_ok mixed Tryz.func45 ?_
         refine Run.z [true,true,true] ?_
         refine Run.q (e:=vT_I_B) (gv:=vIv) (os_l03MulDown _ _) fun r23 _=>?_
         refine Run.z [true,true] ?_
         refine Run.q (e:=vT_I_B) (gv:=vIv) (os_l03MulUp _ _) fun r24 _=>?_
         refine Run.y (gv:=vIv) (fun _=>?_) (fun _=>?_)
         ·refine Run.z [true,true,true] ?_
          refine Run.q (e:=vIv) (gv:=vIv) (os_l04Whole) fun r25 _=>?_
          exact Run.x 0
         ·refine Run.z [false,false] ?_
          refine Run.y (gv:=vIv) (fun _=>?_) (fun _=>?_)
          ·refine Run.q (e:=vIv) (gv:=vIv) (os_l04Whole) fun r26 _=>?_
           exact Run.x 0
          ·refine Run.q (e:=vI) (gv:=vIv) (os_l00Min _ _) fun r27 _=>?_
           refine Run.q (e:=vI) (gv:=vIv) (os_l00Max _ _) fun r28 _=>?_
           refine Run.u 400 E_ok mixed Tryz.func45 ?_
           refine Run.z [false] ?_
           refine Run.u 400 E_ok mixed Tryz.func45 ?_
           refine Run.z [false] ?_
           refine Run.q (e:=vIv) (gv:=vIv) (os_l04Make _ _) fun r29 _=>?_
           exact Run.x 0
theorem os_EccI (a0 : El) : Fun Tryz.prog 50 [] #[vEl a0] (vIv (S_EccI a0)) []:=by
 refine Fun.ofH 400 E_ok mixed Tryz.func50 (by kernel_rfl) (by kernel_rfl) ?_
 unfold S_EccI
 refine Run.q (e:=vIv) (gv:=vIv) (os_FlatteningI _) fun r1 _=>?_
 refine Run.q (e:=vIv) (gv:=vIv) (os_Integer _) fun r2 _=>?_
 refine Run.q (e:=vIv) (gv:=vIv) (os_SubI _ _) fun r3 _=>?_
 refine Run.q (e:=vIv) (gv:=vIv) (os_MulI _ _) fun r4 _=>?_
 exact Run.x 0
theorem os_ValidInterval (a0 : Iv) : Fun Tryz.prog 160 [] #[vIv a0] (vB (S_ValidInterval a0)) []:=by
 refine Fun.ofH 400 E_ok mixed Tryz.func160 (by kernel_rfl) (by kernel_rfl) ?_
 unfold S_ValidInterval
 refine Run.q (e:=vB) (gv:=vB) (os_l04Ok _) fun r1 _=>?_
 exact Run.x 0
theorem os_l06Angle (a0 : I64) : Fun Tryz.prog 161 [] #[vI a0] (vB (S_l06Angle a0)) []:=by
 refine Fun.ofH 400 E_ok mixed Tryz.func161 (by kernel_rfl) (by kernel_rfl) ?_
 unfold S_l06Angle
 refine Run.q (e:=vB) (gv:=vB) (os_l00In _ _ _) fun r1 _=>?_
 exact Run.x 0
theorem os_l06Fits (a0 : Iv) : Fun Tryz.prog 124 [] #[vIv a0] (vB (S_l06Fits a0)) []:=by
 refine Fun.ofH 400 E_ok mixed Tryz.func124 (by kernel_rfl) (by kernel_rfl) ?_
 unfold S_l06Fits
 refine Run.q (e:=vB) (gv:=vB) (os_ValidInterval _) fun r1 _=>?_
 refine Run.y (gv:=vB) (fun _=>?_) (fun _=>?_)
 ·refine Run.z [true,true] ?_
  refine Run.q (e:=vB) (gv:=vB) (os_l06Angle _) fun r2 _=>?_
  refine Run.z [true] ?_
  refine Run.y (gv:=vB) (fun _=>?_) (fun _=>?_)
  ·refine Run.z [true,true] ?_
   refine Run.q (e:=vB) (gv:=vB) (os_l06Angle _) fun r3 _=>?_
   refine Run.z [true] ?_
   exact Run.x 0
  ·refine Run.z [false,false,false] ?_
   exact Run.x 0
 ·refine Run.z [false,false,false,false,false,false,false] ?_
  exact Run.x 0
theorem os_l06Ring : Fun Tryz.prog 125 [] #[] (vIv (S_l06Ring)) []:=by
 refine Fun.ofH 400 E_ok mixed Tryz.func125 (by kernel_rfl) (by kernel_rfl) ?_
 unfold S_l06Ring
 exact Run.x 0
theorem os_l06Floor (a0 : I64) (a1 : I64) (p0 : a1.val ≠ 0) : Fun Tryz.prog 166 [] #[vI a0,vI a1] (vI (S_l06Floor a0 a1)) []:=by
 refine Fun.ofH 400 E_ok mixed Tryz.func166 (by kernel_rfl) (by kernel_rfl) ?_
 unfold S_l06Floor
 refine Run.k (c:=(decide (a1.val ≠ 0))) (by kernel_rfl) (by exact decide_eq_true p0) ?_
 refine Run.k (c:=(decide (a1.val ≠ 0))) (by kernel_rfl) (by exact decide_eq_true p0) ?_
 refine Run.y (gv:=vI) (fun h1=>?_) (fun h1=>?_)
 ·exact Run.x 0
 ·exact Run.x 0
theorem os_QuarterOf (a0 : I64) : Fun Tryz.prog 128 [] #[vI a0] (vI (S_QuarterOf a0)) []:=by
 refine Fun.ofH 400 E_ok mixed Tryz.func128 (by kernel_rfl) (by kernel_rfl) ?_
 unfold S_QuarterOf
 refine Run.q (e:=vB) (gv:=vI) (os_l06Angle _) fun r1 hr1=>?_
 refine Run.y (gv:=vI) (fun h2=>?_) (fun h2=>?_)
 ·exact Run.x 0
 ·refine Run.q (e:=vI) (gv:=vI) (os_l06Floor _ _ (by decide)) fun r3 hr3=>?_
  exact Run.x 0
theorem os_l05At (a0 : I64) : Fun Tryz.prog 162 [] #[vI a0] (vIv (S_l05At a0)) []:=by
 refine Fun.ofH 400 E_ok mixed Tryz.func162 (by kernel_rfl) (by kernel_rfl) ?_
 unfold S_l05At
 exact Run.x 0
theorem os_l05Turn_r : ∀ (fu : Nat) (a0 : I64) (p0 : -9223372036854775808 < a0.val) (hm : min (0 - a0.val).toNat 1 < fu),Fun Tryz.prog 167 [] #[vI a0] (vIv (S_l05Turn_r fu a0)) []:=by
 intro fu
 induction fu with
 | zero=>intro a0 p0 hm; exact absurd hm (Nat.not_lt_zero _)
 | succ fu ih=>
  intro a0 p0 hm
  refine Fun.ofH 400 E_ok mixed Tryz.func167 (by kernel_rfl) (by kernel_rfl) ?_
  unfold S_l05Turn_r
  refine Run.y (gv:=vIv) (fun h1=>?_) (fun h1=>?_)
  ·exact Run.x 0
  ·refine Run.y (gv:=vIv) (fun h2=>?_) (fun h2=>?_)
   ·refine Run.q (e:=vIv) (gv:=vIv) (ih (w64 (0 - a0.val)) (by simp only [w64_val,decide_eq_true_eq,decide_eq_false_iff_not] at *; omega) (by simp only [w64_val,decide_eq_true_eq,decide_eq_false_iff_not] at *; omega)) fun r3 hr3=>?_
    exact Run.x 0
   ·refine Run.q (e:=vT_I_B) (gv:=vIv) (os_MulFloor _ _ _) fun r4 hr4=>?_
    exact Run.x 0
theorem os_l05Turn (a0 : I64) (p0 : -9223372036854775808 < a0.val) : Fun Tryz.prog 167 [] #[vI a0] (vIv (S_l05Turn a0)) []:=os_l05Turn_r 2 a0 p0 (by omega)
theorem os_TurnI (a0 : I64) : Fun Tryz.prog 129 [] #[vI a0] (vIv (S_TurnI a0)) []:=by
 refine Fun.ofH 400 E_ok mixed Tryz.func129 (by kernel_rfl) (by kernel_rfl) ?_
 unfold S_TurnI
 refine Run.q (e:=vB) (gv:=vIv) (os_l00In _ _ _) fun r1 hr1=>?_
 refine Run.y (gv:=vIv) (fun h2=>?_) (fun h2=>?_)
 ·refine Run.q (e:=vIv) (gv:=vIv) (os_Whole) fun r3 hr3=>?_
  exact Run.x 0
 ·refine Run.q (e:=vIv) (gv:=vIv) (os_l05Turn _ (by rw [hr1] at h2; simp only [S_l00In,c64_val] at h2; by_cases z : a0.val ≥ -4096 <;> simp [z] at h2 <;> omega)) fun r4 hr4=>?_
  exact Run.x 0
theorem os_InsideI (a0 : Iv) (a1 : Iv) : Fun Tryz.prog 189 [] #[vIv a0,vIv a1] (vB (S_InsideI a0 a1)) []:=by
 refine Fun.ofH 400 E_ok mixed Tryz.func189 (by kernel_rfl) (by kernel_rfl) ?_
 unfold S_InsideI
 refine Run.q (e:=vB) (gv:=vB) (os_l04Ok _) fun r1 _=>?_
 refine Run.y (gv:=vB) (fun _=>?_) (fun _=>?_)
 ·exact Run.x 0
 ·refine Run.q (e:=vB) (gv:=vB) (os_l04Ok _) fun r2 _=>?_
  refine Run.y (gv:=vB) (fun _=>?_) (fun _=>?_)
  ·refine Run.z [true,true,true,true,true] ?_
   refine Run.y (gv:=vB) (fun _=>?_) (fun _=>?_)
   ·refine Run.z [true,true,true,true,true] ?_
    exact Run.x 0
   ·refine Run.z [false,false,false,false,false] ?_
    exact Run.x 0
  ·refine Run.z [false,false,false,false,false,false,false,false,false,false,false] ?_
   exact Run.x 0
theorem os_l04Has (a0 : Iv) (a1 : I64) : Fun Tryz.prog 115 [] #[vIv a0,vI a1] (vB (S_l04Has a0 a1)) []:=by
 refine Fun.ofH 400 E_ok mixed Tryz.func115 (by kernel_rfl) (by kernel_rfl) ?_
 unfold S_l04Has
 refine Run.q (e:=vB) (gv:=vB) (os_l00In _ _ _) fun r1 _=>?_
 exact Run.x 0
theorem os_l04Ends (a0 : Iv) : Fun Tryz.prog 158 [] #[vIv a0] (vT_I_I (S_l04Ends a0)) []:=by
 refine Fun.ofH 400 E_ok mixed Tryz.func158 (by kernel_rfl) (by kernel_rfl) ?_
 unfold S_l04Ends
 refine Run.q (e:=vI) (gv:=vT_I_I) (os_l00Max _ _) fun r1 _=>?_
 refine Run.q (e:=vI) (gv:=vT_I_I) (os_l00Max _ _) fun r2 _=>?_
 refine Run.q (e:=vB) (gv:=vT_I_I) (os_l04Has _ _) fun r3 _=>?_
 refine Run.y (gv:=vT_I_I) (fun _=>?_) (fun _=>?_)
 ·refine Run.q (e:=vI) (gv:=vT_I_I) (os_l00Max _ _) fun r4 _=>?_
  exact Run.x 0
 ·refine Run.q (e:=vI) (gv:=vT_I_I) (os_l00Min _ _) fun r5 _=>?_
  refine Run.q (e:=vI) (gv:=vT_I_I) (os_l00Max _ _) fun r6 _=>?_
  exact Run.x 0
theorem os_SqrI (a0 : Iv) : Fun Tryz.prog 120 [] #[vIv a0] (vIv (S_SqrI a0)) []:=by
 refine Fun.ofH 400 E_ok mixed Tryz.func120 (by kernel_rfl) (by kernel_rfl) ?_
 unfold S_SqrI
 refine Run.q (e:=vB) (gv:=vIv) (os_l04Ok _) fun r1 _=>?_
 refine Run.y (gv:=vIv) (fun _=>?_) (fun _=>?_)
 ·refine Run.q (e:=vIv) (gv:=vIv) (os_l04Whole) fun r2 _=>?_
  exact Run.x 0
 ·refine Run.q (e:=vT_I_I) (gv:=vIv) (os_l04Ends _) fun r3 _=>?_
  refine Run.q (e:=vT_I_B) (gv:=vIv) (os_l03MulDown _ _) fun r4 _=>?_
  refine Run.q (e:=vT_I_B) (gv:=vIv) (os_l03MulUp _ _) fun r5 _=>?_
  refine Run.y (gv:=vIv) (fun _=>?_) (fun _=>?_)
  ·refine Run.z [true,true,true] ?_
   refine Run.q (e:=vIv) (gv:=vIv) (os_l04Whole) fun r6 _=>?_
   exact Run.x 0
  ·refine Run.z [false,false] ?_
   refine Run.y (gv:=vIv) (fun _=>?_) (fun _=>?_)
   ·refine Run.q (e:=vIv) (gv:=vIv) (os_l04Whole) fun r7 _=>?_
    exact Run.x 0
   ·refine Run.q (e:=vIv) (gv:=vIv) (os_l04Make _ _) fun r8 _=>?_
    exact Run.x 0
theorem os_l03DivDown (a0 : I64) (a1 : I64) : Fun Tryz.prog 116 [] #[vI a0,vI a1] (vT_I_B (S_l03DivDown a0 a1)) []:=by
 refine Fun.ofH 400 E_ok mixed Tryz.func116 (by kernel_rfl) (by kernel_rfl) ?_
 unfold S_l03DivDown
 refine Run.q (e:=vB) (gv:=vT_I_B) (os_l03Ok _) fun r1 _=>?_
 refine Run.y (gv:=vT_I_B) (fun _=>?_) (fun _=>?_)
 ·refine Run.z [true,true,true,true,true,true,true] ?_
  exact Run.x 0
 ·refine Run.z [false] ?_
  refine Run.q (e:=vB) (gv:=vT_I_B) (os_l03Ok _) fun r2 _=>?_
  refine Run.z [false,false] ?_
  refine Run.y (gv:=vT_I_B) (fun _=>?_) (fun _=>?_)
  ·refine Run.z [true,true,true] ?_
   exact Run.x 0
  ·refine Run.z [false,false] ?_
   refine Run.y (gv:=vT_I_B) (fun _=>?_) (fun _=>?_)
   ·exact Run.x 0
   ·refine Run.y (gv:=vT_I_B) (fun _=>?_) (fun _=>?_)
    ·refine Run.q (e:=vT_I_B) (gv:=vT_I_B) (os_MulDivFloor _ _ _) fun r3 _=>?_
     refine Run.q (e:=vT_I_B) (gv:=vT_I_B) (os_l03End _ _) fun r4 _=>?_
     exact Run.x 0
    ·refine Run.q (e:=vT_I_B) (gv:=vT_I_B) (os_MulDivFloor _ _ _) fun r5 _=>?_
     refine Run.q (e:=vT_I_B) (gv:=vT_I_B) (os_l03End _ _) fun r6 _=>?_
     exact Run.x 0
theorem os_l03DivUp (a0 : I64) (a1 : I64) : Fun Tryz.prog 117 [] #[vI a0,vI a1] (vT_I_B (S_l03DivUp a0 a1)) []:=by
 refine Fun.ofH 400 E_ok mixed Tryz.func117 (by kernel_rfl) (by kernel_rfl) ?_
 unfold S_l03DivUp
 refine Run.q (e:=vB) (gv:=vT_I_B) (os_l03Ok _) fun r1 _=>?_
 refine Run.y (gv:=vT_I_B) (fun _=>?_) (fun _=>?_)
 ·exact Run.x 0
 ·refine Run.q (e:=vT_I_B) (gv:=vT_I_B) (os_l03DivDown _ _) fun r2 _=>?_
  exact Run.x 0
end Go.Proofs.YtfhnlkinjbakgaaGreatDoor.Abs
