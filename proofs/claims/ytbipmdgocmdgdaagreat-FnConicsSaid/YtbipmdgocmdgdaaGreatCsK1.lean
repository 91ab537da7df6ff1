/- The program's functions are these; part 1 (written by w.py). -/
import Derived.Test.YtbipmdgocmdgdaaGreatCsE
import Derived.Test.YtbipmdgocmdgdaaGreatCsF3
import Derived.Test.YtbipmdgocmdgdaaGreatCsQpre
set_option linter.unusedVariables false
set_option linter.unusedSimpArgs false
namespace Go.Proofs.YtbipmdgocmdgdaaGreat.Abs
open Go Go.RowKit
theorem build_src (a : Option Addr) (l c : Nat) (w : World) : (Instr.build 115 #[(0,.slice a l c)]).run Tryz.prog w = .ok (.agg #[.slice a l c,.int .i64 0,.int .u64 0]) w:=run_build w 115 _ _ (by kernel_rfl)
attribute [local go_sem] build_src
theorem os_l00Sourced : Sourced Tryz.prog 30 115:=by
 refine ⟨⟨_,Tryz.func30,by kernel_rfl,by kernel_rfl⟩,fun a l c w=>?_⟩
 go_enter Tryz.func30,Tryz.ntmps30
 go_wp2
 go_ret
 exact ⟨rfl,rfl⟩
theorem os_l00From (c0 : Cd) : FunS Tryz.prog 30 [(c0.row,c0.ty)] [] #[(c0.sl 0)] (fun v Y=>v = .pointer (some ⟨1,0,none⟩) ∧ Y = [srcB 115 (c0.sl 0) (c64 0) (cu64 0)]):=Sourced.list c0 (by decide) os_l00Sourced
theorem os_l00Src_next__src (c0 : Cd) (b1 : Src) (ps : 0 ≤ b1.ix.val ∧ b1.ix.val + 1 ≤ 1000000000) : FunS Tryz.prog 114 [(c0.row,c0.ty)] [srcB 115 (c0.sl 0) b1.ix b1.sd] #[.pointer (some ⟨1,0,none⟩)] (Drew vI 115 (c0.sl 0) b1.ix.val (b1.ix.val + 1) (S_l00Src_next__src c0 b1)):=by
 refine FunS.drew (fun _ _=>rfl) (allc (c0.calm) rfl) (by kernel_rfl) (FunR.of 400 E_ok mixed Tryz.func114 (by kernel_rfl) ?_)
 show Run _ _ ((RD [(c0.row,c0.ty)] vI 115 (c0.sl 0) b1.ix.val (b1.ix.val + 1)) (S_l00Src_next__src c0 b1)) _
 unfold S_l00Src_next__src
 refine Run.gy (Rg:=(RD [(c0.row,c0.ty)] vI 115 (c0.sl 0) b1.ix.val (b1.ix.val + 1))) (fun h1=>?_) (fun h1=>?_)
 ·refine Run.k (c:=(decide (0 ≤ b1.ix.val ∧ b1.ix.val < ((c0.L.length : Nat) : Int)))) (by kernel_rfl) (by simp only [w64_val,wu64_val,c64_val,cu64_val,decide_eq_true_eq,decide_eq_false_iff_not,cond_true,cond_false] at *; omega) ?_
  refine Run.ld (by kernel_rfl) (Cd.byte c0 (i:=b1.ix) (by simp only [w64_val,wu64_val,c64_val,cu64_val,decide_eq_true_eq,decide_eq_false_iff_not,cond_true,cond_false] at *; omega)) ?_
  refine Run.gy (Rg:=(RD [(c0.row,c0.ty)] vI 115 (c0.sl 0) b1.ix.val (b1.ix.val + 1))) (fun h2=>?_) (fun h2=>?_)
  ·exact Run.dr (by kernel_rfl) (by kernel_rfl) (by first | omega | (simp only [w64_val,c64_val] at *; omega))
  ·refine Run.z [true] ?_
   exact Run.dr (by kernel_rfl) (by kernel_rfl) (by first | omega | (simp only [w64_val,c64_val] at *; omega))
 ·refine Run.gy (Rg:=(RD [(c0.row,c0.ty)] vI 115 (c0.sl 0) b1.ix.val (b1.ix.val + 1))) (fun h3=>?_) (fun h3=>?_)
  ·exact Run.dr (by kernel_rfl) (by kernel_rfl) (by first | omega | (simp only [w64_val,c64_val] at *; omega))
  ·refine Run.z [true] ?_
   exact Run.dr (by kernel_rfl) (by kernel_rfl) (by first | omega | (simp only [w64_val,c64_val] at *; omega))
theorem os_l00Src_pick__src (c0 : Cd) (b1 : Src) (a0 : I64) (ps : 0 ≤ b1.ix.val ∧ b1.ix.val + 2 ≤ 1000000000) : FunS Tryz.prog 32 [(c0.row,c0.ty)] [srcB 115 (c0.sl 0) b1.ix b1.sd] #[.pointer (some ⟨1,0,none⟩),vI a0] (Drew vI 115 (c0.sl 0) b1.ix.val (b1.ix.val + 2) (S_l00Src_pick__src c0 b1 a0)):=by
 refine FunS.drew (fun _ _=>rfl) (allc (c0.calm) rfl) (by kernel_rfl) (FunR.of 400 E_ok mixed Tryz.func32 (by kernel_rfl) ?_)
 show Run _ _ ((RD [(c0.row,c0.ty)] vI 115 (c0.sl 0) b1.ix.val (b1.ix.val + 2)) (S_l00Src_pick__src c0 b1 a0)) _
 unfold S_l00Src_pick__src
 refine Run.gy (Rg:=(RD [(c0.row,c0.ty)] vI 115 (c0.sl 0) b1.ix.val (b1.ix.val + 2))) (fun h1=>?_) (fun h1=>?_)
 ·exact Run.dr (by kernel_rfl) (by kernel_rfl) (by first | omega | (simp only [w64_val,c64_val] at *; omega))
 ·refine Run.cw (e:=vI) (Rg:=(RD [(c0.row,c0.ty)] vI 115 (c0.sl 0) b1.ix.val (b1.ix.val + 2))) [0] 1 (os_l00Src_next__src _ _ (by first | omega | (simp only [w64_val,c64_val] at *; omega))) (allc (c0.calm) rfl) fun r2 hr2 kr2=>?_
  refine Run.gy (Rg:=(RD [(c0.row,c0.ty)] vI 115 (c0.sl 0) b1.ix.val (b1.ix.val + 2))) (fun h3=>?_) (fun h3=>?_)
  ·refine Run.cw (e:=vI) (Rg:=(RD [(c0.row,c0.ty)] vI 115 (c0.sl 0) b1.ix.val (b1.ix.val + 2))) [0] 1 (os_l00Src_next__src _ _ (by first | omega | (simp only [w64_val,c64_val] at *; omega))) (allc (c0.calm) rfl) fun r4 hr4 kr4=>?_
   refine Run.k (c:=(decide (a0.val ≠ 0))) (by kernel_rfl) (by simp only [w64_val,wu64_val,c64_val,cu64_val,decide_eq_true_eq,decide_eq_false_iff_not,cond_true,cond_false] at *; omega) ?_
   exact Run.dr (by kernel_rfl) (by kernel_rfl) (by first | omega | (simp only [w64_val,c64_val] at *; omega))
  ·refine Run.k (c:=(decide (a0.val ≠ 0))) (by kernel_rfl) (by simp only [w64_val,wu64_val,c64_val,cu64_val,decide_eq_true_eq,decide_eq_false_iff_not,cond_true,cond_false] at *; omega) ?_
   exact Run.dr (by kernel_rfl) (by kernel_rfl) (by first | omega | (simp only [w64_val,c64_val] at *; omega))
theorem os_l00Src_one__src (c0 : Cd) (b1 : Src) (a0 : I64) (ps : 0 ≤ b1.ix.val ∧ b1.ix.val + 2 ≤ 1000000000) : FunS Tryz.prog 72 [(c0.row,c0.ty)] [srcB 115 (c0.sl 0) b1.ix b1.sd] #[.pointer (some ⟨1,0,none⟩),vI a0] (Drew vB 115 (c0.sl 0) b1.ix.val (b1.ix.val + 2) (S_l00Src_one__src c0 b1 a0)):=by
 refine FunS.drew (fun _ _=>rfl) (allc (c0.calm) rfl) (by kernel_rfl) (FunR.of 400 E_ok mixed Tryz.func72 (by kernel_rfl) ?_)
 show Run _ _ ((RD [(c0.row,c0.ty)] vB 115 (c0.sl 0) b1.ix.val (b1.ix.val + 2)) (S_l00Src_one__src c0 b1 a0)) _
 unfold S_l00Src_one__src
 refine Run.cw (e:=vI) (Rg:=(RD [(c0.row,c0.ty)] vB 115 (c0.sl 0) b1.ix.val (b1.ix.val + 2))) [0] 1 (os_l00Src_pick__src _ _ _ (by first | omega | (simp only [w64_val,c64_val] at *; omega))) (allc (c0.calm) rfl) fun r1 hr1 kr1=>?_
 exact Run.dr (by kernel_rfl) (by kernel_rfl) (by first | omega | (simp only [w64_val,c64_val] at *; omega))
theorem os_l00Src_among__src__s4 (c0 : Cd) (b1_0 : I64) (b1_1 : I64) (b1_2 : I64) (b1_3 : I64) (b2 : Src) (ps : 0 ≤ b2.ix.val ∧ b2.ix.val + 2 ≤ 1000000000) : FunS Tryz.prog 121 [(c0.row,c0.ty),(#[.int .i64 b1_0.val,.int .i64 b1_1.val,.int .i64 b1_2.val,.int .i64 b1_3.val],2)] [srcB 115 (c0.sl 0) b2.ix b2.sd] #[.pointer (some ⟨2,0,none⟩),.slice (some ⟨1,0,none⟩) 4 4] (Drew vI 115 (c0.sl 0) b2.ix.val (b2.ix.val + 2) (S_l00Src_among__src__s4 c0 b1_0 b1_1 b1_2 b1_3 b2)):=by
 refine FunS.marks (args:=#[.pointer (some ⟨2,0,none⟩),.slice (some ⟨1,0,some 0⟩) 4 4]) (by kernel_rfl) ?_
 refine FunS.drew (fun _ _=>rfl) (allc (c0.calm) (allc (by kernel_rfl) rfl)) (by kernel_rfl) (FunR.of 400 E_ok mixed Tryz.func121 (by kernel_rfl) ?_)
 show Run _ _ ((RD [(c0.row,c0.ty),(#[.int .i64 b1_0.val,.int .i64 b1_1.val,.int .i64 b1_2.val,.int .i64 b1_3.val],2)] vI 115 (c0.sl 0) b2.ix.val (b2.ix.val + 2)) (S_l00Src_among__src__s4 c0 b1_0 b1_1 b1_2 b1_3 b2)) _
 unfold S_l00Src_among__src__s4
 refine Run.cw (e:=vI) (Rg:=(RD [(c0.row,c0.ty),(#[.int .i64 b1_0.val,.int .i64 b1_1.val,.int .i64 b1_2.val,.int .i64 b1_3.val],2)] vI 115 (c0.sl 0) b2.ix.val (b2.ix.val + 2))) [0] 2 (os_l00Src_pick__src _ _ _ (by first | omega | (simp only [w64_val,c64_val] at *; omega))) (allc (c0.calm) rfl) fun r1 hr1 kr1=>?_
 refine Run.k (c:=(decide (0 ≤ r1.1.val ∧ r1.1.val < 4))) (by kernel_rfl) (by rw [hr1]; first | exact decide_eq_true ⟨(pick_range _ _ _).1,(pick_range _ _ _).2 (by decide)⟩ | exact ⟨(pick_range _ _ _).1,(pick_range _ _ _).2 (by decide)⟩) ?_
 refine Run.ld (by kernel_rfl) (listAt_ok (L:=[b1_0,b1_1,b1_2,b1_3]) (pad:=[]) (i:=r1.1) (by rw [hr1]; first | exact decide_eq_true ⟨(pick_range _ _ _).1,(pick_range _ _ _).2 (by decide)⟩ | exact ⟨(pick_range _ _ _).1,(pick_range _ _ _).2 (by decide)⟩)) ?_
 exact Run.dr (by kernel_rfl) (by kernel_rfl) (by first | omega | (simp only [w64_val,c64_val] at *; omega))
theorem os_l05Number__src (c0 : Cd) (b1 : Src) (a0 : I64) (p0 : 0 ≤ a0.val) (p1 : a0.val < 9223372036854775807) (ps : 0 ≤ b1.ix.val ∧ b1.ix.val + 13 ≤ 1000000000) : FunS Tryz.prog 120 [(c0.row,c0.ty)] [srcB 115 (c0.sl 0) b1.ix b1.sd] #[.pointer (some ⟨1,0,none⟩),vI a0] (Drew vI 115 (c0.sl 0) b1.ix.val (b1.ix.val + 13) (S_l05Number__src c0 b1 a0)):=by
 refine FunS.drew (fun _ _=>rfl) (allc (c0.calm) rfl) (by kernel_rfl) (FunR.of 400 E_ok mixed Tryz.func120 (by kernel_rfl) ?_)
 show Run _ _ ((RD [(c0.row,c0.ty)] vI 115 (c0.sl 0) b1.ix.val (b1.ix.val + 13)) (S_l05Number__src c0 b1 a0)) _
 unfold S_l05Number__src
 refine Run.u 400 E_ok mixed Tryz.func120 ?_
 refine Run.z [true,true] ?_
 refine Run.cw (e:=vI) (Rg:=(RD [(c0.row,c0.ty)] vI 115 (c0.sl 0) b1.ix.val (b1.ix.val + 13))) [0] 1 (os_l00Src_next__src _ _ (by first | omega | (simp only [w64_val,c64_val] at *; omega))) (allc (c0.calm) rfl) fun r1 hr1 kr1=>?_
 refine Run.u 400 E_ok mixed Tryz.func120 ?_
 refine Run.z [true,true] ?_
 refine Run.cw (e:=vI) (Rg:=(RD [(c0.row,c0.ty)] vI 115 (c0.sl 0) b1.ix.val (b1.ix.val + 13))) [0] 1 (os_l00Src_next__src _ _ (by first | omega | (simp only [w64_val,c64_val] at *; omega))) (allc (c0.calm) rfl) fun r2 hr2 kr2=>?_
 refine Run.u 400 E_ok mixed Tryz.func120 ?_
 refine Run.z [true,true] ?_
 refine Run.cw (e:=vI) (Rg:=(RD [(c0.row,c0.ty)] vI 115 (c0.sl 0) b1.ix.val (b1.ix.val + 13))) [0] 1 (os_l00Src_next__src _ _ (by first | omega | (simp only [w64_val,c64_val] at *; omega))) (allc (c0.calm) rfl) fun r3 hr3 kr3=>?_
 refine Run.u 400 E_ok mixed Tryz.func120 ?_
 refine Run.z [true,true] ?_
 refine Run.cw (e:=vI) (Rg:=(RD [(c0.row,c0.ty)] vI 115 (c0.sl 0) b1.ix.val (b1.ix.val + 13))) [0] 1 (os_l00Src_next__src _ _ (by first | omega | (simp only [w64_val,c64_val] at *; omega))) (allc (c0.calm) rfl) fun r4 hr4 kr4=>?_
 refine Run.u 400 E_ok mixed Tryz.func120 ?_
 refine Run.z [true,true] ?_
 refine Run.cw (e:=vI) (Rg:=(RD [(c0.row,c0.ty)] vI 115 (c0.sl 0) b1.ix.val (b1.ix.val + 13))) [0] 1 (os_l00Src_next__src _ _ (by first | omega | (simp only [w64_val,c64_val] at *; omega))) (allc (c0.calm) rfl) fun r5 hr5 kr5=>?_
 refine Run.u 400 E_ok mixed Tryz.func120 ?_
 refine Run.z [true,true] ?_
 refine Run.cw (e:=vI) (Rg:=(RD [(c0.row,c0.ty)] vI 115 (c0.sl 0) b1.ix.val (b1.ix.val + 13))) [0] 1 (os_l00Src_next__src _ _ (by first | omega | (simp only [w64_val,c64_val] at *; omega))) (allc (c0.calm) rfl) fun r6 hr6 kr6=>?_
 refine Run.u 400 E_ok mixed Tryz.func120 ?_
 refine Run.z [true,true] ?_
 refine Run.cw (e:=vI) (Rg:=(RD [(c0.row,c0.ty)] vI 115 (c0.sl 0) b1.ix.val (b1.ix.val + 13))) [0] 1 (os_l00Src_next__src _ _ (by first | omega | (simp only [w64_val,c64_val] at *; omega))) (allc (c0.calm) rfl) fun r7 hr7 kr7=>?_
 refine Run.u 400 E_ok mixed Tryz.func120 ?_
 refine Run.z [false] ?_
 refine Run.k (c:=(decide ((w64 (a0.val + 1)).val ≠ 0))) (by kernel_rfl) (by simp only [w64_val,wu64_val,c64_val,cu64_val,decide_eq_true_eq,decide_eq_false_iff_not,cond_true,cond_false] at *; omega) ?_
 refine Run.cw (e:=vI) (Rg:=(RD [(c0.row,c0.ty)] vI 115 (c0.sl 0) b1.ix.val (b1.ix.val + 13))) [0] 1 (os_l00Src_pick__src _ _ _ (by first | omega | (simp only [w64_val,c64_val] at *; omega))) (allc (c0.calm) rfl) fun r8 hr8 kr8=>?_
 refine Run.gy (Rg:=(RD [(c0.row,c0.ty)] vI 115 (c0.sl 0) b1.ix.val (b1.ix.val + 13))) (fun h9=>?_) (fun h9=>?_)
 ·refine Run.cw (e:=vI) (Rg:=(RD [(c0.row,c0.ty)] vI 115 (c0.sl 0) b1.ix.val (b1.ix.val + 13))) [0] 1 (os_l00Src_pick__src _ _ _ (by first | omega | (simp only [w64_val,c64_val] at *; omega))) (allc (c0.calm) rfl) fun r10 hr10 kr10=>?_
  refine Run.k (c:=(decide (0 ≤ (wu64 r10.1.val).val))) (by kernel_rfl) (by simp only [w64_val,wu64_val,c64_val,cu64_val,decide_eq_true_eq,decide_eq_false_iff_not,cond_true,cond_false] at *; omega) ?_
  refine Run.cw (e:=vB) (Rg:=(RD [(c0.row,c0.ty)] vI 115 (c0.sl 0) b1.ix.val (b1.ix.val + 13))) [0] 1 (os_l00Src_one__src _ _ _ (by first | omega | (simp only [w64_val,c64_val] at *; omega))) (allc (c0.calm) rfl) fun r11 hr11 kr11=>?_
  refine Run.gy (Rg:=(RD [(c0.row,c0.ty)] vI 115 (c0.sl 0) b1.ix.val (b1.ix.val + 13))) (fun h12=>?_) (fun h12=>?_)
  ·exact Run.dr (by kernel_rfl) (by kernel_rfl) (by first | omega | (simp only [w64_val,c64_val] at *; omega))
  ·exact Run.dr (by kernel_rfl) (by kernel_rfl) (by first | omega | (simp only [w64_val,c64_val] at *; omega))
 ·refine Run.gy (Rg:=(RD [(c0.row,c0.ty)] vI 115 (c0.sl 0) b1.ix.val (b1.ix.val + 13))) (fun h13=>?_) (fun h13=>?_)
  ·refine Run.z [true] ?_
   refine Run.cw (e:=vI) (Rg:=(RD [(c0.row,c0.ty)] vI 115 (c0.sl 0) b1.ix.val (b1.ix.val + 13))) [0,2] 1 (os_l00Src_among__src__s4 _ _ _ _ _ _ (by first | omega | (simp only [w64_val,c64_val] at *; omega))) (allc (c0.calm) (allc (by kernel_rfl) rfl)) fun r14 hr14 kr14=>?_
   refine Run.cw (e:=vB) (Rg:=(RD [(c0.row,c0.ty)] vI 115 (c0.sl 0) b1.ix.val (b1.ix.val + 13))) [0] 1 (os_l00Src_one__src _ _ _ (by first | omega | (simp only [w64_val,c64_val] at *; omega))) (allc (c0.calm) rfl) fun r15 hr15 kr15=>?_
   refine Run.gy (Rg:=(RD [(c0.row,c0.ty)] vI 115 (c0.sl 0) b1.ix.val (b1.ix.val + 13))) (fun h16=>?_) (fun h16=>?_)
   ·exact Run.dr (by kernel_rfl) (by kernel_rfl) (by first | omega | (simp only [w64_val,c64_val] at *; omega))
   ·exact Run.dr (by kernel_rfl) (by kernel_rfl) (by first | omega | (simp only [w64_val,c64_val] at *; omega))
  ·refine Run.cw (e:=vB) (Rg:=(RD [(c0.row,c0.ty)] vI 115 (c0.sl 0) b1.ix.val (b1.ix.val + 13))) [0] 1 (os_l00Src_one__src _ _ _ (by first | omega | (simp only [w64_val,c64_val] at *; omega))) (allc (c0.calm) rfl) fun r17 hr17 kr17=>?_
   refine Run.gy (Rg:=(RD [(c0.row,c0.ty)] vI 115 (c0.sl 0) b1.ix.val (b1.ix.val + 13))) (fun h18=>?_) (fun h18=>?_)
   ·exact Run.dr (by kernel_rfl) (by kernel_rfl) (by first | omega | (simp only [w64_val,c64_val] at *; omega))
   ·exact Run.dr (by kernel_rfl) (by kernel_rfl) (by first | omega | (simp only [w64_val,c64_val] at *; omega))
theorem os_l11Wrap (a0 : I64) : Fun Tryz.prog 73 [] #[vI a0] (vI (S_l11Wrap a0)) []:=by
 refine Fun.ofH 400 E_ok mixed Tryz.func73 (by kernel_rfl) (by kernel_rfl) ?_
 unfold S_l11Wrap
 refine Run.z [true] ?_
 refine Run.y (gv:=vI) (fun _=>?_) (fun _=>?_)
 ·refine Run.y (gv:=vI) (fun _=>?_) (fun _=>?_)
  ·exact Run.x 0
  ·exact Run.x 0
 ·refine Run.y (gv:=vI) (fun _=>?_) (fun _=>?_)
  ·exact Run.x 0
  ·exact Run.x 0
theorem os_l00Src_among__src__s5 (c0 : Cd) (b1_0 : I64) (b1_1 : I64) (b1_2 : I64) (b1_3 : I64) (b1_4 : I64) (b2 : Src) (ps : 0 ≤ b2.ix.val ∧ b2.ix.val + 2 ≤ 1000000000) : FunS Tryz.prog 121 [(c0.row,c0.ty),(#[.int .i64 b1_0.val,.int .i64 b1_1.val,.int .i64 b1_2.val,.int .i64 b1_3.val,.int .i64 b1_4.val],2)] [srcB 115 (c0.sl 0) b2.ix b2.sd] #[.pointer (some ⟨2,0,none⟩),.slice (some ⟨1,0,none⟩) 5 5] (Drew vI 115 (c0.sl 0) b2.ix.val (b2.ix.val + 2) (S_l00Src_among__src__s5 c0 b1_0 b1_1 b1_2 b1_3 b1_4 b2)):=by
 refine FunS.marks (args:=#[.pointer (some ⟨2,0,none⟩),.slice (some ⟨1,0,some 0⟩) 5 5]) (by kernel_rfl) ?_
 refine FunS.drew (fun _ _=>rfl) (allc (c0.calm) (allc (by kernel_rfl) rfl)) (by kernel_rfl) (FunR.of 400 E_ok mixed Tryz.func121 (by kernel_rfl) ?_)
 show Run _ _ ((RD [(c0.row,c0.ty),(#[.int .i64 b1_0.val,.int .i64 b1_1.val,.int .i64 b1_2.val,.int .i64 b1_3.val,.int .i64 b1_4.val],2)] vI 115 (c0.sl 0) b2.ix.val (b2.ix.val + 2)) (S_l00Src_among__src__s5 c0 b1_0 b1_1 b1_2 b1_3 b1_4 b2)) _
 unfold S_l00Src_among__src__s5
 refine Run.cw (e:=vI) (Rg:=(RD [(c0.row,c0.ty),(#[.int .i64 b1_0.val,.int .i64 b1_1.val,.int .i64 b1_2.val,.int .i64 b1_3.val,.int .i64 b1_4.val],2)] vI 115 (c0.sl 0) b2.ix.val (b2.ix.val + 2))) [0] 2 (os_l00Src_pick__src _ _ _ (by first | omega | (simp only [w64_val,c64_val] at *; omega))) (allc (c0.calm) rfl) fun r1 hr1 kr1=>?_
 refine Run.k (c:=(decide (0 ≤ r1.1.val ∧ r1.1.val < 5))) (by kernel_rfl) (by rw [hr1]; first | exact decide_eq_true ⟨(pick_range _ _ _).1,(pick_range _ _ _).2 (by decide)⟩ | exact ⟨(pick_range _ _ _).1,(pick_range _ _ _).2 (by decide)⟩) ?_
 refine Run.ld (by kernel_rfl) (listAt_ok (L:=[b1_0,b1_1,b1_2,b1_3,b1_4]) (pad:=[]) (i:=r1.1) (by rw [hr1]; first | exact decide_eq_true ⟨(pick_range _ _ _).1,(pick_range _ _ _).2 (by decide)⟩ | exact ⟨(pick_range _ _ _).1,(pick_range _ _ _).2 (by decide)⟩)) ?_
 exact Run.dr (by kernel_rfl) (by kernel_rfl) (by first | omega | (simp only [w64_val,c64_val] at *; omega))
theorem os_l11Draw__src (c0 : Cd) (b1 : Src) (ps : 0 ≤ b1.ix.val ∧ b1.ix.val + 30 ≤ 1000000000) : FunS Tryz.prog 36 [(c0.row,c0.ty)] [srcB 115 (c0.sl 0) b1.ix b1.sd] #[.pointer (some ⟨1,0,none⟩)] (Drew vPt 115 (c0.sl 0) b1.ix.val (b1.ix.val + 30) (S_l11Draw__src c0 b1)):=by
 refine FunS.drew (fun _ _=>rfl) (allc (c0.calm) rfl) (by kernel_rfl) (FunR.of 400 E_ok mixed Tryz.func36 (by kernel_rfl) ?_)
 show Run _ _ ((RD [(c0.row,c0.ty)] vPt 115 (c0.sl 0) b1.ix.val (b1.ix.val + 30)) (S_l11Draw__src c0 b1)) _
 unfold S_l11Draw__src
 refine Run.cw (e:=vI) (Rg:=(RD [(c0.row,c0.ty)] vPt 115 (c0.sl 0) b1.ix.val (b1.ix.val + 30))) [0] 1 (os_l05Number__src _ _ _ (by simp only [w64_val,wu64_val,c64_val,cu64_val,decide_eq_true_eq,decide_eq_false_iff_not,cond_true,cond_false] at *; omega) (by simp only [w64_val,wu64_val,c64_val,cu64_val,decide_eq_true_eq,decide_eq_false_iff_not,cond_true,cond_false] at *; omega) (by first | omega | (simp only [w64_val,c64_val] at *; omega))) (allc (c0.calm) rfl) fun r1 hr1 kr1=>?_
 refine Run.cw (e:=vI) (Rg:=(RD [(c0.row,c0.ty)] vPt 115 (c0.sl 0) b1.ix.val (b1.ix.val + 30))) [0] 1 (os_l05Number__src _ _ _ (by simp only [w64_val,wu64_val,c64_val,cu64_val,decide_eq_true_eq,decide_eq_false_iff_not,cond_true,cond_false] at *; omega) (by simp only [w64_val,wu64_val,c64_val,cu64_val,decide_eq_true_eq,decide_eq_false_iff_not,cond_true,cond_false] at *; omega) (by first | omega | (simp only [w64_val,c64_val] at *; omega))) (allc (c0.calm) rfl) fun r2 hr2 kr2=>?_
 refine Run.gq (Rg:=(RD [(c0.row,c0.ty)] vPt 115 (c0.sl 0) b1.ix.val (b1.ix.val + 30))) (e:=vI) (os_l11Wrap _) fun r3 hr3=>?_
 refine Run.cw (e:=vI) (Rg:=(RD [(c0.row,c0.ty)] vPt 115 (c0.sl 0) b1.ix.val (b1.ix.val + 30))) [0] 1 (os_l00Src_pick__src _ _ _ (by first | omega | (simp only [w64_val,c64_val] at *; omega))) (allc (c0.calm) rfl) fun r4 hr4 kr4=>?_
 refine Run.gy (Rg:=(RD [(c0.row,c0.ty)] vPt 115 (c0.sl 0) b1.ix.val (b1.ix.val + 30))) (fun h5=>?_) (fun h5=>?_)
 ·refine Run.cw (e:=vI) (Rg:=(RD [(c0.row,c0.ty)] vPt 115 (c0.sl 0) b1.ix.val (b1.ix.val + 30))) [0,4] 1 (os_l00Src_among__src__s4 _ _ _ _ _ _ (by first | omega | (simp only [w64_val,c64_val] at *; omega))) (allc (c0.calm) (allc (by kernel_rfl) rfl)) fun r6 hr6 kr6=>?_
  exact Run.dr (by kernel_rfl) (by kernel_rfl) (by first | omega | (simp only [w64_val,c64_val] at *; omega))
 ·refine Run.gy (Rg:=(RD [(c0.row,c0.ty)] vPt 115 (c0.sl 0) b1.ix.val (b1.ix.val + 30))) (fun h7=>?_) (fun h7=>?_)
  ·refine Run.cw (e:=vI) (Rg:=(RD [(c0.row,c0.ty)] vPt 115 (c0.sl 0) b1.ix.val (b1.ix.val + 30))) [0,4] 1 (os_l00Src_among__src__s5 _ _ _ _ _ _ _ (by first | omega | (simp only [w64_val,c64_val] at *; omega))) (allc (c0.calm) (allc (by kernel_rfl) rfl)) fun r8 hr8 kr8=>?_
   exact Run.dr (by kernel_rfl) (by kernel_rfl) (by first | omega | (simp only [w64_val,c64_val] at *; omega))
  ·exact Run.dr (by kernel_rfl) (by kernel_rfl) (by first | omega | (simp only [w64_val,c64_val] at *; omega))
theorem os_l00In (a0 : I64) (a1 : I64) (a2 : I64) : Fun Tryz.prog 41 [] #[vI a0,vI a1,vI a2] (vB (S_l00In a0 a1 a2)) []:=by
 refine Fun.ofH 400 E_ok mixed Tryz.func41 (by kernel_rfl) (by kernel_rfl) ?_
 unfold S_l00In
 refine Run.y (gv:=vB) (fun _=>?_) (fun _=>?_)
 ·refine Run.z [true,true,true] ?_
  exact Run.x 0
 ·refine Run.z [false,false,false] ?_
  exact Run.x 0
theorem os_l17Draw__src (c0 : Cd) (b1 : Src) (a0 : I64) (ps : 0 ≤ b1.ix.val ∧ b1.ix.val + 60 ≤ 1000000000) : FunS Tryz.prog 31 [(c0.row,c0.ty)] [srcB 115 (c0.sl 0) b1.ix b1.sd] #[.pointer (some ⟨1,0,none⟩),vI a0] (Drew vPj 115 (c0.sl 0) b1.ix.val (b1.ix.val + 60) (S_l17Draw__src c0 b1 a0)):=by
 refine FunS.drew (fun _ _=>rfl) (allc (c0.calm) rfl) (by kernel_rfl) (FunR.of 400 E_ok mixed Tryz.func31 (by kernel_rfl) ?_)
 show Run _ _ ((RD [(c0.row,c0.ty)] vPj 115 (c0.sl 0) b1.ix.val (b1.ix.val + 60)) (S_l17Draw__src c0 b1 a0)) _
 unfold S_l17Draw__src
 refine Run.cw (e:=vPt) (Rg:=(RD [(c0.row,c0.ty)] vPj 115 (c0.sl 0) b1.ix.val (b1.ix.val + 60))) [0] 1 (os_l11Draw__src _ _ (by first | omega | (simp only [w64_val,c64_val] at *; omega))) (allc (c0.calm) rfl) fun r1 hr1 kr1=>?_
 refine Run.gy (Rg:=(RD [(c0.row,c0.ty)] vPj 115 (c0.sl 0) b1.ix.val (b1.ix.val + 60))) (fun h2=>?_) (fun h2=>?_)
 ·refine Run.z [true,true,true] ?_
  refine Run.cw (e:=vI) (Rg:=(RD [(c0.row,c0.ty)] vPj 115 (c0.sl 0) b1.ix.val (b1.ix.val + 60))) [0] 1 (os_l00Src_pick__src _ _ _ (by first | omega | (simp only [w64_val,c64_val] at *; omega))) (allc (c0.calm) rfl) fun r3 hr3 kr3=>?_
  exact Run.dr (by kernel_rfl) (by kernel_rfl) (by first | omega | (simp only [w64_val,c64_val] at *; omega))
 ·refine Run.z [false,false] ?_
  refine Run.gy (Rg:=(RD [(c0.row,c0.ty)] vPj 115 (c0.sl 0) b1.ix.val (b1.ix.val + 60))) (fun h4=>?_) (fun h4=>?_)
  ·refine Run.cw (e:=vI) (Rg:=(RD [(c0.row,c0.ty)] vPj 115 (c0.sl 0) b1.ix.val (b1.ix.val + 60))) [0] 1 (os_l00Src_pick__src _ _ _ (by first | omega | (simp only [w64_val,c64_val] at *; omega))) (allc (c0.calm) rfl) fun r5 hr5 kr5=>?_
   exact Run.dr (by kernel_rfl) (by kernel_rfl) (by first | omega | (simp only [w64_val,c64_val] at *; omega))
  ·refine Run.gq (Rg:=(RD [(c0.row,c0.ty)] vPj 115 (c0.sl 0) b1.ix.val (b1.ix.val + 60))) (e:=vB) (os_l00In _ _ _) fun r6 hr6=>?_
   refine Run.gy (Rg:=(RD [(c0.row,c0.ty)] vPj 115 (c0.sl 0) b1.ix.val (b1.ix.val + 60))) (fun h7=>?_) (fun h7=>?_)
   ·refine Run.z [true,true,true] ?_
    refine Run.cw (e:=vPt) (Rg:=(RD [(c0.row,c0.ty)] vPj 115 (c0.sl 0) b1.ix.val (b1.ix.val + 60))) [0] 1 (os_l11Draw__src _ _ (by first | omega | (simp only [w64_val,c64_val] at *; omega))) (allc (c0.calm) rfl) fun r8 hr8 kr8=>?_
    exact Run.dr (by kernel_rfl) (by kernel_rfl) (by first | omega | (simp only [w64_val,c64_val] at *; omega))
   ·refine Run.z [false,false] ?_
    refine Run.gy (Rg:=(RD [(c0.row,c0.ty)] vPj 115 (c0.sl 0) b1.ix.val (b1.ix.val + 60))) (fun h9=>?_) (fun h9=>?_)
    ·refine Run.cw (e:=vPt) (Rg:=(RD [(c0.row,c0.ty)] vPj 115 (c0.sl 0) b1.ix.val (b1.ix.val + 60))) [0] 1 (os_l11Draw__src _ _ (by first | omega | (simp only [w64_val,c64_val] at *; omega))) (allc (c0.calm) rfl) fun r10 hr10 kr10=>?_
     exact Run.dr (by kernel_rfl) (by kernel_rfl) (by first | omega | (simp only [w64_val,c64_val] at *; omega))
    ·refine Run.gq (Rg:=(RD [(c0.row,c0.ty)] vPj 115 (c0.sl 0) b1.ix.val (b1.ix.val + 60))) (e:=vB) (os_l00In _ _ _) fun r11 hr11=>?_
     refine Run.gy (Rg:=(RD [(c0.row,c0.ty)] vPj 115 (c0.sl 0) b1.ix.val (b1.ix.val + 60))) (fun h12=>?_) (fun h12=>?_)
     ·refine Run.cw (e:=vI) (Rg:=(RD [(c0.row,c0.ty)] vPj 115 (c0.sl 0) b1.ix.val (b1.ix.val + 60))) [0] 1 (os_l00Src_pick__src _ _ _ (by first | omega | (simp only [w64_val,c64_val] at *; omega))) (allc (c0.calm) rfl) fun r13 hr13 kr13=>?_
      refine Run.cw (e:=vI) (Rg:=(RD [(c0.row,c0.ty)] vPj 115 (c0.sl 0) b1.ix.val (b1.ix.val + 60))) [0] 1 (os_l00Src_pick__src _ _ _ (by first | omega | (simp only [w64_val,c64_val] at *; omega))) (allc (c0.calm) rfl) fun r14 hr14 kr14=>?_
      refine Run.cw (e:=vI) (Rg:=(RD [(c0.row,c0.ty)] vPj 115 (c0.sl 0) b1.ix.val (b1.ix.val + 60))) [0] 1 (os_l00Src_pick__src _ _ _ (by first | omega | (simp only [w64_val,c64_val] at *; omega))) (allc (c0.calm) rfl) fun r15 hr15 kr15=>?_
      refine Run.cw (e:=vB) (Rg:=(RD [(c0.row,c0.ty)] vPj 115 (c0.sl 0) b1.ix.val (b1.ix.val + 60))) [0] 1 (os_l00Src_one__src _ _ _ (by first | omega | (simp only [w64_val,c64_val] at *; omega))) (allc (c0.calm) rfl) fun r16 hr16 kr16=>?_
      refine Run.gy (Rg:=(RD [(c0.row,c0.ty)] vPj 115 (c0.sl 0) b1.ix.val (b1.ix.val + 60))) (fun h17=>?_) (fun h17=>?_)
      ·refine Run.cw (e:=vB) (Rg:=(RD [(c0.row,c0.ty)] vPj 115 (c0.sl 0) b1.ix.val (b1.ix.val + 60))) [0] 1 (os_l00Src_one__src _ _ _ (by first | omega | (simp only [w64_val,c64_val] at *; omega))) (allc (c0.calm) rfl) fun r18 hr18 kr18=>?_
       refine Run.gy (Rg:=(RD [(c0.row,c0.ty)] vPj 115 (c0.sl 0) b1.ix.val (b1.ix.val + 60))) (fun h19=>?_) (fun h19=>?_)
       ·exact Run.dr (by kernel_rfl) (by kernel_rfl) (by first | omega | (simp only [w64_val,c64_val] at *; omega))
       ·exact Run.dr (by kernel_rfl) (by kernel_rfl) (by first | omega | (simp only [w64_val,c64_val] at *; omega))
      ·refine Run.cw (e:=vB) (Rg:=(RD [(c0.row,c0.ty)] vPj 115 (c0.sl 0) b1.ix.val (b1.ix.val + 60))) [0] 1 (os_l00Src_one__src _ _ _ (by first | omega | (simp only [w64_val,c64_val] at *; omega))) (allc (c0.calm) rfl) fun r20 hr20 kr20=>?_
       refine Run.gy (Rg:=(RD [(c0.row,c0.ty)] vPj 115 (c0.sl 0) b1.ix.val (b1.ix.val + 60))) (fun h21=>?_) (fun h21=>?_)
       ·exact Run.dr (by kernel_rfl) (by kernel_rfl) (by first | omega | (simp only [w64_val,c64_val] at *; omega))
       ·exact Run.dr (by kernel_rfl) (by kernel_rfl) (by first | omega | (simp only [w64_val,c64_val] at *; omega))
     ·exact Run.dr (by kernel_rfl) (by kernel_rfl) (by first | omega | (simp only [w64_val,c64_val] at *; omega))
theorem os_l11Ok (a0 : Pt) : Fun Tryz.prog 35 [] #[vPt a0] (vB (S_l11Ok a0)) []:=by
 refine Fun.ofH 400 E_ok mixed Tryz.func35 (by kernel_rfl) (by kernel_rfl) ?_
 unfold S_l11Ok
 refine Run.q (e:=vB) (gv:=vB) (os_l00In _ _ _) fun r1 _=>?_
 refine Run.y (gv:=vB) (fun _=>?_) (fun _=>?_)
 ·refine Run.z [true,true] ?_
  refine Run.q (e:=vB) (gv:=vB) (os_l00In _ _ _) fun r2 _=>?_
  refine Run.z [true] ?_
  exact Run.x 0
 ·refine Run.z [false,false,false] ?_
  exact Run.x 0
theorem os_l17Standard (a0 : I64) : Fun Tryz.prog 115 [] #[vI a0] (vB (S_l17Standard a0)) []:=by
 refine Fun.ofH 400 E_ok mixed Tryz.func115 (by kernel_rfl) (by kernel_rfl) ?_
 unfold S_l17Standard
 refine Run.q (e:=vB) (gv:=vB) (os_l00In _ _ _) fun r1 _=>?_
 exact Run.x 0
theorem os_l17Ok (a0 : Pj) : Fun Tryz.prog 33 [] #[vPj a0] (vB (S_l17Ok a0)) []:=by
 refine Fun.ofH 400 E_ok mixed Tryz.func33 (by kernel_rfl) (by kernel_rfl) ?_
 unfold S_l17Ok
 refine Run.q (e:=vB) (gv:=vB) (os_l11Ok _) fun r1 _=>?_
 refine Run.y (gv:=vB) (fun _=>?_) (fun _=>?_)
 ·refine Run.z [true,true,true,true,true,true,true,true,true,true] ?_
  exact Run.x 0
 ·refine Run.z [false,false] ?_
  refine Run.q (e:=vB) (gv:=vB) (os_l17Standard _) fun r2 _=>?_
  refine Run.z [false,false] ?_
  refine Run.y (gv:=vB) (fun _=>?_) (fun _=>?_)
  ·refine Run.z [true,true,true,true,true] ?_
   exact Run.x 0
  ·refine Run.z [false,false] ?_
   refine Run.q (e:=vB) (gv:=vB) (os_l17Standard _) fun r3 _=>?_
   refine Run.z [false,false] ?_
   refine Run.y (gv:=vB) (fun _=>?_) (fun _=>?_)
   ·exact Run.x 0
   ·refine Run.y (gv:=vB) (fun _=>?_) (fun _=>?_)
    ·refine Run.z [true] ?_
     refine Run.y (gv:=vB) (fun _=>?_) (fun _=>?_)
     ·refine Run.z [true,true,true] ?_
      exact Run.x 0
     ·refine Run.z [false,false,false] ?_
      exact Run.x 0
    ·refine Run.y (gv:=vB) (fun _=>?_) (fun _=>?_)
     ·refine Run.y (gv:=vB) (fun _=>?_) (fun _=>?_)
      ·refine Run.z [true,true,true] ?_
       exact Run.x 0
      ·refine Run.z [false,false,false] ?_
       exact Run.x 0
     ·refine Run.y (gv:=vB) (fun _=>?_) (fun _=>?_)
      ·refine Run.z [true] ?_
       refine Run.y (gv:=vB) (fun _=>?_) (fun _=>?_)
       ·refine Run.z [true,true,true] ?_
        refine Run.y (gv:=vB) (fun _=>?_) (fun _=>?_)
        ·refine Run.z [true,true,true] ?_
         exact Run.x 0
        ·refine Run.z [false,false,false] ?_
         exact Run.x 0
       ·refine Run.z [false,false,false,false,false,false,false] ?_
        exact Run.x 0
      ·refine Run.y (gv:=vB) (fun _=>?_) (fun _=>?_)
       ·refine Run.z [true] ?_
        refine Run.y (gv:=vB) (fun _=>?_) (fun _=>?_)
        ·refine Run.z [true,true,true] ?_
         refine Run.y (gv:=vB) (fun _=>?_) (fun _=>?_)
         ·refine Run.z [true,true,true] ?_
          exact Run.x 0
         ·refine Run.z [false,false,false] ?_
          exact Run.x 0
        ·refine Run.z [false,false,false,false,false,false,false] ?_
         exact Run.x 0
       ·refine Run.y (gv:=vB) (fun _=>?_) (fun _=>?_)
        ·refine Run.z [true] ?_
         refine Run.y (gv:=vB) (fun _=>?_) (fun _=>?_)
         ·refine Run.z [true,true,true] ?_
          refine Run.y (gv:=vB) (fun _=>?_) (fun _=>?_)
          ·refine Run.z [true,true,true] ?_
           exact Run.x 0
          ·refine Run.z [false,false,false] ?_
           exact Run.x 0
         ·refine Run.z [false,false,false,false,false,false,false] ?_
          exact Run.x 0
        ·refine Run.y (gv:=vB) (fun _=>?_) (fun _=>?_)
         ·refine Run.z [true] ?_
          refine Run.y (gv:=vB) (fun _=>?_) (fun _=>?_)
          ·refine Run.z [true,true,true] ?_
           refine Run.y (gv:=vB) (fun _=>?_) (fun _=>?_)
           ·refine Run.z [true,true,true] ?_
            exact Run.x 0
           ·refine Run.z [false,false,false] ?_
            exact Run.x 0
          ·refine Run.z [false,false,false,false,false,false,false] ?_
           exact Run.x 0
         ·refine Run.y (gv:=vB) (fun _=>?_) (fun _=>?_)
          ·refine Run.y (gv:=vB) (fun _=>?_) (fun _=>?_)
           ·refine Run.z [true,true,true] ?_
            refine Run.y (gv:=vB) (fun _=>?_) (fun _=>?_)
            ·refine Run.z [true,true,true] ?_
             exact Run.x 0
            ·refine Run.z [false,false,false] ?_
             exact Run.x 0
           ·refine Run.z [false,false,false,false,false,false,false] ?_
            exact Run.x 0
          ·refine Run.y (gv:=vB) (fun _=>?_) (fun _=>?_)
           ·refine Run.z [true] ?_
            refine Run.y (gv:=vB) (fun _=>?_) (fun _=>?_)
            ·refine Run.z [true,true,true] ?_
             exact Run.x 0
            ·refine Run.z [false,false,false] ?_
             exact Run.x 0
           ·refine Run.y (gv:=vB) (fun _=>?_) (fun _=>?_)
            ·refine Run.z [true] ?_
             refine Run.y (gv:=vB) (fun _=>?_) (fun _=>?_)
             ·refine Run.z [true,true,true] ?_
              exact Run.x 0
             ·refine Run.z [false,false,false] ?_
              exact Run.x 0
            ·refine Run.y (gv:=vB) (fun _=>?_) (fun _=>?_)
             ·refine Run.z [true] ?_
              refine Run.y (gv:=vB) (fun _=>?_) (fun _=>?_)
              ·refine Run.z [true,true,true] ?_
               exact Run.x 0
              ·refine Run.z [false,false,false] ?_
               exact Run.x 0
             ·refine Run.y (gv:=vB) (fun _=>?_) (fun _=>?_)
              ·refine Run.z [true] ?_
               refine Run.y (gv:=vB) (fun _=>?_) (fun _=>?_)
               ·refine Run.z [true,true,true] ?_
                exact Run.x 0
               ·refine Run.z [false,false,false] ?_
                exact Run.x 0
              ·refine Run.y (gv:=vB) (fun _=>?_) (fun _=>?_)
               ·refine Run.z [true] ?_
                refine Run.y (gv:=vB) (fun _=>?_) (fun _=>?_)
                ·refine Run.z [true,true,true] ?_
                 exact Run.x 0
                ·refine Run.z [false,false,false] ?_
                 exact Run.x 0
               ·refine Run.y (gv:=vB) (fun _=>?_) (fun _=>?_)
                ·refine Run.y (gv:=vB) (fun _=>?_) (fun _=>?_)
                 ·refine Run.z [true,true,true] ?_
                  exact Run.x 0
                 ·refine Run.z [false,false,false] ?_
                  exact Run.x 0
                ·refine Run.y (gv:=vB) (fun _=>?_) (fun _=>?_)
                 ·refine Run.z [true] ?_
                  refine Run.y (gv:=vB) (fun _=>?_) (fun _=>?_)
                  ·refine Run.z [true,true] ?_
                   exact Run.x 0
                  ·refine Run.z [false,false] ?_
                   exact Run.x 0
                 ·refine Run.y (gv:=vB) (fun _=>?_) (fun _=>?_)
                  ·refine Run.z [true] ?_
                   refine Run.y (gv:=vB) (fun _=>?_) (fun _=>?_)
                   ·refine Run.z [true,true] ?_
                    exact Run.x 0
                   ·refine Run.z [false,false] ?_
                    exact Run.x 0
                  ·refine Run.y (gv:=vB) (fun _=>?_) (fun _=>?_)
                   ·refine Run.y (gv:=vB) (fun _=>?_) (fun _=>?_)
                    ·refine Run.z [true,true] ?_
                     exact Run.x 0
                    ·refine Run.z [false,false] ?_
                     exact Run.x 0
                   ·exact Run.x 0
theorem os_l00Src_among__src__s3 (c0 : Cd) (b1_0 : I64) (b1_1 : I64) (b1_2 : I64) (b2 : Src) (ps : 0 ≤ b2.ix.val ∧ b2.ix.val + 2 ≤ 1000000000) : FunS Tryz.prog 121 [(c0.row,c0.ty),(#[.int .i64 b1_0.val,.int .i64 b1_1.val,.int .i64 b1_2.val],2)] [srcB 115 (c0.sl 0) b2.ix b2.sd] #[.pointer (some ⟨2,0,none⟩),.slice (some ⟨1,0,none⟩) 3 3] (Drew vI 115 (c0.sl 0) b2.ix.val (b2.ix.val + 2) (S_l00Src_among__src__s3 c0 b1_0 b1_1 b1_2 b2)):=by
 refine FunS.marks (args:=#[.pointer (some ⟨2,0,none⟩),.slice (some ⟨1,0,some 0⟩) 3 3]) (by kernel_rfl) ?_
 refine FunS.drew (fun _ _=>rfl) (allc (c0.calm) (allc (by kernel_rfl) rfl)) (by kernel_rfl) (FunR.of 400 E_ok mixed Tryz.func121 (by kernel_rfl) ?_)
 show Run _ _ ((RD [(c0.row,c0.ty),(#[.int .i64 b1_0.val,.int .i64 b1_1.val,.int .i64 b1_2.val],2)] vI 115 (c0.sl 0) b2.ix.val (b2.ix.val + 2)) (S_l00Src_among__src__s3 c0 b1_0 b1_1 b1_2 b2)) _
 unfold S_l00Src_among__src__s3
 refine Run.cw (e:=vI) (Rg:=(RD [(c0.row,c0.ty),(#[.int .i64 b1_0.val,.int .i64 b1_1.val,.int .i64 b1_2.val],2)] vI 115 (c0.sl 0) b2.ix.val (b2.ix.val + 2))) [0] 2 (os_l00Src_pick__src _ _ _ (by first | omega | (simp only [w64_val,c64_val] at *; omega))) (allc (c0.calm) rfl) fun r1 hr1 kr1=>?_
 refine Run.k (c:=(decide (0 ≤ r1.1.val ∧ r1.1.val < 3))) (by kernel_rfl) (by rw [hr1]; first | exact decide_eq_true ⟨(pick_range _ _ _).1,(pick_range _ _ _).2 (by decide)⟩ | exact ⟨(pick_range _ _ _).1,(pick_range _ _ _).2 (by decide)⟩) ?_
 refine Run.ld (by kernel_rfl) (listAt_ok (L:=[b1_0,b1_1,b1_2]) (pad:=[]) (i:=r1.1) (by rw [hr1]; first | exact decide_eq_true ⟨(pick_range _ _ _).1,(pick_range _ _ _).2 (by decide)⟩ | exact ⟨(pick_range _ _ _).1,(pick_range _ _ _).2 (by decide)⟩)) ?_
 exact Run.dr (by kernel_rfl) (by kernel_rfl) (by first | omega | (simp only [w64_val,c64_val] at *; omega))
theorem os_l11Bent__src (c0 : Cd) (b1 : Src) (ps : 0 ≤ b1.ix.val ∧ b1.ix.val + 34 ≤ 1000000000) : FunS Tryz.prog 116 [(c0.row,c0.ty)] [srcB 115 (c0.sl 0) b1.ix b1.sd] #[.pointer (some ⟨1,0,none⟩)] (Drew vPt 115 (c0.sl 0) b1.ix.val (b1.ix.val + 34) (S_l11Bent__src c0 b1)):=by
 refine FunS.drew (fun _ _=>rfl) (allc (c0.calm) rfl) (by kernel_rfl) (FunR.of 400 E_ok mixed Tryz.func116 (by kernel_rfl) ?_)
 show Run _ _ ((RD [(c0.row,c0.ty)] vPt 115 (c0.sl 0) b1.ix.val (b1.ix.val + 34)) (S_l11Bent__src c0 b1)) _
 unfold S_l11Bent__src
 refine Run.cw (e:=vPt) (Rg:=(RD [(c0.row,c0.ty)] vPt 115 (c0.sl 0) b1.ix.val (b1.ix.val + 34))) [0] 1 (os_l11Draw__src _ _ (by first | omega | (simp only [w64_val,c64_val] at *; omega))) (allc (c0.calm) rfl) fun r1 hr1 kr1=>?_
 refine Run.cw (e:=vI) (Rg:=(RD [(c0.row,c0.ty)] vPt 115 (c0.sl 0) b1.ix.val (b1.ix.val + 34))) [0] 1 (os_l00Src_pick__src _ _ _ (by first | omega | (simp only [w64_val,c64_val] at *; omega))) (allc (c0.calm) rfl) fun r2 hr2 kr2=>?_
 refine Run.gy (Rg:=(RD [(c0.row,c0.ty)] vPt 115 (c0.sl 0) b1.ix.val (b1.ix.val + 34))) (fun h3=>?_) (fun h3=>?_)
 ·refine Run.cw (e:=vI) (Rg:=(RD [(c0.row,c0.ty)] vPt 115 (c0.sl 0) b1.ix.val (b1.ix.val + 34))) [0,4] 1 (os_l00Src_among__src__s3 _ _ _ _ _ (by first | omega | (simp only [w64_val,c64_val] at *; omega))) (allc (c0.calm) (allc (by kernel_rfl) rfl)) fun r4 hr4 kr4=>?_
  exact Run.dr (by kernel_rfl) (by kernel_rfl) (by first | omega | (simp only [w64_val,c64_val] at *; omega))
 ·refine Run.gy (Rg:=(RD [(c0.row,c0.ty)] vPt 115 (c0.sl 0) b1.ix.val (b1.ix.val + 34))) (fun h5=>?_) (fun h5=>?_)
  ·refine Run.cw (e:=vI) (Rg:=(RD [(c0.row,c0.ty)] vPt 115 (c0.sl 0) b1.ix.val (b1.ix.val + 34))) [0,4] 1 (os_l00Src_among__src__s3 _ _ _ _ _ (by first | omega | (simp only [w64_val,c64_val] at *; omega))) (allc (c0.calm) (allc (by kernel_rfl) rfl)) fun r6 hr6 kr6=>?_
   exact Run.dr (by kernel_rfl) (by kernel_rfl) (by first | omega | (simp only [w64_val,c64_val] at *; omega))
  ·exact Run.dr (by kernel_rfl) (by kernel_rfl) (by first | omega | (simp only [w64_val,c64_val] at *; omega))
theorem os_l22Family (a0 : I64) : Fun Tryz.prog 117 [] #[vI a0] (vI (S_l22Family a0)) []:=by
 refine Fun.ofH 400 E_ok mixed Tryz.func117 (by kernel_rfl) (by kernel_rfl) ?_
 unfold S_l22Family
 refine Run.q (e:=vB) (gv:=vI) (os_l00In _ _ _) fun r1 _=>?_
 refine Run.y (gv:=vI) (fun _=>?_) (fun _=>?_)
 ·exact Run.x 0
 ·refine Run.q (e:=vB) (gv:=vI) (os_l00In _ _ _) fun r2 _=>?_
  refine Run.y (gv:=vI) (fun _=>?_) (fun _=>?_)
  ·exact Run.x 0
  ·refine Run.q (e:=vB) (gv:=vI) (os_l00In _ _ _) fun r3 _=>?_
   refine Run.y (gv:=vI) (fun _=>?_) (fun _=>?_)
   ·exact Run.x 0
   ·refine Run.q (e:=vB) (gv:=vI) (os_l00In _ _ _) fun r4 _=>?_
    refine Run.y (gv:=vI) (fun _=>?_) (fun _=>?_)
    ·exact Run.x 0
    ·refine Run.y (gv:=vI) (fun _=>?_) (fun _=>?_)
     ·exact Run.x 0
     ·exact Run.x 0
theorem os_l00Min (a0 : I64) (a1 : I64) : Fun Tryz.prog 119 [] #[vI a0,vI a1] (vI (S_l00Min a0 a1)) []:=by
 refine Fun.ofH 400 E_ok mixed Tryz.func119 (by kernel_rfl) (by kernel_rfl) ?_
 unfold S_l00Min
 refine Run.y (gv:=vI) (fun _=>?_) (fun _=>?_)
 ·exact Run.x 0
 ·exact Run.x 0
theorem os_l00Max (a0 : I64) (a1 : I64) : Fun Tryz.prog 118 [] #[vI a0,vI a1] (vI (S_l00Max a0 a1)) []:=by
 refine Fun.ofH 400 E_ok mixed Tryz.func118 (by kernel_rfl) (by kernel_rfl) ?_
 unfold S_l00Max
 refine Run.y (gv:=vI) (fun _=>?_) (fun _=>?_)
 ·exact Run.x 0
 ·exact Run.x 0
theorem os_l22Near__src (c0 : Cd) (b1 : Src) (a0 : Pj) (ps : 0 ≤ b1.ix.val ∧ b1.ix.val + 40 ≤ 1000000000) : FunS Tryz.prog 34 [(c0.row,c0.ty)] [srcB 115 (c0.sl 0) b1.ix b1.sd] #[.pointer (some ⟨1,0,none⟩),vPj a0] (Drew vPt 115 (c0.sl 0) b1.ix.val (b1.ix.val + 40) (S_l22Near__src c0 b1 a0)):=by
 refine FunS.drew (fun _ _=>rfl) (allc (c0.calm) rfl) (by kernel_rfl) (FunR.of 400 E_ok mixed Tryz.func34 (by kernel_rfl) ?_)
 show Run _ _ ((RD [(c0.row,c0.ty)] vPt 115 (c0.sl 0) b1.ix.val (b1.ix.val + 40)) (S_l22Near__src c0 b1 a0)) _
 unfold S_l22Near__src
 refine Run.cw (e:=vPt) (Rg:=(RD [(c0.row,c0.ty)] vPt 115 (c0.sl 0) b1.ix.val (b1.ix.val + 40))) [0] 1 (os_l11Bent__src _ _ (by first | omega | (simp only [w64_val,c64_val] at *; omega))) (allc (c0.calm) rfl) fun r1 hr1 kr1=>?_
 refine Run.cw (e:=vB) (Rg:=(RD [(c0.row,c0.ty)] vPt 115 (c0.sl 0) b1.ix.val (b1.ix.val + 40))) [0] 1 (os_l00Src_one__src _ _ _ (by first | omega | (simp only [w64_val,c64_val] at *; omega))) (allc (c0.calm) rfl) fun r2 hr2 kr2=>?_
 refine Run.gy (Rg:=(RD [(c0.row,c0.ty)] vPt 115 (c0.sl 0) b1.ix.val (b1.ix.val + 40))) (fun h3=>?_) (fun h3=>?_)
 ·refine Run.z [true,true,true,true] ?_
  exact Run.dr (by kernel_rfl) (by kernel_rfl) (by first | omega | (simp only [w64_val,c64_val] at *; omega))
 ·refine Run.z [false] ?_
  refine Run.gq (Rg:=(RD [(c0.row,c0.ty)] vPt 115 (c0.sl 0) b1.ix.val (b1.ix.val + 40))) (e:=vB) (os_l11Ok _) fun r4 hr4=>?_
  refine Run.z [false,false] ?_
  refine Run.gy (Rg:=(RD [(c0.row,c0.ty)] vPt 115 (c0.sl 0) b1.ix.val (b1.ix.val + 40))) (fun h5=>?_) (fun h5=>?_)
  ·exact Run.dr (by kernel_rfl) (by kernel_rfl) (by first | omega | (simp only [w64_val,c64_val] at *; omega))
  ·refine Run.gq (Rg:=(RD [(c0.row,c0.ty)] vPt 115 (c0.sl 0) b1.ix.val (b1.ix.val + 40))) (e:=vI) (os_l22Family _) fun r6 hr6=>?_
   refine Run.gy (Rg:=(RD [(c0.row,c0.ty)] vPt 115 (c0.sl 0) b1.ix.val (b1.ix.val + 40))) (fun h7=>?_) (fun h7=>?_)
   ·refine Run.cw (e:=vI) (Rg:=(RD [(c0.row,c0.ty)] vPt 115 (c0.sl 0) b1.ix.val (b1.ix.val + 40))) [0] 1 (os_l00Src_pick__src _ _ _ (by first | omega | (simp only [w64_val,c64_val] at *; omega))) (allc (c0.calm) rfl) fun r8 hr8 kr8=>?_
    refine Run.o (by kernel_rfl) ?_ ?_
    ·refine Run.gq (Rg:=(RD [(c0.row,c0.ty)] vPt 115 (c0.sl 0) b1.ix.val (b1.ix.val + 40))) (e:=vI) (os_l00Min _ _) fun r9 hr9=>?_
     refine Run.o (by kernel_rfl) ?_ ?_
     ·refine Run.gq (Rg:=(RD [(c0.row,c0.ty)] vPt 115 (c0.sl 0) b1.ix.val (b1.ix.val + 40))) (e:=vI) (os_l00Max _ _) fun r10 hr10=>?_
      refine Run.o (by kernel_rfl) ?_ ?_
      ·refine Run.cw (e:=vI) (Rg:=(RD [(c0.row,c0.ty)] vPt 115 (c0.sl 0) b1.ix.val (b1.ix.val + 40))) [0] 1 (os_l00Src_pick__src _ _ _ (by first | omega | (simp only [w64_val,c64_val] at *; omega))) (allc (c0.calm) rfl) fun r11 hr11 kr11=>?_
       refine Run.gq (Rg:=(RD [(c0.row,c0.ty)] vPt 115 (c0.sl 0) b1.ix.val (b1.ix.val + 40))) (e:=vI) (os_l11Wrap _) fun r12 hr12=>?_
       exact Run.dr (by kernel_rfl) (by kernel_rfl) (by first | omega | (simp only [w64_val,c64_val] at *; omega))
      ·refine Run.cw (e:=vI) (Rg:=(RD [(c0.row,c0.ty)] vPt 115 (c0.sl 0) b1.ix.val (b1.ix.val + 40))) [0] 1 (os_l00Src_pick__src _ _ _ (by first | omega | (simp only [w64_val,c64_val] at *; omega))) (allc (c0.calm) rfl) fun r13 hr13 kr13=>?_
       refine Run.gq (Rg:=(RD [(c0.row,c0.ty)] vPt 115 (c0.sl 0) b1.ix.val (b1.ix.val + 40))) (e:=vI) (os_l11Wrap _) fun r14 hr14=>?_
       exact Run.dr (by kernel_rfl) (by kernel_rfl) (by first | omega | (simp only [w64_val,c64_val] at *; omega))
     ·refine Run.gq (Rg:=(RD [(c0.row,c0.ty)] vPt 115 (c0.sl 0) b1.ix.val (b1.ix.val + 40))) (e:=vI) (os_l00Max _ _) fun r15 hr15=>?_
      refine Run.cw (e:=vI) (Rg:=(RD [(c0.row,c0.ty)] vPt 115 (c0.sl 0) b1.ix.val (b1.ix.val + 40))) [0] 1 (os_l00Src_pick__src _ _ _ (by first | omega | (simp only [w64_val,c64_val] at *; omega))) (allc (c0.calm) rfl) fun r16 hr16 kr16=>?_
      refine Run.gq (Rg:=(RD [(c0.row,c0.ty)] vPt 115 (c0.sl 0) b1.ix.val (b1.ix.val + 40))) (e:=vI) (os_l11Wrap _) fun r17 hr17=>?_
      exact Run.dr (by kernel_rfl) (by kernel_rfl) (by first | omega | (simp only [w64_val,c64_val] at *; omega))
    ·refine Run.gq (Rg:=(RD [(c0.row,c0.ty)] vPt 115 (c0.sl 0) b1.ix.val (b1.ix.val + 40))) (e:=vI) (os_l00Min _ _) fun r18 hr18=>?_
     refine Run.gq (Rg:=(RD [(c0.row,c0.ty)] vPt 115 (c0.sl 0) b1.ix.val (b1.ix.val + 40))) (e:=vI) (os_l00Max _ _) fun r19 hr19=>?_
     refine Run.cw (e:=vI) (Rg:=(RD [(c0.row,c0.ty)] vPt 115 (c0.sl 0) b1.ix.val (b1.ix.val + 40))) [0] 1 (os_l00Src_pick__src _ _ _ (by first | omega | (simp only [w64_val,c64_val] at *; omega))) (allc (c0.calm) rfl) fun r20 hr20 kr20=>?_
     refine Run.gq (Rg:=(RD [(c0.row,c0.ty)] vPt 115 (c0.sl 0) b1.ix.val (b1.ix.val + 40))) (e:=vI) (os_l11Wrap _) fun r21 hr21=>?_
     exact Run.dr (by kernel_rfl) (by kernel_rfl) (by first | omega | (simp only [w64_val,c64_val] at *; omega))
   ·refine Run.cw (e:=vI) (Rg:=(RD [(c0.row,c0.ty)] vPt 115 (c0.sl 0) b1.ix.val (b1.ix.val + 40))) [0] 1 (os_l00Src_pick__src _ _ _ (by first | omega | (simp only [w64_val,c64_val] at *; omega))) (allc (c0.calm) rfl) fun r22 hr22 kr22=>?_
    refine Run.o (by kernel_rfl) ?_ ?_
    ·refine Run.gq (Rg:=(RD [(c0.row,c0.ty)] vPt 115 (c0.sl 0) b1.ix.val (b1.ix.val + 40))) (e:=vI) (os_l00Min _ _) fun r23 hr23=>?_
     refine Run.o (by kernel_rfl) ?_ ?_
     ·refine Run.gq (Rg:=(RD [(c0.row,c0.ty)] vPt 115 (c0.sl 0) b1.ix.val (b1.ix.val + 40))) (e:=vI) (os_l00Max _ _) fun r24 hr24=>?_
      refine Run.o (by kernel_rfl) ?_ ?_
      ·refine Run.cw (e:=vI) (Rg:=(RD [(c0.row,c0.ty)] vPt 115 (c0.sl 0) b1.ix.val (b1.ix.val + 40))) [0] 1 (os_l00Src_pick__src _ _ _ (by first | omega | (simp only [w64_val,c64_val] at *; omega))) (allc (c0.calm) rfl) fun r25 hr25 kr25=>?_
       refine Run.gq (Rg:=(RD [(c0.row,c0.ty)] vPt 115 (c0.sl 0) b1.ix.val (b1.ix.val + 40))) (e:=vI) (os_l11Wrap _) fun r26 hr26=>?_
       exact Run.dr (by kernel_rfl) (by kernel_rfl) (by first | omega | (simp only [w64_val,c64_val] at *; omega))
      ·refine Run.cw (e:=vI) (Rg:=(RD [(c0.row,c0.ty)] vPt 115 (c0.sl 0) b1.ix.val (b1.ix.val + 40))) [0] 1 (os_l00Src_pick__src _ _ _ (by first | omega | (simp only [w64_val,c64_val] at *; omega))) (allc (c0.calm) rfl) fun r27 hr27 kr27=>?_
       refine Run.gq (Rg:=(RD [(c0.row,c0.ty)] vPt 115 (c0.sl 0) b1.ix.val (b1.ix.val + 40))) (e:=vI) (os_l11Wrap _) fun r28 hr28=>?_
       exact Run.dr (by kernel_rfl) (by kernel_rfl) (by first | omega | (simp only [w64_val,c64_val] at *; omega))
     ·refine Run.gq (Rg:=(RD [(c0.row,c0.ty)] vPt 115 (c0.sl 0) b1.ix.val (b1.ix.val + 40))) (e:=vI) (os_l00Max _ _) fun r29 hr29=>?_
      refine Run.cw (e:=vI) (Rg:=(RD [(c0.row,c0.ty)] vPt 115 (c0.sl 0) b1.ix.val (b1.ix.val + 40))) [0] 1 (os_l00Src_pick__src _ _ _ (by first | omega | (simp only [w64_val,c64_val] at *; omega))) (allc (c0.calm) rfl) fun r30 hr30 kr30=>?_
      refine Run.gq (Rg:=(RD [(c0.row,c0.ty)] vPt 115 (c0.sl 0) b1.ix.val (b1.ix.val + 40))) (e:=vI) (os_l11Wrap _) fun r31 hr31=>?_
      exact Run.dr (by kernel_rfl) (by kernel_rfl) (by first | omega | (simp only [w64_val,c64_val] at *; omega))
    ·refine Run.gq (Rg:=(RD [(c0.row,c0.ty)] vPt 115 (c0.sl 0) b1.ix.val (b1.ix.val + 40))) (e:=vI) (os_l00Min _ _) fun r32 hr32=>?_
     refine Run.gq (Rg:=(RD [(c0.row,c0.ty)] vPt 115 (c0.sl 0) b1.ix.val (b1.ix.val + 40))) (e:=vI) (os_l00Max _ _) fun r33 hr33=>?_
     refine Run.cw (e:=vI) (Rg:=(RD [(c0.row,c0.ty)] vPt 115 (c0.sl 0) b1.ix.val (b1.ix.val + 40))) [0] 1 (os_l00Src_pick__src _ _ _ (by first | omega | (simp only [w64_val,c64_val] at *; omega))) (allc (c0.calm) rfl) fun r34 hr34 kr34=>?_
     refine Run.gq (Rg:=(RD [(c0.row,c0.ty)] vPt 115 (c0.sl 0) b1.ix.val (b1.ix.val + 40))) (e:=vI) (os_l11Wrap _) fun r35 hr35=>?_
     exact Run.dr (by kernel_rfl) (by kernel_rfl) (by first | omega | (simp only [w64_val,c64_val] at *; omega))
theorem os_A2Projection (c0 : Cd) (a0 : I64) (a1 : I64) : Fun Tryz.prog 6 [(c0.row,c0.ty)] #[c0.sl 0,vI a0,vI a1] (vT_Pj_Pt (S_A2Projection c0 a0 a1)) [(c0.row,c0.ty)]:=by
 refine Fun.ofH 400 E_ok mixed Tryz.func6 (by kernel_rfl) (by kernel_rfl) ?_
 unfold S_A2Projection
 refine Run.cf [0] (os_l00From c0) (allc (c0.calm) rfl) ?_
 refine Run.cw (e:=vI) (Rg:=(fun b=>RvH [(c0.row,c0.ty)] (vT_Pj_Pt b))) [0] 3 (os_l00Src_pick__src _ _ _ (by first | omega | (simp only [w64_val,c64_val] at *; omega))) (allc (c0.calm) rfl) fun r1 hr1 kr1=>?_
 refine Run.cw (e:=vPj) (Rg:=(fun b=>RvH [(c0.row,c0.ty)] (vT_Pj_Pt b))) [0] 3 (os_l17Draw__src _ _ _ (by first | omega | (simp only [w64_val,c64_val] at *; omega))) (allc (c0.calm) rfl) fun r2 hr2 kr2=>?_
 refine Run.q (e:=vB) (gv:=vT_Pj_Pt) (os_l17Ok _) fun r3 hr3=>?_
 refine Run.y (gv:=vT_Pj_Pt) (fun h4=>?_) (fun h4=>?_)
 ·refine Run.cw (e:=vPt) (Rg:=(fun b=>RvH [(c0.row,c0.ty)] (vT_Pj_Pt b))) [0] 3 (os_l22Near__src _ _ _ (by first | omega | (simp only [w64_val,c64_val] at *; omega))) (allc (c0.calm) rfl) fun r5 hr5 kr5=>?_
  refine Run.q (e:=vB) (gv:=vT_Pj_Pt) (os_l11Ok _) fun r6 hr6=>?_
  refine Run.y (gv:=vT_Pj_Pt) (fun h7=>?_) (fun h7=>?_)
  ·refine Run.cw (e:=vPt) (Rg:=(fun b=>RvH [(c0.row,c0.ty)] (vT_Pj_Pt b))) [0] 3 (os_l11Draw__src _ _ (by first | omega | (simp only [w64_val,c64_val] at *; omega))) (allc (c0.calm) rfl) fun r8 hr8 kr8=>?_
   exact Run.x 1
  ·exact Run.x 1
 ·refine Run.cw (e:=vPt) (Rg:=(fun b=>RvH [(c0.row,c0.ty)] (vT_Pj_Pt b))) [0] 3 (os_l22Near__src _ _ _ (by first | omega | (simp only [w64_val,c64_val] at *; omega))) (allc (c0.calm) rfl) fun r9 hr9 kr9=>?_
  refine Run.q (e:=vB) (gv:=vT_Pj_Pt) (os_l11Ok _) fun r10 hr10=>?_
  refine Run.y (gv:=vT_Pj_Pt) (fun h11=>?_) (fun h11=>?_)
  ·refine Run.cw (e:=vPt) (Rg:=(fun b=>RvH [(c0.row,c0.ty)] (vT_Pj_Pt b))) [0] 3 (os_l11Draw__src _ _ (by first | omega | (simp only [w64_val,c64_val] at *; omega))) (allc (c0.calm) rfl) fun r12 hr12 kr12=>?_
   exact Run.x 1
  ·exact Run.x 1
theorem os_l04Whole : Fun Tryz.prog 42 [] #[] (vIv (S_l04Whole)) []:=by
 refine Fun.ofH 400 E_ok mixed Tryz.func42 (by kernel_rfl) (by kernel_rfl) ?_
 unfold S_l04Whole
 exact Run.x 0
theorem os_l04Ok (a0 : Iv) : Fun Tryz.prog 67 [] #[vIv a0] (vB (S_l04Ok a0)) []:=by
 refine Fun.ofH 400 E_ok mixed Tryz.func67 (by kernel_rfl) (by kernel_rfl) ?_
 unfold S_l04Ok
 refine Run.y (gv:=vB) (fun _=>?_) (fun _=>?_)
 ·refine Run.z [true,true,true,true,true] ?_
  refine Run.y (gv:=vB) (fun _=>?_) (fun _=>?_)
  ·refine Run.z [true,true,true] ?_
   exact Run.x 0
  ·refine Run.z [false,false,false] ?_
   exact Run.x 0
 ·refine Run.z [false,false,false,false,false,false,false,false,false] ?_
  exact Run.x 0
theorem os_l04Make (a0 : I64) (a1 : I64) : Fun Tryz.prog 43 [] #[vI a0,vI a1] (vIv (S_l04Make a0 a1)) []:=by
 refine Fun.ofH 400 E_ok mixed Tryz.func43 (by kernel_rfl) (by kernel_rfl) ?_
 unfold S_l04Make
 refine Run.q (e:=vB) (gv:=vIv) (os_l04Ok _) fun r1 _=>?_
 refine Run.y (gv:=vIv) (fun _=>?_) (fun _=>?_)
 ·refine Run.q (e:=vIv) (gv:=vIv) (os_l04Whole) fun r2 _=>?_
  exact Run.x 0
 ·exact Run.x 0
theorem os_Integer (a0 : I64) : Fun Tryz.prog 9 [] #[vI a0] (vIv (S_Integer a0)) []:=by
 refine Fun.ofH 400 E_ok mixed Tryz.func9 (by kernel_rfl) (by kernel_rfl) ?_
 unfold S_Integer
 refine Run.q (e:=vB) (gv:=vIv) (os_l00In _ _ _) fun r1 _=>?_
 refine Run.y (gv:=vIv) (fun _=>?_) (fun _=>?_)
 ·refine Run.q (e:=vIv) (gv:=vIv) (os_l04Whole) fun r2 _=>?_
  exact Run.x 0
 ·refine Run.q (e:=vIv) (gv:=vIv) (os_l04Make _ _) fun r3 _=>?_
  exact Run.x 0
theorem os_MeetI (a0 : Iv) (a1 : Iv) : Fun Tryz.prog 40 [] #[vIv a0,vIv a1] (vT_Iv_B (S_MeetI a0 a1)) []:=by
 refine Fun.ofH 400 E_ok mixed Tryz.func40 (by kernel_rfl) (by kernel_rfl) ?_
 unfold S_MeetI
 refine Run.q (e:=vB) (gv:=vT_Iv_B) (os_l04Ok _) fun r1 _=>?_
 refine Run.y (gv:=vT_Iv_B) (fun _=>?_) (fun _=>?_)
 ·refine Run.z [true] ?_
  refine Run.q (e:=vB) (gv:=vT_Iv_B) (os_l04Ok _) fun r2 _=>?_
  refine Run.z [true,true] ?_
  refine Run.y (gv:=vT_Iv_B) (fun _=>?_) (fun _=>?_)
  ·refine Run.q (e:=vIv) (gv:=vT_Iv_B) (os_l04Whole) fun r3 _=>?_
   exact Run.x 0
  ·refine Run.q (e:=vB) (gv:=vT_Iv_B) (os_l04Ok _) fun r4 _=>?_
   refine Run.y (gv:=vT_Iv_B) (fun _=>?_) (fun _=>?_)
   ·exact Run.x 0
   ·refine Run.q (e:=vB) (gv:=vT_Iv_B) (os_l04Ok _) fun r5 _=>?_
    refine Run.y (gv:=vT_Iv_B) (fun _=>?_) (fun _=>?_)
    ·exact Run.x 0
    ·refine Run.q (e:=vI) (gv:=vT_Iv_B) (os_l00Max _ _) fun r6 _=>?_
     refine Run.q (e:=vI) (gv:=vT_Iv_B) (os_l00Min _ _) fun r7 _=>?_
     refine Run.y (gv:=vT_Iv_B) (fun _=>?_) (fun _=>?_)
     ·exact Run.x 0
     ·exact Run.x 0
 ·refine Run.z [false,false,false,false] ?_
  refine Run.q (e:=vB) (gv:=vT_Iv_B) (os_l04Ok _) fun r8 _=>?_
  refine Run.y (gv:=vT_Iv_B) (fun _=>?_) (fun _=>?_)
  ·exact Run.x 0
  ·refine Run.q (e:=vB) (gv:=vT_Iv_B) (os_l04Ok _) fun r9 _=>?_
   refine Run.y (gv:=vT_Iv_B) (fun _=>?_) (fun _=>?_)
   ·exact Run.x 0
   ·refine Run.q (e:=vI) (gv:=vT_Iv_B) (os_l00Max _ _) fun r10 _=>?_
    refine Run.q (e:=vI) (gv:=vT_Iv_B) (os_l00Min _ _) fun r11 _=>?_
    refine Run.y (gv:=vT_Iv_B) (fun _=>?_) (fun _=>?_)
    ·exact Run.x 0
    ·exact Run.x 0
theorem os_OverlapI (a0 : Iv) (a1 : Iv) : Fun Tryz.prog 8 [] #[vIv a0,vIv a1] (vB (S_OverlapI a0 a1)) []:=by
 refine Fun.ofH 400 E_ok mixed Tryz.func8 (by kernel_rfl) (by kernel_rfl) ?_
 unfold S_OverlapI
 refine Run.q (e:=vT_Iv_B) (gv:=vB) (os_MeetI _ _) fun r1 _=>?_
 exact Run.x 0
theorem os_Whole : Fun Tryz.prog 64 [] #[] (vIv (S_Whole)) []:=by
 refine Fun.ofH 400 E_ok mixed Tryz.func64 (by kernel_rfl) (by kernel_rfl) ?_
 unfold S_Whole
 refine Run.q (e:=vIv) (gv:=vIv) (os_l04Whole) fun r1 _=>?_
 exact Run.x 0
theorem os_NegI (a0 : Iv) : Fun Tryz.prog 65 [] #[vIv a0] (vIv (S_NegI a0)) []:=by
 refine Fun.ofH 400 E_ok mixed Tryz.func65 (by kernel_rfl) (by kernel_rfl) ?_
 unfold S_NegI
 refine Run.q (e:=vB) (gv:=vIv) (os_l04Ok _) fun r1 _=>?_
 refine Run.y (gv:=vIv) (fun _=>?_) (fun _=>?_)
 ·refine Run.q (e:=vIv) (gv:=vIv) (os_l04Whole) fun r2 _=>?_
  exact Run.x 0
 ·refine Run.q (e:=vIv) (gv:=vIv) (os_l04Make _ _) fun r3 _=>?_
  exact Run.x 0
theorem os_l02Size (a0 : I64) : Fun Tryz.prog 184 [] #[vI a0] (vU (S_l02Size a0)) []:=by
 refine Fun.ofH 400 E_ok mixed Tryz.func184 (by kernel_rfl) (by kernel_rfl) ?_
 unfold S_l02Size
 refine Run.y (gv:=vU) (fun _=>?_) (fun _=>?_)
 ·exact Run.x 0
 ·exact Run.x 0
theorem os_l02Times (a0 : U64) (a1 : U64) : Fun Tryz.prog 182 [] #[vU a0,vU a1] (vT_U_U (S_l02Times a0 a1)) []:=by
 refine Fun.ofH 400 E_ok mixed Tryz.func182 (by kernel_rfl) (by kernel_rfl) ?_
 unfold S_l02Times
 refine Run.z [true,true,true,true,true,true,true] ?_
 exact Run.x 0
theorem os_l02Minus (a0 : Wd) : Fun Tryz.prog 185 [] #[vWd a0] (vWd (S_l02Minus a0)) []:=by
 refine Fun.ofH 400 E_ok mixed Tryz.func185 (by kernel_rfl) (by kernel_rfl) ?_
 unfold S_l02Minus
 refine Run.y (gv:=vWd) (fun _=>?_) (fun _=>?_)
 ·exact Run.x 0
 ·exact Run.x 0
theorem os_l02Mul (a0 : I64) (a1 : I64) : Fun Tryz.prog 103 [] #[vI a0,vI a1] (vWd (S_l02Mul a0 a1)) []:=by
 refine Fun.ofH 400 E_ok mixed Tryz.func103 (by kernel_rfl) (by kernel_rfl) ?_
 unfold S_l02Mul
 refine Run.q (e:=vU) (gv:=vWd) (os_l02Size _) fun r1 _=>?_
 refine Run.q (e:=vU) (gv:=vWd) (os_l02Size _) fun r2 _=>?_
 refine Run.q (e:=vT_U_U) (gv:=vWd) (os_l02Times _ _) fun r3 _=>?_
 refine Run.y (gv:=vWd) (fun _=>?_) (fun _=>?_)
 ·refine Run.q (e:=vWd) (gv:=vWd) (os_l02Minus _) fun r4 _=>?_
  exact Run.x 0
 ·exact Run.x 0
theorem os_l02Divide_L0 : ∀ (fu : Nat) (a1 : U64) (a2 : U64) (x_qhi : U64) (x_rest : U64) (x_q : U64) (x_i : I64) (q0 : x_i.val ≤ 63) (hm : (x_i.val + 1).toNat < fu) (t : Array Value) (ht : maskA t [0,3,4,5,13,14,15,16,17,18,19,20,21,22,23,24,25,26,27,28,29,30,31,32,33,34,35,36,37,38,39,40,41,42,43,44,45,46,47,48,49,50] = #[undef,.int .u64 a1.val,.int .u64 a2.val,undef,undef,undef,.int .u64 0,.int .u64 0,.int .u64 0,.int .u64 x_qhi.val,.int .u64 x_rest.val,.int .u64 x_q.val,.int .i64 x_i.val,undef,undef,undef,undef,undef,undef,undef,undef,undef,undef,undef,undef,undef,undef,undef,undef,undef,undef,undef,undef,undef,undef,undef,undef,undef,undef,undef,undef,undef,undef,undef,undef,undef,undef,undef,undef,undef,undef]),Cfg Tryz.prog 214 (loopAt Tryz.f214 0) t [] (RvH [] (vT_U_U_U (S_l02Divide_L0 fu a1 a2 x_qhi x_rest x_q x_i))):=by
 intro fu
 induction fu with
 | zero=>intro a1 a2 x_qhi x_rest x_q x_i q0 hm; exact absurd hm (Nat.not_lt_zero _)
 | succ fu ih=>
  intro a1 a2 x_qhi x_rest x_q x_i q0 hm t ht
  refine Cfg.round E_ok mixed Tryz.func214 ht fun g=>?_
  unfold S_l02Divide_L0
  refine Run.y (gv:=vT_U_U_U) (fun h1=>?_) (fun h1=>?_)
  ·refine Run.z [true,true] ?_
   refine Run.k (c:=(decide (0 ≤ (wu64 x_i.val).val))) (by kernel_rfl) (by simp only [w64_val,wu64_val,c64_val,cu64_val,decide_eq_true_eq] at *; first | assumption | omega) ?_
   refine Run.z [true] ?_
   refine Run.y (gv:=vT_U_U_U) (fun h2=>?_) (fun h2=>?_)
   ·refine Run.z [true,true,true,true] ?_
    exact Run.l (by kernel_rfl) (by kernel_rfl) (by kernel_rfl) (by kernel_rfl) (ih a1 a2 x_qhi (wu64 ((ior .u64 (ishl .u64 x_rest.val 1).val (iand .u64 (ishr a1 (wu64 x_i.val).val).val 1).val).val - a2.val)) (ior .u64 (ishl .u64 x_q.val 1).val 1) (w64 (x_i.val - 1)) (by have q1:=x_i.lo; simp only [w64_val,wu64_val,c64_val,cu64_val,decide_eq_true_eq] at *; omega) (by have q1:=x_i.lo; simp only [w64_val,wu64_val,c64_val,cu64_val,decide_eq_true_eq] at *; omega))
   ·refine Run.z [false,false,false] ?_
    refine Run.y (gv:=vT_U_U_U) (fun h3=>?_) (fun h3=>?_)
    ·exact Run.l (by kernel_rfl) (by kernel_rfl) (by kernel_rfl) (by kernel_rfl) (ih a1 a2 x_qhi (wu64 ((ior .u64 (ishl .u64 x_rest.val 1).val (iand .u64 (ishr a1 (wu64 x_i.val).val).val 1).val).val - a2.val)) (ior .u64 (ishl .u64 x_q.val 1).val 1) (w64 (x_i.val - 1)) (by have q1:=x_i.lo; simp only [w64_val,wu64_val,c64_val,cu64_val,decide_eq_true_eq] at *; omega) (by have q1:=x_i.lo; simp only [w64_val,wu64_val,c64_val,cu64_val,decide_eq_true_eq] at *; omega))
    ·exact Run.l (by kernel_rfl) (by kernel_rfl) (by kernel_rfl) (by kernel_rfl) (ih a1 a2 x_qhi (ior .u64 (ishl .u64 x_rest.val 1).val (iand .u64 (ishr a1 (wu64 x_i.val).val).val 1).val) (ishl .u64 x_q.val 1) (w64 (x_i.val - 1)) (by have q1:=x_i.lo; simp only [w64_val,wu64_val,c64_val,cu64_val,decide_eq_true_eq] at *; omega) (by have q1:=x_i.lo; simp only [w64_val,wu64_val,c64_val,cu64_val,decide_eq_true_eq] at *; omega))
  ·exact Run.x 0
theorem os_l02Divide (a0 : U64) (a1 : U64) (a2 : U64) (p0 : a2.val ≠ 0) : Fun Tryz.prog 214 [] #[vU a0,vU a1,vU a2] (vT_U_U_U (S_l02Divide a0 a1 a2)) []:=by
 refine Fun.ofH 400 E_ok mixed Tryz.func214 (by kernel_rfl) (by kernel_rfl) ?_
 unfold S_l02Divide
 refine Run.k (c:=(decide (a2.val ≠ 0))) (by kernel_rfl) (by simp only [w64_val,wu64_val,c64_val,cu64_val,decide_eq_true_eq] at *; first | assumption | omega) ?_
 refine Run.k (c:=(decide (a2.val ≠ 0))) (by kernel_rfl) (by simp only [w64_val,wu64_val,c64_val,cu64_val,decide_eq_true_eq] at *; first | assumption | omega) ?_
 exact Run.l (by kernel_rfl) (by kernel_rfl) (by kernel_rfl) (by kernel_rfl) (os_l02Divide_L0 65 a1 a2 (wu64 (Int.tdiv a0.val a2.val)) (imod a0 a2.val) (cu64 0) (c64 63) (by decide) (by decide))
theorem os_l02Of (a0 : I64) : Fun Tryz.prog 215 [] #[vI a0] (vWd (S_l02Of a0)) []:=by
 refine Fun.ofH 400 E_ok mixed Tryz.func215 (by kernel_rfl) (by kernel_rfl) ?_
 unfold S_l02Of
 refine Run.y (gv:=vWd) (fun _=>?_) (fun _=>?_)
 ·exact Run.x 0
 ·exact Run.x 0
theorem os_l02Plus (a0 : Wd) (a1 : Wd) : Fun Tryz.prog 183 [] #[vWd a0,vWd a1] (vWd (S_l02Plus a0 a1)) []:=by
 refine Fun.ofH 400 E_ok mixed Tryz.func183 (by kernel_rfl) (by kernel_rfl) ?_
 unfold S_l02Plus
 refine Run.y (gv:=vWd) (fun _=>?_) (fun _=>?_)
 ·exact Run.x 0
 ·exact Run.x 0
theorem os_l02Div (a0 : Wd) (a1 : I64) (p0 : 0 < a1.val) : Fun Tryz.prog 156 [] #[vWd a0,vI a1] (vT_Wd_I (S_l02Div a0 a1)) []:=by
 refine Fun.ofH 400 E_ok mixed Tryz.func156 (by kernel_rfl) (by kernel_rfl) ?_
 unfold S_l02Div
 refine Run.y (gv:=vT_Wd_I) (fun h1=>?_) (fun h1=>?_)
 ·refine Run.q (e:=vT_U_U_U) (gv:=vT_Wd_I) (os_l02Divide _ _ _ (by have q1:=a1.hi; simp only [w64_val,wu64_val,decide_eq_true_eq] at *; omega)) fun r2 hr2=>?_
  exact Run.x 0
 ·refine Run.q (e:=vWd) (gv:=vT_Wd_I) (os_l02Minus _) fun r3 hr3=>?_
  refine Run.q (e:=vT_U_U_U) (gv:=vT_Wd_I) (os_l02Divide _ _ _ (by have q1:=a1.hi; simp only [w64_val,wu64_val,decide_eq_true_eq] at *; omega)) fun r4 hr4=>?_
  refine Run.q (e:=vWd) (gv:=vT_Wd_I) (os_l02Minus _) fun r5 hr5=>?_
  refine Run.y (gv:=vT_Wd_I) (fun h6=>?_) (fun h6=>?_)
  ·exact Run.x 0
  ·refine Run.q (e:=vWd) (gv:=vT_Wd_I) (os_l02Of _) fun r7 hr7=>?_
   refine Run.q (e:=vWd) (gv:=vT_Wd_I) (os_l02Plus _ _) fun r8 hr8=>?_
   exact Run.x 0
theorem os_l02Int (a0 : Wd) : Fun Tryz.prog 157 [] #[vWd a0] (vT_I_B (S_l02Int a0)) []:=by
 refine Fun.ofH 400 E_ok mixed Tryz.func157 (by kernel_rfl) (by kernel_rfl) ?_
 unfold S_l02Int
 refine Run.q (e:=vWd) (gv:=vT_I_B) (os_l02Of _) fun r1 _=>?_
 refine Run.y (gv:=vT_I_B) (fun _=>?_) (fun _=>?_)
 ·exact Run.x 0
 ·exact Run.x 0
theorem os_MulDivFloor (a0 : I64) (a1 : I64) (a2 : I64) : Fun Tryz.prog 66 [] #[vI a0,vI a1,vI a2] (vT_I_B (S_MulDivFloor a0 a1 a2)) []:=by
 refine Fun.ofH 400 E_ok mixed Tryz.func66 (by kernel_rfl) (by kernel_rfl) ?_
 unfold S_MulDivFloor
 refine Run.y (gv:=vT_I_B) (fun h1=>?_) (fun h1=>?_)
 ·exact Run.x 0
 ·refine Run.q (e:=vWd) (gv:=vT_I_B) (os_l02Mul _ _) fun r2 hr2=>?_
  refine Run.q (e:=vT_Wd_I) (gv:=vT_I_B) (os_l02Div _ _ (by simp only [c64_val,decide_eq_true_eq,decide_eq_false_iff_not] at *; omega)) fun r3 hr3=>?_
  refine Run.q (e:=vT_I_B) (gv:=vT_I_B) (os_l02Int _) fun r4 hr4=>?_
  exact Run.x 0
theorem os_RadiansOf_r : ∀ (fu : Nat) (a0 : I64) (hm : min (0 - a0.val).toNat 1 < fu),Fun Tryz.prog 15 [] #[vI a0] (vIv (S_RadiansOf_r fu a0)) []:=by
 intro fu
 induction fu with
 | zero=>intro a0 hm; exact absurd hm (Nat.not_lt_zero _)
 | succ fu ih=>
  intro a0 hm
  refine Fun.ofH 400 E_ok mixed Tryz.func15 (by kernel_rfl) (by kernel_rfl) ?_
  unfold S_RadiansOf_r
  unfold S_RadiansOf_b
  refine Run.q (e:=vB) (gv:=vIv) (os_l00In _ _ _) fun r1 hr1=>?_
  refine Run.y (gv:=vIv) (fun h2=>?_) (fun h2=>?_)
  ·refine Run.q (e:=vIv) (gv:=vIv) (os_Whole) fun r3 hr3=>?_
   exact Run.x 0
  ·refine Run.y (gv:=vIv) (fun h4=>?_) (fun h4=>?_)
   ·exact Run.x 0
   ·refine Run.y (gv:=vIv) (fun h5=>?_) (fun h5=>?_)
    ·refine Run.q (e:=vIv) (gv:=vIv) (ih (w64 (0 - a0.val)) (by rw [hr1] at h2; simp [S_l00In,c64_val] at h2; simp only [w64_val,decide_eq_true_eq,decide_eq_false_iff_not] at *; omega)) fun r6 hr6=>?_
     refine Run.q (e:=vIv) (gv:=vIv) (os_NegI _) fun r7 hr7=>?_
     exact Run.x 0
    ·refine Run.q (e:=vT_I_B) (gv:=vIv) (os_MulDivFloor _ _ _) fun r8 hr8=>?_
     refine Run.q (e:=vT_I_B) (gv:=vIv) (os_MulDivFloor _ _ _) fun r9 hr9=>?_
     exact Run.x 0
theorem os_RadiansOf (a0 : I64) : Fun Tryz.prog 15 [] #[vI a0] (vIv (S_RadiansOf a0)) []:=os_RadiansOf_r 2 a0 (by omega)
theorem os_LatOf (a0 : Pt) : Fun Tryz.prog 14 [] #[vPt a0] (vIv (S_LatOf a0)) []:=by
 refine Fun.ofH 400 E_ok mixed Tryz.func14 (by kernel_rfl) (by kernel_rfl) ?_
 unfold S_LatOf
 refine Run.q (e:=vB) (gv:=vIv) (os_l11Ok _) fun r1 _=>?_
 refine Run.y (gv:=vIv) (fun _=>?_) (fun _=>?_)
 ·refine Run.q (e:=vIv) (gv:=vIv) (os_Whole) fun r2 _=>?_
  exact Run.x 0
 ·refine Run.q (e:=vIv) (gv:=vIv) (os_RadiansOf _) fun r3 _=>?_
  exact Run.x 0
theorem os_l11Pole (a0 : Pt) : Fun Tryz.prog 62 [] #[vPt a0] (vB (S_l11Pole a0)) []:=by
 refine Fun.ofH 400 E_ok mixed Tryz.func62 (by kernel_rfl) (by kernel_rfl) ?_
 unfold S_l11Pole
 refine Run.y (gv:=vB) (fun _=>?_) (fun _=>?_)
 ·refine Run.z [true,true,true] ?_
  exact Run.x 0
 ·refine Run.z [false,false,false] ?_
  exact Run.x 0
theorem os_AtPoint (a0 : Iv) (a1 : Iv) (a2 : Pt) : Fun Tryz.prog 12 [] #[vIv a0,vIv a1,vPt a2] (vB (S_AtPoint a0 a1 a2)) []:=by
 refine Fun.ofH 400 E_ok mixed Tryz.func12 (by kernel_rfl) (by kernel_rfl) ?_
 unfold S_AtPoint
 refine Run.q (e:=vB) (gv:=vB) (os_l11Ok _) fun r1 _=>?_
 refine Run.y (gv:=vB) (fun _=>?_) (fun _=>?_)
 ·refine Run.z [true,true,true,true,true,true] ?_
  exact Run.x 0
 ·refine Run.z [false,false] ?_
  refine Run.q (e:=vIv) (gv:=vB) (os_LatOf _) fun r2 _=>?_
  refine Run.z [false] ?_
  refine Run.q (e:=vB) (gv:=vB) (os_OverlapI _ _) fun r3 _=>?_
  refine Run.z [false,false] ?_
  refine Run.y (gv:=vB) (fun _=>?_) (fun _=>?_)
  ·exact Run.x 0
  ·refine Run.q (e:=vB) (gv:=vB) (os_l11Pole _) fun r4 _=>?_
   refine Run.y (gv:=vB) (fun _=>?_) (fun _=>?_)
   ·exact Run.x 0
   ·refine Run.u 400 E_ok mixed Tryz.func12 ?_
    refine Run.z [true] ?_
    refine Run.q (e:=vIv) (gv:=vB) (os_RadiansOf _) fun r5 _=>?_
    refine Run.q (e:=vB) (gv:=vB) (os_OverlapI _ _) fun r6 _=>?_
    refine Run.y (gv:=vB) (fun _=>?_) (fun _=>?_)
    ·exact Run.x 0
    ·refine Run.u 400 E_ok mixed Tryz.func12 ?_
     refine Run.z [true] ?_
     refine Run.q (e:=vIv) (gv:=vB) (os_RadiansOf _) fun r7 _=>?_
     refine Run.q (e:=vB) (gv:=vB) (os_OverlapI _ _) fun r8 _=>?_
     refine Run.y (gv:=vB) (fun _=>?_) (fun _=>?_)
     ·exact Run.x 0
     ·refine Run.u 400 E_ok mixed Tryz.func12 ?_
      refine Run.z [true] ?_
      refine Run.q (e:=vIv) (gv:=vB) (os_RadiansOf _) fun r9 _=>?_
      refine Run.q (e:=vB) (gv:=vB) (os_OverlapI _ _) fun r10 _=>?_
      refine Run.y (gv:=vB) (fun _=>?_) (fun _=>?_)
      ·exact Run.x 0
      ·refine Run.u 400 E_ok mixed Tryz.func12 ?_
       refine Run.z [true] ?_
       refine Run.q (e:=vIv) (gv:=vB) (os_RadiansOf _) fun r11 _=>?_
       refine Run.q (e:=vB) (gv:=vB) (os_OverlapI _ _) fun r12 _=>?_
       refine Run.y (gv:=vB) (fun _=>?_) (fun _=>?_)
       ·exact Run.x 0
       ·refine Run.u 400 E_ok mixed Tryz.func12 ?_
        refine Run.z [true] ?_
        refine Run.q (e:=vIv) (gv:=vB) (os_RadiansOf _) fun r13 _=>?_
        refine Run.q (e:=vB) (gv:=vB) (os_OverlapI _ _) fun r14 _=>?_
        refine Run.y (gv:=vB) (fun _=>?_) (fun _=>?_)
        ·exact Run.x 0
        ·refine Run.u 400 E_ok mixed Tryz.func12 ?_
         refine Run.z [true] ?_
         refine Run.q (e:=vIv) (gv:=vB) (os_RadiansOf _) fun r15 _=>?_
         refine Run.q (e:=vB) (gv:=vB) (os_OverlapI _ _) fun r16 _=>?_
         refine Run.y (gv:=vB) (fun _=>?_) (fun _=>?_)
         ·exact Run.x 0
         ·refine Run.u 400 E_ok mixed Tryz.func12 ?_
          refine Run.z [true] ?_
          refine Run.q (e:=vIv) (gv:=vB) (os_RadiansOf _) fun r17 _=>?_
          refine Run.q (e:=vB) (gv:=vB) (os_OverlapI _ _) fun r18 _=>?_
          refine Run.y (gv:=vB) (fun _=>?_) (fun _=>?_)
          ·exact Run.x 0
          ·refine Run.u 400 E_ok mixed Tryz.func12 ?_
           refine Run.z [true] ?_
           refine Run.q (e:=vIv) (gv:=vB) (os_RadiansOf _) fun r19 _=>?_
           refine Run.q (e:=vB) (gv:=vB) (os_OverlapI _ _) fun r20 _=>?_
           refine Run.y (gv:=vB) (fun _=>?_) (fun _=>?_)
           ·exact Run.x 0
           ·refine Run.u 400 E_ok mixed Tryz.func12 ?_
            refine Run.z [true] ?_
            refine Run.q (e:=vIv) (gv:=vB) (os_RadiansOf _) fun r21 _=>?_
            refine Run.q (e:=vB) (gv:=vB) (os_OverlapI _ _) fun r22 _=>?_
            refine Run.y (gv:=vB) (fun _=>?_) (fun _=>?_)
            ·exact Run.x 0
            ·refine Run.u 400 E_ok mixed Tryz.func12 ?_
             refine Run.z [true] ?_
             refine Run.q (e:=vIv) (gv:=vB) (os_RadiansOf _) fun r23 _=>?_
             refine Run.q (e:=vB) (gv:=vB) (os_OverlapI _ _) fun r24 _=>?_
             refine Run.y (gv:=vB) (fun _=>?_) (fun _=>?_)
             ·exact Run.x 0
             ·refine Run.u 400 E_ok mixed Tryz.func12 ?_
              refine Run.z [true] ?_
              refine Run.q (e:=vIv) (gv:=vB) (os_RadiansOf _) fun r25 _=>?_
              refine Run.q (e:=vB) (gv:=vB) (os_OverlapI _ _) fun r26 _=>?_
              refine Run.y (gv:=vB) (fun _=>?_) (fun _=>?_)
              ·exact Run.x 0
              ·refine Run.u 400 E_ok mixed Tryz.func12 ?_
               refine Run.z [true] ?_
               refine Run.q (e:=vIv) (gv:=vB) (os_RadiansOf _) fun r27 _=>?_
               refine Run.q (e:=vB) (gv:=vB) (os_OverlapI _ _) fun r28 _=>?_
               refine Run.y (gv:=vB) (fun _=>?_) (fun _=>?_)
               ·exact Run.x 0
               ·refine Run.u 400 E_ok mixed Tryz.func12 ?_
                refine Run.z [true] ?_
                refine Run.q (e:=vIv) (gv:=vB) (os_RadiansOf _) fun r29 _=>?_
                refine Run.q (e:=vB) (gv:=vB) (os_OverlapI _ _) fun r30 _=>?_
                refine Run.y (gv:=vB) (fun _=>?_) (fun _=>?_)
                ·exact Run.x 0
                ·refine Run.u 400 E_ok mixed Tryz.func12 ?_
                 refine Run.z [true] ?_
                 refine Run.q (e:=vIv) (gv:=vB) (os_RadiansOf _) fun r31 _=>?_
                 refine Run.q (e:=vB) (gv:=vB) (os_OverlapI _ _) fun r32 _=>?_
                 refine Run.y (gv:=vB) (fun _=>?_) (fun _=>?_)
                 ·exact Run.x 0
                 ·refine Run.u 400 E_ok mixed Tryz.func12 ?_
                  refine Run.z [true] ?_
                  refine Run.q (e:=vIv) (gv:=vB) (os_RadiansOf _) fun r33 _=>?_
                  refine Run.q (e:=vB) (gv:=vB) (os_OverlapI _ _) fun r34 _=>?_
                  refine Run.y (gv:=vB) (fun _=>?_) (fun _=>?_)
                  ·exact Run.x 0
                  ·refine Run.u 400 E_ok mixed Tryz.func12 ?_
                   refine Run.z [true] ?_
                   refine Run.q (e:=vIv) (gv:=vB) (os_RadiansOf _) fun r35 _=>?_
                   refine Run.q (e:=vB) (gv:=vB) (os_OverlapI _ _) fun r36 _=>?_
                   refine Run.y (gv:=vB) (fun _=>?_) (fun _=>?_)
                   ·exact Run.x 0
                   ·refine Run.u 400 E_ok mixed Tryz.func12 ?_
                    refine Run.z [true] ?_
                    refine Run.q (e:=vIv) (gv:=vB) (os_RadiansOf _) fun r37 _=>?_
                    refine Run.q (e:=vB) (gv:=vB) (os_OverlapI _ _) fun r38 _=>?_
                    refine Run.y (gv:=vB) (fun _=>?_) (fun _=>?_)
                    ·exact Run.x 0
                    ·refine Run.u 400 E_ok mixed Tryz.func12 ?_
                     refine Run.z [true] ?_
                     refine Run.q (e:=vIv) (gv:=vB) (os_RadiansOf _) fun r39 _=>?_
                     refine Run.q (e:=vB) (gv:=vB) (os_OverlapI _ _) fun r40 _=>?_
                     refine Run.y (gv:=vB) (fun _=>?_) (fun _=>?_)
                     ·exact Run.x 0
                     ·refine Run.u 400 E_ok mixed Tryz.func12 ?_
                      refine Run.z [true] ?_
                      refine Run.q (e:=vIv) (gv:=vB) (os_RadiansOf _) fun r41 _=>?_
                      refine Run.q (e:=vB) (gv:=vB) (os_OverlapI _ _) fun r42 _=>?_
                      refine Run.y (gv:=vB) (fun _=>?_) (fun _=>?_)
                      ·exact Run.x 0
                      ·refine Run.u 400 E_ok mixed Tryz.func12 ?_
                       refine Run.z [false] ?_
                       exact Run.x 0
theorem os_SubI (a0 : Iv) (a1 : Iv) : Fun Tryz.prog 16 [] #[vIv a0,vIv a1] (vIv (S_SubI a0 a1)) []:=by
 refine Fun.ofH 400 E_ok mixed Tryz.func16 (by kernel_rfl) (by kernel_rfl) ?_
 unfold S_SubI
 refine Run.q (e:=vB) (gv:=vIv) (os_l04Ok _) fun r1 _=>?_
 refine Run.y (gv:=vIv) (fun _=>?_) (fun _=>?_)
 ·refine Run.z [true,true,true,true] ?_
  refine Run.q (e:=vIv) (gv:=vIv) (os_l04Whole) fun r2 _=>?_
  exact Run.x 0
 ·refine Run.z [false] ?_
  refine Run.q (e:=vB) (gv:=vIv) (os_l04Ok _) fun r3 _=>?_
  refine Run.z [false,false] ?_
  refine Run.y (gv:=vIv) (fun _=>?_) (fun _=>?_)
  ·refine Run.q (e:=vIv) (gv:=vIv) (os_l04Whole) fun r4 _=>?_
   exact Run.x 0
  ·refine Run.q (e:=vIv) (gv:=vIv) (os_l04Make _ _) fun r5 _=>?_
   exact Run.x 0
theorem os_l04Has (a0 : Iv) (a1 : I64) : Fun Tryz.prog 158 [] #[vIv a0,vI a1] (vB (S_l04Has a0 a1)) []:=by
 refine Fun.ofH 400 E_ok mixed Tryz.func158 (by kernel_rfl) (by kernel_rfl) ?_
 unfold S_l04Has
 refine Run.q (e:=vB) (gv:=vB) (os_l00In _ _ _) fun r1 _=>?_
 exact Run.x 0
theorem os_l04Ends (a0 : Iv) : Fun Tryz.prog 68 [] #[vIv a0] (vT_I_I (S_l04Ends a0)) []:=by
 refine Fun.ofH 400 E_ok mixed Tryz.func68 (by kernel_rfl) (by kernel_rfl) ?_
 unfold S_l04Ends
 refine Run.q (e:=vI) (gv:=vT_I_I) (os_l00Max _ _) fun r1 _=>?_
 refine Run.q (e:=vI) (gv:=vT_I_I) (os_l00Max _ _) fun r2 _=>?_
 refine Run.q (e:=vB) (gv:=vT_I_I) (os_l04Has _ _) fun r3 _=>?_
 refine Run.y (gv:=vT_I_I) (fun _=>?_) (fun _=>?_)
 ·refine Run.q (e:=vI) (gv:=vT_I_I) (os_l00Max _ _) fun r4 _=>?_
  exact Run.x 0
 ·refine Run.q (e:=vI) (gv:=vT_I_I) (os_l00Min _ _) fun r5 _=>?_
  refine Run.q (e:=vI) (gv:=vT_I_I) (os_l00Max _ _) fun r6 _=>?_
  exact Run.x 0
theorem os_l03Ok (a0 : I64) : Fun Tryz.prog 159 [] #[vI a0] (vB (S_l03Ok a0)) []:=by
 refine Fun.ofH 400 E_ok mixed Tryz.func159 (by kernel_rfl) (by kernel_rfl) ?_
 unfold S_l03Ok
 refine Run.q (e:=vB) (gv:=vB) (os_l00In _ _ _) fun r1 _=>?_
 exact Run.x 0
end Go.Proofs.YtbipmdgocmdgdaaGreat.Abs
