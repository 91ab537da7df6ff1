/- The program's functions are these; part 1 (written by w.py). -/
import Derived.Test.YtfhnlkinjbakgaaGreatSsE
import Derived.Test.YtfhnlkinjbakgaaGreatSsF3
import Derived.Test.YtfhnlkinjbakgaaGreatSsQpre
set_option linter.unusedVariables false
set_option linter.unusedSimpArgs false
namespace Go.Proofs.YtfhnlkinjbakgaaGreat.Abs
open Go Go.RowKit
theorem Abk (a : Option Addr) (l c : Nat) (w : World) : (Instr.build 102 #[(0,.slice a l c)]).run Tryz.prog w = .ok (.agg #[.slice a l c,.int .i64 0,.int .u64 0]) w:=run_build w 102 _ _ (by kernel_rfl)
attribute [local go_sem] Abk
theorem Zy : Wy Tryz.prog 26 102:=by
 refine ⟨⟨_,Tryz.func26,by kernel_rfl,by kernel_rfl⟩,fun a l c w=>?_⟩
 go_enter Tryz.func26,Tryz.ntmps26
 go_wp2
 go_ret
 exact ⟨rfl,rfl⟩
theorem vO (c0 : Cd) : Gh Tryz.prog 26 [(c0.row,c0.ty)] [] #[(c0.sl 0)] (fun v Y=>v = .pointer (some ⟨1,0,none⟩) ∧ Y = [K7 102 (c0.sl 0) (Ah 0) (Eu 0)]):=Wy.list c0 (by decide) Zy
theorem Et (c0 : Cd) (b1 : Je) (ps : 0 ≤ b1.ix.val ∧ b1.ix.val + 1 ≤ 1000000000) : Gh Tryz.prog 86 [(c0.row,c0.ty)] [K7 102 (c0.sl 0) b1.ix b1.sd] #[.pointer (some ⟨1,0,none⟩)] (Ry vI 102 (c0.sl 0) b1.ix.val (b1.ix.val + 1) (Be c0 b1)):=by
 refine Gh.drew (fun _ _=>rfl) (Ep (c0.calm) rfl) (by kernel_rfl) (If.of 400 Az mixed Tryz.func86 (by kernel_rfl) ?_)
 show Ac _ _ ((RD [(c0.row,c0.ty)] vI 102 (c0.sl 0) b1.ix.val (b1.ix.val + 1)) (Be c0 b1)) _
 unfold Be
 refine Ac.gy (Rg:=(RD [(c0.row,c0.ty)] vI 102 (c0.sl 0) b1.ix.val (b1.ix.val + 1))) (fun h1=>?_) (fun h1=>?_)
 ·refine Ac.k (c:=(decide (0 ≤ b1.ix.val ∧ b1.ix.val < ((c0.L.length : Nat) : Int)))) (by kernel_rfl) (by simp only [Ad,At,Aj,Bt,decide_eq_true_eq,decide_eq_false_iff_not,cond_true,cond_false] at *; omega) ?_
  refine Ac.ld (by kernel_rfl) (Cd.byte c0 (i:=b1.ix) (by simp only [Ad,At,Aj,Bt,decide_eq_true_eq,decide_eq_false_iff_not,cond_true,cond_false] at *; omega)) ?_
  refine Ac.gy (Rg:=(RD [(c0.row,c0.ty)] vI 102 (c0.sl 0) b1.ix.val (b1.ix.val + 1))) (fun h2=>?_) (fun h2=>?_)
  ·exact Ac.dr (by kernel_rfl) (by kernel_rfl) (by first | omega | (simp only [Ad,Aj] at *; omega))
  ·refine Ac.z [true] ?_
   exact Ac.dr (by kernel_rfl) (by kernel_rfl) (by first | omega | (simp only [Ad,Aj] at *; omega))
 ·refine Ac.gy (Rg:=(RD [(c0.row,c0.ty)] vI 102 (c0.sl 0) b1.ix.val (b1.ix.val + 1))) (fun h3=>?_) (fun h3=>?_)
  ·exact Ac.dr (by kernel_rfl) (by kernel_rfl) (by first | omega | (simp only [Ad,Aj] at *; omega))
  ·refine Ac.z [true] ?_
   exact Ac.dr (by kernel_rfl) (by kernel_rfl) (by first | omega | (simp only [Ad,Aj] at *; omega))
theorem Bq (c0 : Cd) (b1 : Je) (a0 : Aq) (ps : 0 ≤ b1.ix.val ∧ b1.ix.val + 2 ≤ 1000000000) : Gh Tryz.prog 28 [(c0.row,c0.ty)] [K7 102 (c0.sl 0) b1.ix b1.sd] #[.pointer (some ⟨1,0,none⟩),vI a0] (Ry vI 102 (c0.sl 0) b1.ix.val (b1.ix.val + 2) (A9 c0 b1 a0)):=by
 refine Gh.drew (fun _ _=>rfl) (Ep (c0.calm) rfl) (by kernel_rfl) (If.of 400 Az mixed Tryz.func28 (by kernel_rfl) ?_)
 show Ac _ _ ((RD [(c0.row,c0.ty)] vI 102 (c0.sl 0) b1.ix.val (b1.ix.val + 2)) (A9 c0 b1 a0)) _
 unfold A9
 refine Ac.gy (Rg:=(RD [(c0.row,c0.ty)] vI 102 (c0.sl 0) b1.ix.val (b1.ix.val + 2))) (fun h1=>?_) (fun h1=>?_)
 ·exact Ac.dr (by kernel_rfl) (by kernel_rfl) (by first | omega | (simp only [Ad,Aj] at *; omega))
 ·refine Ac.cw (e:=vI) (Rg:=(RD [(c0.row,c0.ty)] vI 102 (c0.sl 0) b1.ix.val (b1.ix.val + 2))) [0] 1 (Et _ _ (by first | omega | (simp only [Ad,Aj] at *; omega))) (Ep (c0.calm) rfl) fun r2 hr2 kr2=>?_
  refine Ac.gy (Rg:=(RD [(c0.row,c0.ty)] vI 102 (c0.sl 0) b1.ix.val (b1.ix.val + 2))) (fun h3=>?_) (fun h3=>?_)
  ·refine Ac.cw (e:=vI) (Rg:=(RD [(c0.row,c0.ty)] vI 102 (c0.sl 0) b1.ix.val (b1.ix.val + 2))) [0] 1 (Et _ _ (by first | omega | (simp only [Ad,Aj] at *; omega))) (Ep (c0.calm) rfl) fun r4 hr4 kr4=>?_
   refine Ac.k (c:=(decide (a0.val ≠ 0))) (by kernel_rfl) (by simp only [Ad,At,Aj,Bt,decide_eq_true_eq,decide_eq_false_iff_not,cond_true,cond_false] at *; omega) ?_
   exact Ac.dr (by kernel_rfl) (by kernel_rfl) (by first | omega | (simp only [Ad,Aj] at *; omega))
  ·refine Ac.k (c:=(decide (a0.val ≠ 0))) (by kernel_rfl) (by simp only [Ad,At,Aj,Bt,decide_eq_true_eq,decide_eq_false_iff_not,cond_true,cond_false] at *; omega) ?_
   exact Ac.dr (by kernel_rfl) (by kernel_rfl) (by first | omega | (simp only [Ad,Aj] at *; omega))
theorem G5 (c0 : Cd) (b1 : Je) (a0 : Aq) (ps : 0 ≤ b1.ix.val ∧ b1.ix.val + 2 ≤ 1000000000) : Gh Tryz.prog 85 [(c0.row,c0.ty)] [K7 102 (c0.sl 0) b1.ix b1.sd] #[.pointer (some ⟨1,0,none⟩),vI a0] (Ry vB 102 (c0.sl 0) b1.ix.val (b1.ix.val + 2) (D0 c0 b1 a0)):=by
 refine Gh.drew (fun _ _=>rfl) (Ep (c0.calm) rfl) (by kernel_rfl) (If.of 400 Az mixed Tryz.func85 (by kernel_rfl) ?_)
 show Ac _ _ ((RD [(c0.row,c0.ty)] vB 102 (c0.sl 0) b1.ix.val (b1.ix.val + 2)) (D0 c0 b1 a0)) _
 unfold D0
 refine Ac.cw (e:=vI) (Rg:=(RD [(c0.row,c0.ty)] vB 102 (c0.sl 0) b1.ix.val (b1.ix.val + 2))) [0] 1 (Bq _ _ _ (by first | omega | (simp only [Ad,Aj] at *; omega))) (Ep (c0.calm) rfl) fun r1 hr1 kr1=>?_
 exact Ac.dr (by kernel_rfl) (by kernel_rfl) (by first | omega | (simp only [Ad,Aj] at *; omega))
theorem Ny (c0 : Cd) (b1_0 : Aq) (b1_1 : Aq) (b1_2 : Aq) (b1_3 : Aq) (b2 : Je) (ps : 0 ≤ b2.ix.val ∧ b2.ix.val + 2 ≤ 1000000000) : Gh Tryz.prog 91 [(c0.row,c0.ty),(#[.int .i64 b1_0.val,.int .i64 b1_1.val,.int .i64 b1_2.val,.int .i64 b1_3.val],2)] [K7 102 (c0.sl 0) b2.ix b2.sd] #[.pointer (some ⟨2,0,none⟩),.slice (some ⟨1,0,none⟩) 4 4] (Ry vI 102 (c0.sl 0) b2.ix.val (b2.ix.val + 2) (Dj c0 b1_0 b1_1 b1_2 b1_3 b2)):=by
 refine Gh.marks (args:=#[.pointer (some ⟨2,0,none⟩),.slice (some ⟨1,0,some 0⟩) 4 4]) (by kernel_rfl) ?_
 refine Gh.drew (fun _ _=>rfl) (Ep (c0.calm) (Ep (by kernel_rfl) rfl)) (by kernel_rfl) (If.of 400 Az mixed Tryz.func91 (by kernel_rfl) ?_)
 show Ac _ _ ((RD [(c0.row,c0.ty),(#[.int .i64 b1_0.val,.int .i64 b1_1.val,.int .i64 b1_2.val,.int .i64 b1_3.val],2)] vI 102 (c0.sl 0) b2.ix.val (b2.ix.val + 2)) (Dj c0 b1_0 b1_1 b1_2 b1_3 b2)) _
 unfold Dj
 refine Ac.cw (e:=vI) (Rg:=(RD [(c0.row,c0.ty),(#[.int .i64 b1_0.val,.int .i64 b1_1.val,.int .i64 b1_2.val,.int .i64 b1_3.val],2)] vI 102 (c0.sl 0) b2.ix.val (b2.ix.val + 2))) [0] 2 (Bq _ _ _ (by first | omega | (simp only [Ad,Aj] at *; omega))) (Ep (c0.calm) rfl) fun r1 hr1 kr1=>?_
 refine Ac.k (c:=(decide (0 ≤ r1.1.val ∧ r1.1.val < 4))) (by kernel_rfl) (by rw [hr1]; first | exact decide_eq_true ⟨(Bv _ _ _).1,(Bv _ _ _).2 (by decide)⟩ | exact ⟨(Bv _ _ _).1,(Bv _ _ _).2 (by decide)⟩) ?_
 refine Ac.ld (by kernel_rfl) (O3 (L:=[b1_0,b1_1,b1_2,b1_3]) (pad:=[]) (i:=r1.1) (by rw [hr1]; first | exact decide_eq_true ⟨(Bv _ _ _).1,(Bv _ _ _).2 (by decide)⟩ | exact ⟨(Bv _ _ _).1,(Bv _ _ _).2 (by decide)⟩)) ?_
 exact Ac.dr (by kernel_rfl) (by kernel_rfl) (by first | omega | (simp only [Ad,Aj] at *; omega))
theorem Uc (c0 : Cd) (b1 : Je) (a0 : Aq) (p0 : 0 ≤ a0.val) (p1 : a0.val < 9223372036854775807) (ps : 0 ≤ b1.ix.val ∧ b1.ix.val + 13 ≤ 1000000000) : Gh Tryz.prog 64 [(c0.row,c0.ty)] [K7 102 (c0.sl 0) b1.ix b1.sd] #[.pointer (some ⟨1,0,none⟩),vI a0] (Ry vI 102 (c0.sl 0) b1.ix.val (b1.ix.val + 13) (D5 c0 b1 a0)):=by
 refine Gh.drew (fun _ _=>rfl) (Ep (c0.calm) rfl) (by kernel_rfl) (If.of 400 Az mixed Tryz.func64 (by kernel_rfl) ?_)
 show Ac _ _ ((RD [(c0.row,c0.ty)] vI 102 (c0.sl 0) b1.ix.val (b1.ix.val + 13)) (D5 c0 b1 a0)) _
 unfold D5
 refine Ac.u 400 Az mixed Tryz.func64 ?_
 refine Ac.z [true,true] ?_
 refine Ac.cw (e:=vI) (Rg:=(RD [(c0.row,c0.ty)] vI 102 (c0.sl 0) b1.ix.val (b1.ix.val + 13))) [0] 1 (Et _ _ (by first | omega | (simp only [Ad,Aj] at *; omega))) (Ep (c0.calm) rfl) fun r1 hr1 kr1=>?_
 refine Ac.u 400 Az mixed Tryz.func64 ?_
 refine Ac.z [true,true] ?_
 refine Ac.cw (e:=vI) (Rg:=(RD [(c0.row,c0.ty)] vI 102 (c0.sl 0) b1.ix.val (b1.ix.val + 13))) [0] 1 (Et _ _ (by first | omega | (simp only [Ad,Aj] at *; omega))) (Ep (c0.calm) rfl) fun r2 hr2 kr2=>?_
 refine Ac.u 400 Az mixed Tryz.func64 ?_
 refine Ac.z [true,true] ?_
 refine Ac.cw (e:=vI) (Rg:=(RD [(c0.row,c0.ty)] vI 102 (c0.sl 0) b1.ix.val (b1.ix.val + 13))) [0] 1 (Et _ _ (by first | omega | (simp only [Ad,Aj] at *; omega))) (Ep (c0.calm) rfl) fun r3 hr3 kr3=>?_
 refine Ac.u 400 Az mixed Tryz.func64 ?_
 refine Ac.z [true,true] ?_
 refine Ac.cw (e:=vI) (Rg:=(RD [(c0.row,c0.ty)] vI 102 (c0.sl 0) b1.ix.val (b1.ix.val + 13))) [0] 1 (Et _ _ (by first | omega | (simp only [Ad,Aj] at *; omega))) (Ep (c0.calm) rfl) fun r4 hr4 kr4=>?_
 refine Ac.u 400 Az mixed Tryz.func64 ?_
 refine Ac.z [true,true] ?_
 refine Ac.cw (e:=vI) (Rg:=(RD [(c0.row,c0.ty)] vI 102 (c0.sl 0) b1.ix.val (b1.ix.val + 13))) [0] 1 (Et _ _ (by first | omega | (simp only [Ad,Aj] at *; omega))) (Ep (c0.calm) rfl) fun r5 hr5 kr5=>?_
 refine Ac.u 400 Az mixed Tryz.func64 ?_
 refine Ac.z [true,true] ?_
 refine Ac.cw (e:=vI) (Rg:=(RD [(c0.row,c0.ty)] vI 102 (c0.sl 0) b1.ix.val (b1.ix.val + 13))) [0] 1 (Et _ _ (by first | omega | (simp only [Ad,Aj] at *; omega))) (Ep (c0.calm) rfl) fun r6 hr6 kr6=>?_
 refine Ac.u 400 Az mixed Tryz.func64 ?_
 refine Ac.z [true,true] ?_
 refine Ac.cw (e:=vI) (Rg:=(RD [(c0.row,c0.ty)] vI 102 (c0.sl 0) b1.ix.val (b1.ix.val + 13))) [0] 1 (Et _ _ (by first | omega | (simp only [Ad,Aj] at *; omega))) (Ep (c0.calm) rfl) fun r7 hr7 kr7=>?_
 refine Ac.u 400 Az mixed Tryz.func64 ?_
 refine Ac.z [false] ?_
 refine Ac.k (c:=(decide ((An (a0.val + 1)).val ≠ 0))) (by kernel_rfl) (by simp only [Ad,At,Aj,Bt,decide_eq_true_eq,decide_eq_false_iff_not,cond_true,cond_false] at *; omega) ?_
 refine Ac.cw (e:=vI) (Rg:=(RD [(c0.row,c0.ty)] vI 102 (c0.sl 0) b1.ix.val (b1.ix.val + 13))) [0] 1 (Bq _ _ _ (by first | omega | (simp only [Ad,Aj] at *; omega))) (Ep (c0.calm) rfl) fun r8 hr8 kr8=>?_
 refine Ac.gy (Rg:=(RD [(c0.row,c0.ty)] vI 102 (c0.sl 0) b1.ix.val (b1.ix.val + 13))) (fun h9=>?_) (fun h9=>?_)
 ·refine Ac.cw (e:=vI) (Rg:=(RD [(c0.row,c0.ty)] vI 102 (c0.sl 0) b1.ix.val (b1.ix.val + 13))) [0] 1 (Bq _ _ _ (by first | omega | (simp only [Ad,Aj] at *; omega))) (Ep (c0.calm) rfl) fun r10 hr10 kr10=>?_
  refine Ac.k (c:=(decide (0 ≤ (Ak r10.1.val).val))) (by kernel_rfl) (by simp only [Ad,At,Aj,Bt,decide_eq_true_eq,decide_eq_false_iff_not,cond_true,cond_false] at *; omega) ?_
  refine Ac.cw (e:=vB) (Rg:=(RD [(c0.row,c0.ty)] vI 102 (c0.sl 0) b1.ix.val (b1.ix.val + 13))) [0] 1 (G5 _ _ _ (by first | omega | (simp only [Ad,Aj] at *; omega))) (Ep (c0.calm) rfl) fun r11 hr11 kr11=>?_
  refine Ac.gy (Rg:=(RD [(c0.row,c0.ty)] vI 102 (c0.sl 0) b1.ix.val (b1.ix.val + 13))) (fun h12=>?_) (fun h12=>?_)
  ·exact Ac.dr (by kernel_rfl) (by kernel_rfl) (by first | omega | (simp only [Ad,Aj] at *; omega))
  ·exact Ac.dr (by kernel_rfl) (by kernel_rfl) (by first | omega | (simp only [Ad,Aj] at *; omega))
 ·refine Ac.gy (Rg:=(RD [(c0.row,c0.ty)] vI 102 (c0.sl 0) b1.ix.val (b1.ix.val + 13))) (fun h13=>?_) (fun h13=>?_)
  ·refine Ac.z [true] ?_
   refine Ac.cw (e:=vI) (Rg:=(RD [(c0.row,c0.ty)] vI 102 (c0.sl 0) b1.ix.val (b1.ix.val + 13))) [0,2] 1 (Ny _ _ _ _ _ _ (by first | omega | (simp only [Ad,Aj] at *; omega))) (Ep (c0.calm) (Ep (by kernel_rfl) rfl)) fun r14 hr14 kr14=>?_
   refine Ac.cw (e:=vB) (Rg:=(RD [(c0.row,c0.ty)] vI 102 (c0.sl 0) b1.ix.val (b1.ix.val + 13))) [0] 1 (G5 _ _ _ (by first | omega | (simp only [Ad,Aj] at *; omega))) (Ep (c0.calm) rfl) fun r15 hr15 kr15=>?_
   refine Ac.gy (Rg:=(RD [(c0.row,c0.ty)] vI 102 (c0.sl 0) b1.ix.val (b1.ix.val + 13))) (fun h16=>?_) (fun h16=>?_)
   ·exact Ac.dr (by kernel_rfl) (by kernel_rfl) (by first | omega | (simp only [Ad,Aj] at *; omega))
   ·exact Ac.dr (by kernel_rfl) (by kernel_rfl) (by first | omega | (simp only [Ad,Aj] at *; omega))
  ·refine Ac.cw (e:=vB) (Rg:=(RD [(c0.row,c0.ty)] vI 102 (c0.sl 0) b1.ix.val (b1.ix.val + 13))) [0] 1 (G5 _ _ _ (by first | omega | (simp only [Ad,Aj] at *; omega))) (Ep (c0.calm) rfl) fun r17 hr17 kr17=>?_
   refine Ac.gy (Rg:=(RD [(c0.row,c0.ty)] vI 102 (c0.sl 0) b1.ix.val (b1.ix.val + 13))) (fun h18=>?_) (fun h18=>?_)
   ·exact Ac.dr (by kernel_rfl) (by kernel_rfl) (by first | omega | (simp only [Ad,Aj] at *; omega))
   ·exact Ac.dr (by kernel_rfl) (by kernel_rfl) (by first | omega | (simp only [Ad,Aj] at *; omega))
theorem Fm (a0 : Aq) : Br Tryz.prog 90 [] #[vI a0] (vI (D4 a0)) []:=by
 refine Br.ofH 400 Az mixed Tryz.func90 (by kernel_rfl) (by kernel_rfl) ?_
 unfold D4
 refine Ac.z [true] ?_
 refine Ac.y (gv:=vI) (fun _=>?_) (fun _=>?_)
 ·refine Ac.y (gv:=vI) (fun _=>?_) (fun _=>?_)
  ·exact Ac.x 0
  ·exact Ac.x 0
 ·refine Ac.y (gv:=vI) (fun _=>?_) (fun _=>?_)
  ·exact Ac.x 0
  ·exact Ac.x 0
theorem Uw (c0 : Cd) (b1_0 : Aq) (b1_1 : Aq) (b1_2 : Aq) (b1_3 : Aq) (b1_4 : Aq) (b2 : Je) (ps : 0 ≤ b2.ix.val ∧ b2.ix.val + 2 ≤ 1000000000) : Gh Tryz.prog 91 [(c0.row,c0.ty),(#[.int .i64 b1_0.val,.int .i64 b1_1.val,.int .i64 b1_2.val,.int .i64 b1_3.val,.int .i64 b1_4.val],2)] [K7 102 (c0.sl 0) b2.ix b2.sd] #[.pointer (some ⟨2,0,none⟩),.slice (some ⟨1,0,none⟩) 5 5] (Ry vI 102 (c0.sl 0) b2.ix.val (b2.ix.val + 2) (Ed c0 b1_0 b1_1 b1_2 b1_3 b1_4 b2)):=by
 refine Gh.marks (args:=#[.pointer (some ⟨2,0,none⟩),.slice (some ⟨1,0,some 0⟩) 5 5]) (by kernel_rfl) ?_
 refine Gh.drew (fun _ _=>rfl) (Ep (c0.calm) (Ep (by kernel_rfl) rfl)) (by kernel_rfl) (If.of 400 Az mixed Tryz.func91 (by kernel_rfl) ?_)
 show Ac _ _ ((RD [(c0.row,c0.ty),(#[.int .i64 b1_0.val,.int .i64 b1_1.val,.int .i64 b1_2.val,.int .i64 b1_3.val,.int .i64 b1_4.val],2)] vI 102 (c0.sl 0) b2.ix.val (b2.ix.val + 2)) (Ed c0 b1_0 b1_1 b1_2 b1_3 b1_4 b2)) _
 unfold Ed
 refine Ac.cw (e:=vI) (Rg:=(RD [(c0.row,c0.ty),(#[.int .i64 b1_0.val,.int .i64 b1_1.val,.int .i64 b1_2.val,.int .i64 b1_3.val,.int .i64 b1_4.val],2)] vI 102 (c0.sl 0) b2.ix.val (b2.ix.val + 2))) [0] 2 (Bq _ _ _ (by first | omega | (simp only [Ad,Aj] at *; omega))) (Ep (c0.calm) rfl) fun r1 hr1 kr1=>?_
 refine Ac.k (c:=(decide (0 ≤ r1.1.val ∧ r1.1.val < 5))) (by kernel_rfl) (by rw [hr1]; first | exact decide_eq_true ⟨(Bv _ _ _).1,(Bv _ _ _).2 (by decide)⟩ | exact ⟨(Bv _ _ _).1,(Bv _ _ _).2 (by decide)⟩) ?_
 refine Ac.ld (by kernel_rfl) (O3 (L:=[b1_0,b1_1,b1_2,b1_3,b1_4]) (pad:=[]) (i:=r1.1) (by rw [hr1]; first | exact decide_eq_true ⟨(Bv _ _ _).1,(Bv _ _ _).2 (by decide)⟩ | exact ⟨(Bv _ _ _).1,(Bv _ _ _).2 (by decide)⟩)) ?_
 exact Ac.dr (by kernel_rfl) (by kernel_rfl) (by first | omega | (simp only [Ad,Aj] at *; omega))
theorem Jz (c0 : Cd) (b1 : Je) (ps : 0 ≤ b1.ix.val ∧ b1.ix.val + 30 ≤ 1000000000) : Gh Tryz.prog 32 [(c0.row,c0.ty)] [K7 102 (c0.sl 0) b1.ix b1.sd] #[.pointer (some ⟨1,0,none⟩)] (Ry E6 102 (c0.sl 0) b1.ix.val (b1.ix.val + 30) (Ek c0 b1)):=by
 refine Gh.drew (fun _ _=>rfl) (Ep (c0.calm) rfl) (by kernel_rfl) (If.of 400 Az mixed Tryz.func32 (by kernel_rfl) ?_)
 show Ac _ _ ((RD [(c0.row,c0.ty)] E6 102 (c0.sl 0) b1.ix.val (b1.ix.val + 30)) (Ek c0 b1)) _
 unfold Ek
 refine Ac.cw (e:=vI) (Rg:=(RD [(c0.row,c0.ty)] E6 102 (c0.sl 0) b1.ix.val (b1.ix.val + 30))) [0] 1 (Uc _ _ _ (by simp only [Ad,At,Aj,Bt,decide_eq_true_eq,decide_eq_false_iff_not,cond_true,cond_false] at *; omega) (by simp only [Ad,At,Aj,Bt,decide_eq_true_eq,decide_eq_false_iff_not,cond_true,cond_false] at *; omega) (by first | omega | (simp only [Ad,Aj] at *; omega))) (Ep (c0.calm) rfl) fun r1 hr1 kr1=>?_
 refine Ac.cw (e:=vI) (Rg:=(RD [(c0.row,c0.ty)] E6 102 (c0.sl 0) b1.ix.val (b1.ix.val + 30))) [0] 1 (Uc _ _ _ (by simp only [Ad,At,Aj,Bt,decide_eq_true_eq,decide_eq_false_iff_not,cond_true,cond_false] at *; omega) (by simp only [Ad,At,Aj,Bt,decide_eq_true_eq,decide_eq_false_iff_not,cond_true,cond_false] at *; omega) (by first | omega | (simp only [Ad,Aj] at *; omega))) (Ep (c0.calm) rfl) fun r2 hr2 kr2=>?_
 refine Ac.gq (Rg:=(RD [(c0.row,c0.ty)] E6 102 (c0.sl 0) b1.ix.val (b1.ix.val + 30))) (e:=vI) (Fm _) fun r3 hr3=>?_
 refine Ac.cw (e:=vI) (Rg:=(RD [(c0.row,c0.ty)] E6 102 (c0.sl 0) b1.ix.val (b1.ix.val + 30))) [0] 1 (Bq _ _ _ (by first | omega | (simp only [Ad,Aj] at *; omega))) (Ep (c0.calm) rfl) fun r4 hr4 kr4=>?_
 refine Ac.gy (Rg:=(RD [(c0.row,c0.ty)] E6 102 (c0.sl 0) b1.ix.val (b1.ix.val + 30))) (fun h5=>?_) (fun h5=>?_)
 ·refine Ac.cw (e:=vI) (Rg:=(RD [(c0.row,c0.ty)] E6 102 (c0.sl 0) b1.ix.val (b1.ix.val + 30))) [0,4] 1 (Ny _ _ _ _ _ _ (by first | omega | (simp only [Ad,Aj] at *; omega))) (Ep (c0.calm) (Ep (by kernel_rfl) rfl)) fun r6 hr6 kr6=>?_
  exact Ac.dr (by kernel_rfl) (by kernel_rfl) (by first | omega | (simp only [Ad,Aj] at *; omega))
 ·refine Ac.gy (Rg:=(RD [(c0.row,c0.ty)] E6 102 (c0.sl 0) b1.ix.val (b1.ix.val + 30))) (fun h7=>?_) (fun h7=>?_)
  ·refine Ac.cw (e:=vI) (Rg:=(RD [(c0.row,c0.ty)] E6 102 (c0.sl 0) b1.ix.val (b1.ix.val + 30))) [0,4] 1 (Uw _ _ _ _ _ _ _ (by first | omega | (simp only [Ad,Aj] at *; omega))) (Ep (c0.calm) (Ep (by kernel_rfl) rfl)) fun r8 hr8 kr8=>?_
   exact Ac.dr (by kernel_rfl) (by kernel_rfl) (by first | omega | (simp only [Ad,Aj] at *; omega))
  ·exact Ac.dr (by kernel_rfl) (by kernel_rfl) (by first | omega | (simp only [Ad,Aj] at *; omega))
theorem Jk (a0 : Aq) (a1 : Aq) (a2 : Aq) : Br Tryz.prog 38 [] #[vI a0,vI a1,vI a2] (vB (Bz a0 a1 a2)) []:=by
 refine Br.ofH 400 Az mixed Tryz.func38 (by kernel_rfl) (by kernel_rfl) ?_
 unfold Bz
 refine Ac.y (gv:=vB) (fun _=>?_) (fun _=>?_)
 ·refine Ac.z [true,true,true] ?_
  exact Ac.x 0
 ·refine Ac.z [false,false,false] ?_
  exact Ac.x 0
theorem fZ (c0 : Cd) (b1 : Je) (a0 : Aq) (ps : 0 ≤ b1.ix.val ∧ b1.ix.val + 60 ≤ 1000000000) : Gh Tryz.prog 27 [(c0.row,c0.ty)] [K7 102 (c0.sl 0) b1.ix b1.sd] #[.pointer (some ⟨1,0,none⟩),vI a0] (Ry L8 102 (c0.sl 0) b1.ix.val (b1.ix.val + 60) (G3 c0 b1 a0)):=by
 refine Gh.drew (fun _ _=>rfl) (Ep (c0.calm) rfl) (by kernel_rfl) (If.of 400 Az mixed Tryz.func27 (by kernel_rfl) ?_)
 show Ac _ _ ((RD [(c0.row,c0.ty)] L8 102 (c0.sl 0) b1.ix.val (b1.ix.val + 60)) (G3 c0 b1 a0)) _
 unfold G3
 refine Ac.cw (e:=E6) (Rg:=(RD [(c0.row,c0.ty)] L8 102 (c0.sl 0) b1.ix.val (b1.ix.val + 60))) [0] 1 (Jz _ _ (by first | omega | (simp only [Ad,Aj] at *; omega))) (Ep (c0.calm) rfl) fun r1 hr1 kr1=>?_
 refine Ac.gy (Rg:=(RD [(c0.row,c0.ty)] L8 102 (c0.sl 0) b1.ix.val (b1.ix.val + 60))) (fun h2=>?_) (fun h2=>?_)
 ·refine Ac.z [true,true,true] ?_
  refine Ac.cw (e:=vI) (Rg:=(RD [(c0.row,c0.ty)] L8 102 (c0.sl 0) b1.ix.val (b1.ix.val + 60))) [0] 1 (Bq _ _ _ (by first | omega | (simp only [Ad,Aj] at *; omega))) (Ep (c0.calm) rfl) fun r3 hr3 kr3=>?_
  exact Ac.dr (by kernel_rfl) (by kernel_rfl) (by first | omega | (simp only [Ad,Aj] at *; omega))
 ·refine Ac.z [false,false] ?_
  refine Ac.gy (Rg:=(RD [(c0.row,c0.ty)] L8 102 (c0.sl 0) b1.ix.val (b1.ix.val + 60))) (fun h4=>?_) (fun h4=>?_)
  ·refine Ac.cw (e:=vI) (Rg:=(RD [(c0.row,c0.ty)] L8 102 (c0.sl 0) b1.ix.val (b1.ix.val + 60))) [0] 1 (Bq _ _ _ (by first | omega | (simp only [Ad,Aj] at *; omega))) (Ep (c0.calm) rfl) fun r5 hr5 kr5=>?_
   exact Ac.dr (by kernel_rfl) (by kernel_rfl) (by first | omega | (simp only [Ad,Aj] at *; omega))
  ·refine Ac.gq (Rg:=(RD [(c0.row,c0.ty)] L8 102 (c0.sl 0) b1.ix.val (b1.ix.val + 60))) (e:=vB) (Jk _ _ _) fun r6 hr6=>?_
   refine Ac.gy (Rg:=(RD [(c0.row,c0.ty)] L8 102 (c0.sl 0) b1.ix.val (b1.ix.val + 60))) (fun h7=>?_) (fun h7=>?_)
   ·refine Ac.z [true,true,true] ?_
    refine Ac.cw (e:=E6) (Rg:=(RD [(c0.row,c0.ty)] L8 102 (c0.sl 0) b1.ix.val (b1.ix.val + 60))) [0] 1 (Jz _ _ (by first | omega | (simp only [Ad,Aj] at *; omega))) (Ep (c0.calm) rfl) fun r8 hr8 kr8=>?_
    exact Ac.dr (by kernel_rfl) (by kernel_rfl) (by first | omega | (simp only [Ad,Aj] at *; omega))
   ·refine Ac.z [false,false] ?_
    refine Ac.gy (Rg:=(RD [(c0.row,c0.ty)] L8 102 (c0.sl 0) b1.ix.val (b1.ix.val + 60))) (fun h9=>?_) (fun h9=>?_)
    ·refine Ac.cw (e:=E6) (Rg:=(RD [(c0.row,c0.ty)] L8 102 (c0.sl 0) b1.ix.val (b1.ix.val + 60))) [0] 1 (Jz _ _ (by first | omega | (simp only [Ad,Aj] at *; omega))) (Ep (c0.calm) rfl) fun r10 hr10 kr10=>?_
     exact Ac.dr (by kernel_rfl) (by kernel_rfl) (by first | omega | (simp only [Ad,Aj] at *; omega))
    ·refine Ac.gq (Rg:=(RD [(c0.row,c0.ty)] L8 102 (c0.sl 0) b1.ix.val (b1.ix.val + 60))) (e:=vB) (Jk _ _ _) fun r11 hr11=>?_
     refine Ac.gy (Rg:=(RD [(c0.row,c0.ty)] L8 102 (c0.sl 0) b1.ix.val (b1.ix.val + 60))) (fun h12=>?_) (fun h12=>?_)
     ·refine Ac.cw (e:=vI) (Rg:=(RD [(c0.row,c0.ty)] L8 102 (c0.sl 0) b1.ix.val (b1.ix.val + 60))) [0] 1 (Bq _ _ _ (by first | omega | (simp only [Ad,Aj] at *; omega))) (Ep (c0.calm) rfl) fun r13 hr13 kr13=>?_
      refine Ac.cw (e:=vI) (Rg:=(RD [(c0.row,c0.ty)] L8 102 (c0.sl 0) b1.ix.val (b1.ix.val + 60))) [0] 1 (Bq _ _ _ (by first | omega | (simp only [Ad,Aj] at *; omega))) (Ep (c0.calm) rfl) fun r14 hr14 kr14=>?_
      refine Ac.cw (e:=vI) (Rg:=(RD [(c0.row,c0.ty)] L8 102 (c0.sl 0) b1.ix.val (b1.ix.val + 60))) [0] 1 (Bq _ _ _ (by first | omega | (simp only [Ad,Aj] at *; omega))) (Ep (c0.calm) rfl) fun r15 hr15 kr15=>?_
      refine Ac.cw (e:=vB) (Rg:=(RD [(c0.row,c0.ty)] L8 102 (c0.sl 0) b1.ix.val (b1.ix.val + 60))) [0] 1 (G5 _ _ _ (by first | omega | (simp only [Ad,Aj] at *; omega))) (Ep (c0.calm) rfl) fun r16 hr16 kr16=>?_
      refine Ac.gy (Rg:=(RD [(c0.row,c0.ty)] L8 102 (c0.sl 0) b1.ix.val (b1.ix.val + 60))) (fun h17=>?_) (fun h17=>?_)
      ·refine Ac.cw (e:=vB) (Rg:=(RD [(c0.row,c0.ty)] L8 102 (c0.sl 0) b1.ix.val (b1.ix.val + 60))) [0] 1 (G5 _ _ _ (by first | omega | (simp only [Ad,Aj] at *; omega))) (Ep (c0.calm) rfl) fun r18 hr18 kr18=>?_
       refine Ac.gy (Rg:=(RD [(c0.row,c0.ty)] L8 102 (c0.sl 0) b1.ix.val (b1.ix.val + 60))) (fun h19=>?_) (fun h19=>?_)
       ·exact Ac.dr (by kernel_rfl) (by kernel_rfl) (by first | omega | (simp only [Ad,Aj] at *; omega))
       ·exact Ac.dr (by kernel_rfl) (by kernel_rfl) (by first | omega | (simp only [Ad,Aj] at *; omega))
      ·refine Ac.cw (e:=vB) (Rg:=(RD [(c0.row,c0.ty)] L8 102 (c0.sl 0) b1.ix.val (b1.ix.val + 60))) [0] 1 (G5 _ _ _ (by first | omega | (simp only [Ad,Aj] at *; omega))) (Ep (c0.calm) rfl) fun r20 hr20 kr20=>?_
       refine Ac.gy (Rg:=(RD [(c0.row,c0.ty)] L8 102 (c0.sl 0) b1.ix.val (b1.ix.val + 60))) (fun h21=>?_) (fun h21=>?_)
       ·exact Ac.dr (by kernel_rfl) (by kernel_rfl) (by first | omega | (simp only [Ad,Aj] at *; omega))
       ·exact Ac.dr (by kernel_rfl) (by kernel_rfl) (by first | omega | (simp only [Ad,Aj] at *; omega))
     ·exact Ac.dr (by kernel_rfl) (by kernel_rfl) (by first | omega | (simp only [Ad,Aj] at *; omega))
theorem S3 (a0 : Pt) : Br Tryz.prog 31 [] #[E6 a0] (vB (B4 a0)) []:=by
 refine Br.ofH 400 Az mixed Tryz.func31 (by kernel_rfl) (by kernel_rfl) ?_
 unfold B4
 refine Ac.q (e:=vB) (gv:=vB) (Jk _ _ _) fun r1 _=>?_
 refine Ac.y (gv:=vB) (fun _=>?_) (fun _=>?_)
 ·refine Ac.z [true,true] ?_
  refine Ac.q (e:=vB) (gv:=vB) (Jk _ _ _) fun r2 _=>?_
  refine Ac.z [true] ?_
  exact Ac.x 0
 ·refine Ac.z [false,false,false] ?_
  exact Ac.x 0
theorem Xx (a0 : Aq) : Br Tryz.prog 87 [] #[vI a0] (vB (G2 a0)) []:=by
 refine Br.ofH 400 Az mixed Tryz.func87 (by kernel_rfl) (by kernel_rfl) ?_
 unfold G2
 refine Ac.q (e:=vB) (gv:=vB) (Jk _ _ _) fun r1 _=>?_
 exact Ac.x 0
theorem rM (a0 : Pj) : Br Tryz.prog 29 [] #[L8 a0] (vB (Hc a0)) []:=by
 refine Br.ofH 400 Az mixed Tryz.func29 (by kernel_rfl) (by kernel_rfl) ?_
 unfold Hc
 refine Ac.q (e:=vB) (gv:=vB) (S3 _) fun r1 _=>?_
 refine Ac.y (gv:=vB) (fun _=>?_) (fun _=>?_)
 ·refine Ac.z [true,true,true,true,true,true,true,true,true,true] ?_
  exact Ac.x 0
 ·refine Ac.z [false,false] ?_
  refine Ac.q (e:=vB) (gv:=vB) (Xx _) fun r2 _=>?_
  refine Ac.z [false,false] ?_
  refine Ac.y (gv:=vB) (fun _=>?_) (fun _=>?_)
  ·refine Ac.z [true,true,true,true,true] ?_
   exact Ac.x 0
  ·refine Ac.z [false,false] ?_
   refine Ac.q (e:=vB) (gv:=vB) (Xx _) fun r3 _=>?_
   refine Ac.z [false,false] ?_
   refine Ac.y (gv:=vB) (fun _=>?_) (fun _=>?_)
   ·exact Ac.x 0
   ·refine Ac.y (gv:=vB) (fun _=>?_) (fun _=>?_)
    ·refine Ac.z [true] ?_
     refine Ac.y (gv:=vB) (fun _=>?_) (fun _=>?_)
     ·refine Ac.z [true,true,true] ?_
      exact Ac.x 0
     ·refine Ac.z [false,false,false] ?_
      exact Ac.x 0
    ·refine Ac.y (gv:=vB) (fun _=>?_) (fun _=>?_)
     ·refine Ac.y (gv:=vB) (fun _=>?_) (fun _=>?_)
      ·refine Ac.z [true,true,true] ?_
       exact Ac.x 0
      ·refine Ac.z [false,false,false] ?_
       exact Ac.x 0
     ·refine Ac.y (gv:=vB) (fun _=>?_) (fun _=>?_)
      ·refine Ac.z [true] ?_
       refine Ac.y (gv:=vB) (fun _=>?_) (fun _=>?_)
       ·refine Ac.z [true,true,true] ?_
        refine Ac.y (gv:=vB) (fun _=>?_) (fun _=>?_)
        ·refine Ac.z [true,true,true] ?_
         exact Ac.x 0
        ·refine Ac.z [false,false,false] ?_
         exact Ac.x 0
       ·refine Ac.z [false,false,false,false,false,false,false] ?_
        exact Ac.x 0
      ·refine Ac.y (gv:=vB) (fun _=>?_) (fun _=>?_)
       ·refine Ac.z [true] ?_
        refine Ac.y (gv:=vB) (fun _=>?_) (fun _=>?_)
        ·refine Ac.z [true,true,true] ?_
         refine Ac.y (gv:=vB) (fun _=>?_) (fun _=>?_)
         ·refine Ac.z [true,true,true] ?_
          exact Ac.x 0
         ·refine Ac.z [false,false,false] ?_
          exact Ac.x 0
        ·refine Ac.z [false,false,false,false,false,false,false] ?_
         exact Ac.x 0
       ·refine Ac.y (gv:=vB) (fun _=>?_) (fun _=>?_)
        ·refine Ac.z [true] ?_
         refine Ac.y (gv:=vB) (fun _=>?_) (fun _=>?_)
         ·refine Ac.z [true,true,true] ?_
          refine Ac.y (gv:=vB) (fun _=>?_) (fun _=>?_)
          ·refine Ac.z [true,true,true] ?_
           exact Ac.x 0
          ·refine Ac.z [false,false,false] ?_
           exact Ac.x 0
         ·refine Ac.z [false,false,false,false,false,false,false] ?_
          exact Ac.x 0
        ·refine Ac.y (gv:=vB) (fun _=>?_) (fun _=>?_)
         ·refine Ac.z [true] ?_
          refine Ac.y (gv:=vB) (fun _=>?_) (fun _=>?_)
          ·refine Ac.z [true,true,true] ?_
           refine Ac.y (gv:=vB) (fun _=>?_) (fun _=>?_)
           ·refine Ac.z [true,true,true] ?_
            exact Ac.x 0
           ·refine Ac.z [false,false,false] ?_
            exact Ac.x 0
          ·refine Ac.z [false,false,false,false,false,false,false] ?_
           exact Ac.x 0
         ·refine Ac.y (gv:=vB) (fun _=>?_) (fun _=>?_)
          ·refine Ac.y (gv:=vB) (fun _=>?_) (fun _=>?_)
           ·refine Ac.z [true,true,true] ?_
            refine Ac.y (gv:=vB) (fun _=>?_) (fun _=>?_)
            ·refine Ac.z [true,true,true] ?_
             exact Ac.x 0
            ·refine Ac.z [false,false,false] ?_
             exact Ac.x 0
           ·refine Ac.z [false,false,false,false,false,false,false] ?_
            exact Ac.x 0
          ·refine Ac.y (gv:=vB) (fun _=>?_) (fun _=>?_)
           ·refine Ac.z [true] ?_
            refine Ac.y (gv:=vB) (fun _=>?_) (fun _=>?_)
            ·refine Ac.z [true,true,true] ?_
             exact Ac.x 0
            ·refine Ac.z [false,false,false] ?_
             exact Ac.x 0
           ·refine Ac.y (gv:=vB) (fun _=>?_) (fun _=>?_)
            ·refine Ac.z [true] ?_
             refine Ac.y (gv:=vB) (fun _=>?_) (fun _=>?_)
             ·refine Ac.z [true,true,true] ?_
              exact Ac.x 0
             ·refine Ac.z [false,false,false] ?_
              exact Ac.x 0
            ·refine Ac.y (gv:=vB) (fun _=>?_) (fun _=>?_)
             ·refine Ac.z [true] ?_
              refine Ac.y (gv:=vB) (fun _=>?_) (fun _=>?_)
              ·refine Ac.z [true,true,true] ?_
               exact Ac.x 0
              ·refine Ac.z [false,false,false] ?_
               exact Ac.x 0
             ·refine Ac.y (gv:=vB) (fun _=>?_) (fun _=>?_)
              ·refine Ac.z [true] ?_
               refine Ac.y (gv:=vB) (fun _=>?_) (fun _=>?_)
               ·refine Ac.z [true,true,true] ?_
                exact Ac.x 0
               ·refine Ac.z [false,false,false] ?_
                exact Ac.x 0
              ·refine Ac.y (gv:=vB) (fun _=>?_) (fun _=>?_)
               ·refine Ac.z [true] ?_
                refine Ac.y (gv:=vB) (fun _=>?_) (fun _=>?_)
                ·refine Ac.z [true,true,true] ?_
                 exact Ac.x 0
                ·refine Ac.z [false,false,false] ?_
                 exact Ac.x 0
               ·refine Ac.y (gv:=vB) (fun _=>?_) (fun _=>?_)
                ·refine Ac.y (gv:=vB) (fun _=>?_) (fun _=>?_)
                 ·refine Ac.z [true,true,true] ?_
                  exact Ac.x 0
                 ·refine Ac.z [false,false,false] ?_
                  exact Ac.x 0
                ·refine Ac.y (gv:=vB) (fun _=>?_) (fun _=>?_)
                 ·refine Ac.z [true] ?_
                  refine Ac.y (gv:=vB) (fun _=>?_) (fun _=>?_)
                  ·refine Ac.z [true,true] ?_
                   exact Ac.x 0
                  ·refine Ac.z [false,false] ?_
                   exact Ac.x 0
                 ·refine Ac.y (gv:=vB) (fun _=>?_) (fun _=>?_)
                  ·refine Ac.z [true] ?_
                   refine Ac.y (gv:=vB) (fun _=>?_) (fun _=>?_)
                   ·refine Ac.z [true,true] ?_
                    exact Ac.x 0
                   ·refine Ac.z [false,false] ?_
                    exact Ac.x 0
                  ·refine Ac.y (gv:=vB) (fun _=>?_) (fun _=>?_)
                   ·refine Ac.y (gv:=vB) (fun _=>?_) (fun _=>?_)
                    ·refine Ac.z [true,true] ?_
                     exact Ac.x 0
                    ·refine Ac.z [false,false] ?_
                     exact Ac.x 0
                   ·exact Ac.x 0
theorem Nz (c0 : Cd) (b1_0 : Aq) (b1_1 : Aq) (b1_2 : Aq) (b2 : Je) (ps : 0 ≤ b2.ix.val ∧ b2.ix.val + 2 ≤ 1000000000) : Gh Tryz.prog 91 [(c0.row,c0.ty),(#[.int .i64 b1_0.val,.int .i64 b1_1.val,.int .i64 b1_2.val],2)] [K7 102 (c0.sl 0) b2.ix b2.sd] #[.pointer (some ⟨2,0,none⟩),.slice (some ⟨1,0,none⟩) 3 3] (Ry vI 102 (c0.sl 0) b2.ix.val (b2.ix.val + 2) (Ee c0 b1_0 b1_1 b1_2 b2)):=by
 refine Gh.marks (args:=#[.pointer (some ⟨2,0,none⟩),.slice (some ⟨1,0,some 0⟩) 3 3]) (by kernel_rfl) ?_
 refine Gh.drew (fun _ _=>rfl) (Ep (c0.calm) (Ep (by kernel_rfl) rfl)) (by kernel_rfl) (If.of 400 Az mixed Tryz.func91 (by kernel_rfl) ?_)
 show Ac _ _ ((RD [(c0.row,c0.ty),(#[.int .i64 b1_0.val,.int .i64 b1_1.val,.int .i64 b1_2.val],2)] vI 102 (c0.sl 0) b2.ix.val (b2.ix.val + 2)) (Ee c0 b1_0 b1_1 b1_2 b2)) _
 unfold Ee
 refine Ac.cw (e:=vI) (Rg:=(RD [(c0.row,c0.ty),(#[.int .i64 b1_0.val,.int .i64 b1_1.val,.int .i64 b1_2.val],2)] vI 102 (c0.sl 0) b2.ix.val (b2.ix.val + 2))) [0] 2 (Bq _ _ _ (by first | omega | (simp only [Ad,Aj] at *; omega))) (Ep (c0.calm) rfl) fun r1 hr1 kr1=>?_
 refine Ac.k (c:=(decide (0 ≤ r1.1.val ∧ r1.1.val < 3))) (by kernel_rfl) (by rw [hr1]; first | exact decide_eq_true ⟨(Bv _ _ _).1,(Bv _ _ _).2 (by decide)⟩ | exact ⟨(Bv _ _ _).1,(Bv _ _ _).2 (by decide)⟩) ?_
 refine Ac.ld (by kernel_rfl) (O3 (L:=[b1_0,b1_1,b1_2]) (pad:=[]) (i:=r1.1) (by rw [hr1]; first | exact decide_eq_true ⟨(Bv _ _ _).1,(Bv _ _ _).2 (by decide)⟩ | exact ⟨(Bv _ _ _).1,(Bv _ _ _).2 (by decide)⟩)) ?_
 exact Ac.dr (by kernel_rfl) (by kernel_rfl) (by first | omega | (simp only [Ad,Aj] at *; omega))
theorem g6 (c0 : Cd) (b1 : Je) (ps : 0 ≤ b1.ix.val ∧ b1.ix.val + 34 ≤ 1000000000) : Gh Tryz.prog 88 [(c0.row,c0.ty)] [K7 102 (c0.sl 0) b1.ix b1.sd] #[.pointer (some ⟨1,0,none⟩)] (Ry E6 102 (c0.sl 0) b1.ix.val (b1.ix.val + 34) (Jq c0 b1)):=by
 refine Gh.drew (fun _ _=>rfl) (Ep (c0.calm) rfl) (by kernel_rfl) (If.of 400 Az mixed Tryz.func88 (by kernel_rfl) ?_)
 show Ac _ _ ((RD [(c0.row,c0.ty)] E6 102 (c0.sl 0) b1.ix.val (b1.ix.val + 34)) (Jq c0 b1)) _
 unfold Jq
 refine Ac.cw (e:=E6) (Rg:=(RD [(c0.row,c0.ty)] E6 102 (c0.sl 0) b1.ix.val (b1.ix.val + 34))) [0] 1 (Jz _ _ (by first | omega | (simp only [Ad,Aj] at *; omega))) (Ep (c0.calm) rfl) fun r1 hr1 kr1=>?_
 refine Ac.cw (e:=vI) (Rg:=(RD [(c0.row,c0.ty)] E6 102 (c0.sl 0) b1.ix.val (b1.ix.val + 34))) [0] 1 (Bq _ _ _ (by first | omega | (simp only [Ad,Aj] at *; omega))) (Ep (c0.calm) rfl) fun r2 hr2 kr2=>?_
 refine Ac.gy (Rg:=(RD [(c0.row,c0.ty)] E6 102 (c0.sl 0) b1.ix.val (b1.ix.val + 34))) (fun h3=>?_) (fun h3=>?_)
 ·refine Ac.cw (e:=vI) (Rg:=(RD [(c0.row,c0.ty)] E6 102 (c0.sl 0) b1.ix.val (b1.ix.val + 34))) [0,4] 1 (Nz _ _ _ _ _ (by first | omega | (simp only [Ad,Aj] at *; omega))) (Ep (c0.calm) (Ep (by kernel_rfl) rfl)) fun r4 hr4 kr4=>?_
  exact Ac.dr (by kernel_rfl) (by kernel_rfl) (by first | omega | (simp only [Ad,Aj] at *; omega))
 ·refine Ac.gy (Rg:=(RD [(c0.row,c0.ty)] E6 102 (c0.sl 0) b1.ix.val (b1.ix.val + 34))) (fun h5=>?_) (fun h5=>?_)
  ·refine Ac.cw (e:=vI) (Rg:=(RD [(c0.row,c0.ty)] E6 102 (c0.sl 0) b1.ix.val (b1.ix.val + 34))) [0,4] 1 (Nz _ _ _ _ _ (by first | omega | (simp only [Ad,Aj] at *; omega))) (Ep (c0.calm) (Ep (by kernel_rfl) rfl)) fun r6 hr6 kr6=>?_
   exact Ac.dr (by kernel_rfl) (by kernel_rfl) (by first | omega | (simp only [Ad,Aj] at *; omega))
  ·exact Ac.dr (by kernel_rfl) (by kernel_rfl) (by first | omega | (simp only [Ad,Aj] at *; omega))
theorem cB (a0 : Aq) : Br Tryz.prog 89 [] #[vI a0] (vI (Dw a0)) []:=by
 refine Br.ofH 400 Az mixed Tryz.func89 (by kernel_rfl) (by kernel_rfl) ?_
 unfold Dw
 refine Ac.q (e:=vB) (gv:=vI) (Jk _ _ _) fun r1 _=>?_
 refine Ac.y (gv:=vI) (fun _=>?_) (fun _=>?_)
 ·exact Ac.x 0
 ·refine Ac.q (e:=vB) (gv:=vI) (Jk _ _ _) fun r2 _=>?_
  refine Ac.y (gv:=vI) (fun _=>?_) (fun _=>?_)
  ·exact Ac.x 0
  ·refine Ac.q (e:=vB) (gv:=vI) (Jk _ _ _) fun r3 _=>?_
   refine Ac.y (gv:=vI) (fun _=>?_) (fun _=>?_)
   ·exact Ac.x 0
   ·refine Ac.q (e:=vB) (gv:=vI) (Jk _ _ _) fun r4 _=>?_
    refine Ac.y (gv:=vI) (fun _=>?_) (fun _=>?_)
    ·exact Ac.x 0
    ·refine Ac.y (gv:=vI) (fun _=>?_) (fun _=>?_)
     ·exact Ac.x 0
     ·exact Ac.x 0
theorem Ik (a0 : Aq) (a1 : Aq) : Br Tryz.prog 54 [] #[vI a0,vI a1] (vI (Cq a0 a1)) []:=by
 refine Br.ofH 400 Az mixed Tryz.func54 (by kernel_rfl) (by kernel_rfl) ?_
 unfold Cq
 refine Ac.y (gv:=vI) (fun _=>?_) (fun _=>?_)
 ·exact Ac.x 0
 ·exact Ac.x 0
theorem Gq (a0 : Aq) (a1 : Aq) : Br Tryz.prog 55 [] #[vI a0,vI a1] (vI (Cg a0 a1)) []:=by
 refine Br.ofH 400 Az mixed Tryz.func55 (by kernel_rfl) (by kernel_rfl) ?_
 unfold Cg
 refine Ac.y (gv:=vI) (fun _=>?_) (fun _=>?_)
 ·exact Ac.x 0
 ·exact Ac.x 0
theorem Xg (c0 : Cd) (b1 : Je) (a0 : Pj) (ps : 0 ≤ b1.ix.val ∧ b1.ix.val + 40 ≤ 1000000000) : Gh Tryz.prog 30 [(c0.row,c0.ty)] [K7 102 (c0.sl 0) b1.ix b1.sd] #[.pointer (some ⟨1,0,none⟩),L8 a0] (Ry E6 102 (c0.sl 0) b1.ix.val (b1.ix.val + 40) (Gy c0 b1 a0)):=by
 refine Gh.drew (fun _ _=>rfl) (Ep (c0.calm) rfl) (by kernel_rfl) (If.of 400 Az mixed Tryz.func30 (by kernel_rfl) ?_)
 show Ac _ _ ((RD [(c0.row,c0.ty)] E6 102 (c0.sl 0) b1.ix.val (b1.ix.val + 40)) (Gy c0 b1 a0)) _
 unfold Gy
 refine Ac.cw (e:=E6) (Rg:=(RD [(c0.row,c0.ty)] E6 102 (c0.sl 0) b1.ix.val (b1.ix.val + 40))) [0] 1 (g6 _ _ (by first | omega | (simp only [Ad,Aj] at *; omega))) (Ep (c0.calm) rfl) fun r1 hr1 kr1=>?_
 refine Ac.cw (e:=vB) (Rg:=(RD [(c0.row,c0.ty)] E6 102 (c0.sl 0) b1.ix.val (b1.ix.val + 40))) [0] 1 (G5 _ _ _ (by first | omega | (simp only [Ad,Aj] at *; omega))) (Ep (c0.calm) rfl) fun r2 hr2 kr2=>?_
 refine Ac.gy (Rg:=(RD [(c0.row,c0.ty)] E6 102 (c0.sl 0) b1.ix.val (b1.ix.val + 40))) (fun h3=>?_) (fun h3=>?_)
 ·refine Ac.z [true,true,true,true] ?_
  exact Ac.dr (by kernel_rfl) (by kernel_rfl) (by first | omega | (simp only [Ad,Aj] at *; omega))
 ·refine Ac.z [false] ?_
  refine Ac.gq (Rg:=(RD [(c0.row,c0.ty)] E6 102 (c0.sl 0) b1.ix.val (b1.ix.val + 40))) (e:=vB) (S3 _) fun r4 hr4=>?_
  refine Ac.z [false,false] ?_
  refine Ac.gy (Rg:=(RD [(c0.row,c0.ty)] E6 102 (c0.sl 0) b1.ix.val (b1.ix.val + 40))) (fun h5=>?_) (fun h5=>?_)
  ·exact Ac.dr (by kernel_rfl) (by kernel_rfl) (by first | omega | (simp only [Ad,Aj] at *; omega))
  ·refine Ac.gq (Rg:=(RD [(c0.row,c0.ty)] E6 102 (c0.sl 0) b1.ix.val (b1.ix.val + 40))) (e:=vI) (cB _) fun r6 hr6=>?_
   refine Ac.gy (Rg:=(RD [(c0.row,c0.ty)] E6 102 (c0.sl 0) b1.ix.val (b1.ix.val + 40))) (fun h7=>?_) (fun h7=>?_)
   ·refine Ac.cw (e:=vI) (Rg:=(RD [(c0.row,c0.ty)] E6 102 (c0.sl 0) b1.ix.val (b1.ix.val + 40))) [0] 1 (Bq _ _ _ (by first | omega | (simp only [Ad,Aj] at *; omega))) (Ep (c0.calm) rfl) fun r8 hr8 kr8=>?_
    refine Ac.o (by kernel_rfl) ?_ ?_
    ·refine Ac.gq (Rg:=(RD [(c0.row,c0.ty)] E6 102 (c0.sl 0) b1.ix.val (b1.ix.val + 40))) (e:=vI) (Ik _ _) fun r9 hr9=>?_
     refine Ac.o (by kernel_rfl) ?_ ?_
     ·refine Ac.gq (Rg:=(RD [(c0.row,c0.ty)] E6 102 (c0.sl 0) b1.ix.val (b1.ix.val + 40))) (e:=vI) (Gq _ _) fun r10 hr10=>?_
      refine Ac.o (by kernel_rfl) ?_ ?_
      ·refine Ac.cw (e:=vI) (Rg:=(RD [(c0.row,c0.ty)] E6 102 (c0.sl 0) b1.ix.val (b1.ix.val + 40))) [0] 1 (Bq _ _ _ (by first | omega | (simp only [Ad,Aj] at *; omega))) (Ep (c0.calm) rfl) fun r11 hr11 kr11=>?_
       refine Ac.gq (Rg:=(RD [(c0.row,c0.ty)] E6 102 (c0.sl 0) b1.ix.val (b1.ix.val + 40))) (e:=vI) (Fm _) fun r12 hr12=>?_
       exact Ac.dr (by kernel_rfl) (by kernel_rfl) (by first | omega | (simp only [Ad,Aj] at *; omega))
      ·refine Ac.cw (e:=vI) (Rg:=(RD [(c0.row,c0.ty)] E6 102 (c0.sl 0) b1.ix.val (b1.ix.val + 40))) [0] 1 (Bq _ _ _ (by first | omega | (simp only [Ad,Aj] at *; omega))) (Ep (c0.calm) rfl) fun r13 hr13 kr13=>?_
       refine Ac.gq (Rg:=(RD [(c0.row,c0.ty)] E6 102 (c0.sl 0) b1.ix.val (b1.ix.val + 40))) (e:=vI) (Fm _) fun r14 hr14=>?_
       exact Ac.dr (by kernel_rfl) (by kernel_rfl) (by first | omega | (simp only [Ad,Aj] at *; omega))
     ·refine Ac.gq (Rg:=(RD [(c0.row,c0.ty)] E6 102 (c0.sl 0) b1.ix.val (b1.ix.val + 40))) (e:=vI) (Gq _ _) fun r15 hr15=>?_
      refine Ac.cw (e:=vI) (Rg:=(RD [(c0.row,c0.ty)] E6 102 (c0.sl 0) b1.ix.val (b1.ix.val + 40))) [0] 1 (Bq _ _ _ (by first | omega | (simp only [Ad,Aj] at *; omega))) (Ep (c0.calm) rfl) fun r16 hr16 kr16=>?_
      refine Ac.gq (Rg:=(RD [(c0.row,c0.ty)] E6 102 (c0.sl 0) b1.ix.val (b1.ix.val + 40))) (e:=vI) (Fm _) fun r17 hr17=>?_
      exact Ac.dr (by kernel_rfl) (by kernel_rfl) (by first | omega | (simp only [Ad,Aj] at *; omega))
    ·refine Ac.gq (Rg:=(RD [(c0.row,c0.ty)] E6 102 (c0.sl 0) b1.ix.val (b1.ix.val + 40))) (e:=vI) (Ik _ _) fun r18 hr18=>?_
     refine Ac.gq (Rg:=(RD [(c0.row,c0.ty)] E6 102 (c0.sl 0) b1.ix.val (b1.ix.val + 40))) (e:=vI) (Gq _ _) fun r19 hr19=>?_
     refine Ac.cw (e:=vI) (Rg:=(RD [(c0.row,c0.ty)] E6 102 (c0.sl 0) b1.ix.val (b1.ix.val + 40))) [0] 1 (Bq _ _ _ (by first | omega | (simp only [Ad,Aj] at *; omega))) (Ep (c0.calm) rfl) fun r20 hr20 kr20=>?_
     refine Ac.gq (Rg:=(RD [(c0.row,c0.ty)] E6 102 (c0.sl 0) b1.ix.val (b1.ix.val + 40))) (e:=vI) (Fm _) fun r21 hr21=>?_
     exact Ac.dr (by kernel_rfl) (by kernel_rfl) (by first | omega | (simp only [Ad,Aj] at *; omega))
   ·refine Ac.cw (e:=vI) (Rg:=(RD [(c0.row,c0.ty)] E6 102 (c0.sl 0) b1.ix.val (b1.ix.val + 40))) [0] 1 (Bq _ _ _ (by first | omega | (simp only [Ad,Aj] at *; omega))) (Ep (c0.calm) rfl) fun r22 hr22 kr22=>?_
    refine Ac.o (by kernel_rfl) ?_ ?_
    ·refine Ac.gq (Rg:=(RD [(c0.row,c0.ty)] E6 102 (c0.sl 0) b1.ix.val (b1.ix.val + 40))) (e:=vI) (Ik _ _) fun r23 hr23=>?_
     refine Ac.o (by kernel_rfl) ?_ ?_
     ·refine Ac.gq (Rg:=(RD [(c0.row,c0.ty)] E6 102 (c0.sl 0) b1.ix.val (b1.ix.val + 40))) (e:=vI) (Gq _ _) fun r24 hr24=>?_
      refine Ac.o (by kernel_rfl) ?_ ?_
      ·refine Ac.cw (e:=vI) (Rg:=(RD [(c0.row,c0.ty)] E6 102 (c0.sl 0) b1.ix.val (b1.ix.val + 40))) [0] 1 (Bq _ _ _ (by first | omega | (simp only [Ad,Aj] at *; omega))) (Ep (c0.calm) rfl) fun r25 hr25 kr25=>?_
       refine Ac.gq (Rg:=(RD [(c0.row,c0.ty)] E6 102 (c0.sl 0) b1.ix.val (b1.ix.val + 40))) (e:=vI) (Fm _) fun r26 hr26=>?_
       exact Ac.dr (by kernel_rfl) (by kernel_rfl) (by first | omega | (simp only [Ad,Aj] at *; omega))
      ·refine Ac.cw (e:=vI) (Rg:=(RD [(c0.row,c0.ty)] E6 102 (c0.sl 0) b1.ix.val (b1.ix.val + 40))) [0] 1 (Bq _ _ _ (by first | omega | (simp only [Ad,Aj] at *; omega))) (Ep (c0.calm) rfl) fun r27 hr27 kr27=>?_
       refine Ac.gq (Rg:=(RD [(c0.row,c0.ty)] E6 102 (c0.sl 0) b1.ix.val (b1.ix.val + 40))) (e:=vI) (Fm _) fun r28 hr28=>?_
       exact Ac.dr (by kernel_rfl) (by kernel_rfl) (by first | omega | (simp only [Ad,Aj] at *; omega))
     ·refine Ac.gq (Rg:=(RD [(c0.row,c0.ty)] E6 102 (c0.sl 0) b1.ix.val (b1.ix.val + 40))) (e:=vI) (Gq _ _) fun r29 hr29=>?_
      refine Ac.cw (e:=vI) (Rg:=(RD [(c0.row,c0.ty)] E6 102 (c0.sl 0) b1.ix.val (b1.ix.val + 40))) [0] 1 (Bq _ _ _ (by first | omega | (simp only [Ad,Aj] at *; omega))) (Ep (c0.calm) rfl) fun r30 hr30 kr30=>?_
      refine Ac.gq (Rg:=(RD [(c0.row,c0.ty)] E6 102 (c0.sl 0) b1.ix.val (b1.ix.val + 40))) (e:=vI) (Fm _) fun r31 hr31=>?_
      exact Ac.dr (by kernel_rfl) (by kernel_rfl) (by first | omega | (simp only [Ad,Aj] at *; omega))
    ·refine Ac.gq (Rg:=(RD [(c0.row,c0.ty)] E6 102 (c0.sl 0) b1.ix.val (b1.ix.val + 40))) (e:=vI) (Ik _ _) fun r32 hr32=>?_
     refine Ac.gq (Rg:=(RD [(c0.row,c0.ty)] E6 102 (c0.sl 0) b1.ix.val (b1.ix.val + 40))) (e:=vI) (Gq _ _) fun r33 hr33=>?_
     refine Ac.cw (e:=vI) (Rg:=(RD [(c0.row,c0.ty)] E6 102 (c0.sl 0) b1.ix.val (b1.ix.val + 40))) [0] 1 (Bq _ _ _ (by first | omega | (simp only [Ad,Aj] at *; omega))) (Ep (c0.calm) rfl) fun r34 hr34 kr34=>?_
     refine Ac.gq (Rg:=(RD [(c0.row,c0.ty)] E6 102 (c0.sl 0) b1.ix.val (b1.ix.val + 40))) (e:=vI) (Fm _) fun r35 hr35=>?_
     exact Ac.dr (by kernel_rfl) (by kernel_rfl) (by first | omega | (simp only [Ad,Aj] at *; omega))
theorem g7 (c0 : Cd) (a0 : Aq) (a1 : Aq) : Br Tryz.prog 6 [(c0.row,c0.ty)] #[c0.sl 0,vI a0,vI a1] (Dy (Ff c0 a0 a1)) [(c0.row,c0.ty)]:=by
 refine Br.ofH 400 Az mixed Tryz.func6 (by kernel_rfl) (by kernel_rfl) ?_
 unfold Ff
 refine Ac.cf [0] (vO c0) (Ep (c0.calm) rfl) ?_
 refine Ac.cw (e:=vI) (Rg:=(fun b=>Ou [(c0.row,c0.ty)] (Dy b))) [0] 3 (Bq _ _ _ (by first | omega | (simp only [Ad,Aj] at *; omega))) (Ep (c0.calm) rfl) fun r1 hr1 kr1=>?_
 refine Ac.cw (e:=L8) (Rg:=(fun b=>Ou [(c0.row,c0.ty)] (Dy b))) [0] 3 (fZ _ _ _ (by first | omega | (simp only [Ad,Aj] at *; omega))) (Ep (c0.calm) rfl) fun r2 hr2 kr2=>?_
 refine Ac.q (e:=vB) (gv:=Dy) (rM _) fun r3 hr3=>?_
 refine Ac.y (gv:=Dy) (fun h4=>?_) (fun h4=>?_)
 ·refine Ac.cw (e:=E6) (Rg:=(fun b=>Ou [(c0.row,c0.ty)] (Dy b))) [0] 3 (Xg _ _ _ (by first | omega | (simp only [Ad,Aj] at *; omega))) (Ep (c0.calm) rfl) fun r5 hr5 kr5=>?_
  refine Ac.q (e:=vB) (gv:=Dy) (S3 _) fun r6 hr6=>?_
  refine Ac.y (gv:=Dy) (fun h7=>?_) (fun h7=>?_)
  ·refine Ac.cw (e:=E6) (Rg:=(fun b=>Ou [(c0.row,c0.ty)] (Dy b))) [0] 3 (Jz _ _ (by first | omega | (simp only [Ad,Aj] at *; omega))) (Ep (c0.calm) rfl) fun r8 hr8 kr8=>?_
   exact Ac.x 1
  ·exact Ac.x 1
 ·refine Ac.cw (e:=E6) (Rg:=(fun b=>Ou [(c0.row,c0.ty)] (Dy b))) [0] 3 (Xg _ _ _ (by first | omega | (simp only [Ad,Aj] at *; omega))) (Ep (c0.calm) rfl) fun r9 hr9 kr9=>?_
  refine Ac.q (e:=vB) (gv:=Dy) (S3 _) fun r10 hr10=>?_
  refine Ac.y (gv:=Dy) (fun h11=>?_) (fun h11=>?_)
  ·refine Ac.cw (e:=E6) (Rg:=(fun b=>Ou [(c0.row,c0.ty)] (Dy b))) [0] 3 (Jz _ _ (by first | omega | (simp only [Ad,Aj] at *; omega))) (Ep (c0.calm) rfl) fun r12 hr12 kr12=>?_
   exact Ac.x 1
  ·exact Ac.x 1
theorem G7 : Br Tryz.prog 39 [] #[] (Af (Aw)) []:=by
 refine Br.ofH 400 Az mixed Tryz.func39 (by kernel_rfl) (by kernel_rfl) ?_
 unfold Aw
 exact Ac.x 0
theorem Nw (a0 : Iv) : Br Tryz.prog 51 [] #[Af a0] (vB (Am a0)) []:=by
 refine Br.ofH 400 Az mixed Tryz.func51 (by kernel_rfl) (by kernel_rfl) ?_
 unfold Am
 refine Ac.y (gv:=vB) (fun _=>?_) (fun _=>?_)
 ·refine Ac.z [true,true,true,true,true] ?_
  refine Ac.y (gv:=vB) (fun _=>?_) (fun _=>?_)
  ·refine Ac.z [true,true,true] ?_
   exact Ac.x 0
  ·refine Ac.z [false,false,false] ?_
   exact Ac.x 0
 ·refine Ac.z [false,false,false,false,false,false,false,false,false] ?_
  exact Ac.x 0
theorem iW (a0 : Aq) (a1 : Aq) : Br Tryz.prog 40 [] #[vI a0,vI a1] (Af (C0 a0 a1)) []:=by
 refine Br.ofH 400 Az mixed Tryz.func40 (by kernel_rfl) (by kernel_rfl) ?_
 unfold C0
 refine Ac.q (e:=vB) (gv:=Af) (Nw _) fun r1 _=>?_
 refine Ac.y (gv:=Af) (fun _=>?_) (fun _=>?_)
 ·refine Ac.q (e:=Af) (gv:=Af) (G7) fun r2 _=>?_
  exact Ac.x 0
 ·exact Ac.x 0
theorem iY (a0 : Aq) : Br Tryz.prog 10 [] #[vI a0] (Af (Ao a0)) []:=by
 refine Br.ofH 400 Az mixed Tryz.func10 (by kernel_rfl) (by kernel_rfl) ?_
 unfold Ao
 refine Ac.q (e:=vB) (gv:=Af) (Jk _ _ _) fun r1 _=>?_
 refine Ac.y (gv:=Af) (fun _=>?_) (fun _=>?_)
 ·refine Ac.q (e:=Af) (gv:=Af) (G7) fun r2 _=>?_
  exact Ac.x 0
 ·refine Ac.q (e:=Af) (gv:=Af) (iW _ _) fun r3 _=>?_
  exact Ac.x 0
theorem Adg (a0 : Iv) (a1 : Iv) : Br Tryz.prog 37 [] #[Af a0,Af a1] (Dz (Io a0 a1)) []:=by
 refine Br.ofH 400 Az mixed Tryz.func37 (by kernel_rfl) (by kernel_rfl) ?_
 unfold Io
 refine Ac.q (e:=vB) (gv:=Dz) (Nw _) fun r1 _=>?_
 refine Ac.y (gv:=Dz) (fun _=>?_) (fun _=>?_)
 ·refine Ac.z [true] ?_
  refine Ac.q (e:=vB) (gv:=Dz) (Nw _) fun r2 _=>?_
  refine Ac.z [true,true] ?_
  refine Ac.y (gv:=Dz) (fun _=>?_) (fun _=>?_)
  ·refine Ac.q (e:=Af) (gv:=Dz) (G7) fun r3 _=>?_
   exact Ac.x 0
  ·refine Ac.q (e:=vB) (gv:=Dz) (Nw _) fun r4 _=>?_
   refine Ac.y (gv:=Dz) (fun _=>?_) (fun _=>?_)
   ·exact Ac.x 0
   ·refine Ac.q (e:=vB) (gv:=Dz) (Nw _) fun r5 _=>?_
    refine Ac.y (gv:=Dz) (fun _=>?_) (fun _=>?_)
    ·exact Ac.x 0
    ·refine Ac.q (e:=vI) (gv:=Dz) (Gq _ _) fun r6 _=>?_
     refine Ac.q (e:=vI) (gv:=Dz) (Ik _ _) fun r7 _=>?_
     refine Ac.y (gv:=Dz) (fun _=>?_) (fun _=>?_)
     ·exact Ac.x 0
     ·exact Ac.x 0
 ·refine Ac.z [false,false,false,false] ?_
  refine Ac.q (e:=vB) (gv:=Dz) (Nw _) fun r8 _=>?_
  refine Ac.y (gv:=Dz) (fun _=>?_) (fun _=>?_)
  ·exact Ac.x 0
  ·refine Ac.q (e:=vB) (gv:=Dz) (Nw _) fun r9 _=>?_
   refine Ac.y (gv:=Dz) (fun _=>?_) (fun _=>?_)
   ·exact Ac.x 0
   ·refine Ac.q (e:=vI) (gv:=Dz) (Gq _ _) fun r10 _=>?_
    refine Ac.q (e:=vI) (gv:=Dz) (Ik _ _) fun r11 _=>?_
    refine Ac.y (gv:=Dz) (fun _=>?_) (fun _=>?_)
    ·exact Ac.x 0
    ·exact Ac.x 0
theorem Ec (a0 : Iv) (a1 : Iv) : Br Tryz.prog 9 [] #[Af a0,Af a1] (vB (Bx a0 a1)) []:=by
 refine Br.ofH 400 Az mixed Tryz.func9 (by kernel_rfl) (by kernel_rfl) ?_
 unfold Bx
 refine Ac.q (e:=Dz) (gv:=vB) (Adg _ _) fun r1 _=>?_
 exact Ac.x 0
theorem cG (a0 : Aq) : Br Tryz.prog 119 [] #[vI a0] (vB (B7 a0)) []:=by
 refine Br.ofH 400 Az mixed Tryz.func119 (by kernel_rfl) (by kernel_rfl) ?_
 unfold B7
 refine Ac.q (e:=vB) (gv:=vB) (Jk _ _ _) fun r1 _=>?_
 exact Ac.x 0
theorem iX (a0 : Aq) : Br Tryz.prog 247 [] #[vI a0] (vU (Gu a0)) []:=by
 refine Br.ofH 400 Az mixed Tryz.func247 (by kernel_rfl) (by kernel_rfl) ?_
 unfold Gu
 refine Ac.y (gv:=vU) (fun _=>?_) (fun _=>?_)
 ·exact Ac.x 0
 ·exact Ac.x 0
theorem rN (a0 : Dp) (a1 : Dp) : Br Tryz.prog 246 [] #[vU a0,vU a1] (K6 (Ce a0 a1)) []:=by
 refine Br.ofH 400 Az mixed Tryz.func246 (by kernel_rfl) (by kernel_rfl) ?_
 unfold Ce
 refine Ac.z [true,true,true,true,true,true,true] ?_
 exact Ac.x 0
theorem rP (a0 : Wd) : Br Tryz.prog 248 [] #[Qa a0] (Qa (Db a0)) []:=by
 refine Br.ofH 400 Az mixed Tryz.func248 (by kernel_rfl) (by kernel_rfl) ?_
 unfold Db
 refine Ac.y (gv:=Qa) (fun _=>?_) (fun _=>?_)
 ·exact Ac.x 0
 ·exact Ac.x 0
theorem Aae (a0 : Aq) (a1 : Aq) : Br Tryz.prog 199 [] #[vI a0,vI a1] (Qa (A3 a0 a1)) []:=by
 refine Br.ofH 400 Az mixed Tryz.func199 (by kernel_rfl) (by kernel_rfl) ?_
 unfold A3
 refine Ac.q (e:=vU) (gv:=Qa) (iX _) fun r1 _=>?_
 refine Ac.q (e:=vU) (gv:=Qa) (iX _) fun r2 _=>?_
 refine Ac.q (e:=K6) (gv:=Qa) (rN _ _) fun r3 _=>?_
 refine Ac.y (gv:=Qa) (fun _=>?_) (fun _=>?_)
 ·refine Ac.q (e:=Qa) (gv:=Qa) (rP _) fun r4 _=>?_
  exact Ac.x 0
 ·exact Ac.x 0
theorem rO (a0 : Wd) (a1 : Aq) : Br Tryz.prog 198 [] #[Qa a0,vI a1] (Qa (D9 a0 a1)) []:=by
 refine Br.ofH 400 Az mixed Tryz.func198 (by kernel_rfl) (by kernel_rfl) ?_
 unfold D9
 refine Ac.y (gv:=Qa) (fun h1=>?_) (fun h1=>?_)
 ·exact Ac.x 0
 ·refine Ac.y (gv:=Qa) (fun h2=>?_) (fun h2=>?_)
  ·refine Ac.k (c:=(decide (0 ≤ (Ak a1.val).val))) (by kernel_rfl) (by simp only [Ad,At,Aj,Bt,decide_eq_true_eq,decide_eq_false_iff_not,cond_true,cond_false] at *; omega) ?_
   refine Ac.k (c:=(decide (0 ≤ (Ak a1.val).val))) (by kernel_rfl) (by simp only [Ad,At,Aj,Bt,decide_eq_true_eq,decide_eq_false_iff_not,cond_true,cond_false] at *; omega) ?_
   refine Ac.k (c:=(decide (0 ≤ (Ak (An (64 - a1.val)).val).val))) (by kernel_rfl) (by simp only [Ad,At,Aj,Bt,decide_eq_true_eq,decide_eq_false_iff_not,cond_true,cond_false] at *; omega) ?_
   exact Ac.x 0
  ·refine Ac.z [true] ?_
   refine Ac.k (c:=(decide (0 ≤ (Ak (An (a1.val - 64)).val).val))) (by kernel_rfl) (by simp only [Ad,At,Aj,Bt,decide_eq_true_eq,decide_eq_false_iff_not,cond_true,cond_false] at *; omega) ?_
   exact Ac.x 0
theorem Adf (a0 : Aq) : Br Tryz.prog 245 [] #[vI a0] (Qa (I5 a0)) []:=by
 refine Br.ofH 400 Az mixed Tryz.func245 (by kernel_rfl) (by kernel_rfl) ?_
 unfold I5
 refine Ac.y (gv:=Qa) (fun _=>?_) (fun _=>?_)
 ·exact Ac.x 0
 ·exact Ac.x 0
theorem Aaf (a0 : Wd) : Br Tryz.prog 197 [] #[Qa a0] (Ax (Ke a0)) []:=by
 refine Br.ofH 400 Az mixed Tryz.func197 (by kernel_rfl) (by kernel_rfl) ?_
 unfold Ke
 refine Ac.q (e:=Qa) (gv:=Ax) (Adf _) fun r1 _=>?_
 refine Ac.y (gv:=Ax) (fun _=>?_) (fun _=>?_)
 ·exact Ac.x 0
 ·exact Ac.x 0
theorem rQ (a0 : Aq) (a1 : Aq) (a2 : Aq) : Br Tryz.prog 120 [] #[vI a0,vI a1,vI a2] (Ax (Ei a0 a1 a2)) []:=by
 refine Br.ofH 400 Az mixed Tryz.func120 (by kernel_rfl) (by kernel_rfl) ?_
 unfold Ei
 refine Ac.q (e:=vB) (gv:=Ax) (Jk _ _ _) fun r1 _=>?_
 refine Ac.y (gv:=Ax) (fun _=>?_) (fun _=>?_)
 ·exact Ac.x 0
 ·refine Ac.q (e:=Qa) (gv:=Ax) (Aae _ _) fun r2 _=>?_
  refine Ac.q (e:=Qa) (gv:=Ax) (rO _ _) fun r3 _=>?_
  refine Ac.q (e:=Ax) (gv:=Ax) (Aaf _) fun r4 _=>?_
  exact Ac.x 0
theorem Aad (a0 : Aq) (a1 : Bool) : Br Tryz.prog 121 [] #[vI a0,vB a1] (Ax (Fu a0 a1)) []:=by
 refine Br.ofH 400 Az mixed Tryz.func121 (by kernel_rfl) (by kernel_rfl) ?_
 unfold Fu
 refine Ac.y (gv:=Ax) (fun _=>?_) (fun _=>?_)
 ·refine Ac.z [true,true,true,true] ?_
  exact Ac.x 0
 ·refine Ac.z [false] ?_
  refine Ac.q (e:=vB) (gv:=Ax) (cG _) fun r1 _=>?_
  refine Ac.z [false,false] ?_
  refine Ac.y (gv:=Ax) (fun _=>?_) (fun _=>?_)
  ·exact Ac.x 0
  ·exact Ac.x 0
theorem Nx (a0 : Aq) (a1 : Aq) : Br Tryz.prog 52 [] #[vI a0,vI a1] (Ax (Bb a0 a1)) []:=by
 refine Br.ofH 400 Az mixed Tryz.func52 (by kernel_rfl) (by kernel_rfl) ?_
 unfold Bb
 refine Ac.q (e:=vB) (gv:=Ax) (cG _) fun r1 _=>?_
 refine Ac.y (gv:=Ax) (fun _=>?_) (fun _=>?_)
 ·refine Ac.z [true,true,true,true] ?_
  exact Ac.x 0
 ·refine Ac.z [false] ?_
  refine Ac.q (e:=vB) (gv:=Ax) (cG _) fun r2 _=>?_
  refine Ac.z [false,false] ?_
  refine Ac.y (gv:=Ax) (fun _=>?_) (fun _=>?_)
  ·exact Ac.x 0
  ·refine Ac.q (e:=Ax) (gv:=Ax) (rQ _ _ _) fun r3 _=>?_
   refine Ac.q (e:=Ax) (gv:=Ax) (Aad _ _) fun r4 _=>?_
   exact Ac.x 0
theorem Ud (a0 : Aq) (a1 : Aq) : Br Tryz.prog 53 [] #[vI a0,vI a1] (Ax (Ca a0 a1)) []:=by
 refine Br.ofH 400 Az mixed Tryz.func53 (by kernel_rfl) (by kernel_rfl) ?_
 unfold Ca
 refine Ac.q (e:=Ax) (gv:=Ax) (Nx _ _) fun r1 _=>?_
 refine Ac.q (e:=vB) (gv:=Ax) (cG _) fun r2 _=>?_
 refine Ac.y (gv:=Ax) (fun _=>?_) (fun _=>?_)
 ·refine Ac.z [true,true,true] ?_
  exact Ac.x 0
 ·refine Ac.z [false,false] ?_
  refine Ac.y (gv:=Ax) (fun _=>?_) (fun _=>?_)
  ·exact Ac.x 0
  ·exact Ac.x 0
theorem Oc (a0 : Iv) (a1 : Iv) : Br Tryz.prog 14 [] #[Af a0,Af a1] (Af (Ay a0 a1)) []:=by
 refine Br.ofH 400 Az mixed Tryz.func14 (by kernel_rfl) (by kernel_rfl) ?_
 unfold Ay
 refine Ac.q (e:=vB) (gv:=Af) (Nw _) fun r1 _=>?_
 refine Ac.y (gv:=Af) (fun _=>?_) (fun _=>?_)
 ·refine Ac.z [true,true,true,true] ?_
  refine Ac.q (e:=Af) (gv:=Af) (G7) fun r2 _=>?_
  exact Ac.x 0
 ·refine Ac.z [false] ?_
  refine Ac.q (e:=vB) (gv:=Af) (Nw _) fun r3 _=>?_
  refine Ac.z [false,false] ?_
  refine Ac.y (gv:=Af) (fun _=>?_) (fun _=>?_)
  ·refine Ac.q (e:=Af) (gv:=Af) (G7) fun r4 _=>?_
   exact Ac.x 0
  ·refine Ac.u 400 Az mixed Tryz.func14 ?_
   refine Ac.z [true] ?_
   refine Ac.u 400 Az mixed Tryz.func14 ?_
   refine Ac.z [true,true,true] ?_
   refine Ac.q (e:=Ax) (gv:=Af) (Nx _ _) fun r5 _=>?_
   refine Ac.z [true,true] ?_
   refine Ac.q (e:=Ax) (gv:=Af) (Ud _ _) fun r6 _=>?_
   refine Ac.y (gv:=Af) (fun _=>?_) (fun _=>?_)
   ·refine Ac.z [true,true,true] ?_
    refine Ac.q (e:=Af) (gv:=Af) (G7) fun r7 _=>?_
    exact Ac.x 0
   ·refine Ac.z [false,false] ?_
    refine Ac.y (gv:=Af) (fun _=>?_) (fun _=>?_)
    ·refine Ac.q (e:=Af) (gv:=Af) (G7) fun r8 _=>?_
     exact Ac.x 0
    ·refine Ac.q (e:=vI) (gv:=Af) (Ik _ _) fun r9 _=>?_
     refine Ac.q (e:=vI) (gv:=Af) (Gq _ _) fun r10 _=>?_
     refine Ac.u 400 Az mixed Tryz.func14 ?_
     refine Ac.z [true,true,true] ?_
     refine Ac.q (e:=Ax) (gv:=Af) (Nx _ _) fun r11 _=>?_
     refine Ac.z [true,true] ?_
     refine Ac.q (e:=Ax) (gv:=Af) (Ud _ _) fun r12 _=>?_
     refine Ac.y (gv:=Af) (fun _=>?_) (fun _=>?_)
     ·refine Ac.z [true,true,true] ?_
      refine Ac.q (e:=Af) (gv:=Af) (G7) fun r13 _=>?_
      exact Ac.x 0
     ·refine Ac.z [false,false] ?_
      refine Ac.y (gv:=Af) (fun _=>?_) (fun _=>?_)
      ·refine Ac.q (e:=Af) (gv:=Af) (G7) fun r14 _=>?_
       exact Ac.x 0
      ·refine Ac.q (e:=vI) (gv:=Af) (Ik _ _) fun r15 _=>?_
       refine Ac.q (e:=vI) (gv:=Af) (Gq _ _) fun r16 _=>?_
       refine Ac.u 400 Az mixed Tryz.func14 ?_
       refine Ac.z [false] ?_
       refine Ac.u 400 Az mixed Tryz.func14 ?_
       refine Ac.z [true] ?_
       refine Ac.u 400 Az mixed Tryz.func14 ?_
       refine Ac.z [true,true,true] ?_
       refine Ac.q (e:=Ax) (gv:=Af) (Nx _ _) fun r17 _=>?_
       refine Ac.z [true,true] ?_
       refine Ac.q (e:=Ax) (gv:=Af) (Ud _ _) fun r18 _=>?_
       refine Ac.y (gv:=Af) (fun _=>?_) (fun _=>?_)
       ·refine Ac.z [true,true,true] ?_
        refine Ac.q (e:=Af) (gv:=Af) (G7) fun r19 _=>?_
        exact Ac.x 0
       ·refine Ac.z [false,false] ?_
        refine Ac.y (gv:=Af) (fun _=>?_) (fun _=>?_)
        ·refine Ac.q (e:=Af) (gv:=Af) (G7) fun r20 _=>?_
         exact Ac.x 0
        ·refine Ac.q (e:=vI) (gv:=Af) (Ik _ _) fun r21 _=>?_
         refine Ac.q (e:=vI) (gv:=Af) (Gq _ _) fun r22 _=>?_
         refine Ac.u 400 Az mixed Tryz.func14 ?_
         refine Ac.z [true,true,true] ?_
         refine Ac.q (e:=Ax) (gv:=Af) (Nx _ _) fun r23 _=>?_
         refine Ac.z [true,true] ?_
         refine Ac.q (e:=Ax) (gv:=Af) (Ud _ _) fun r24 _=>?_
         refine Ac.y (gv:=Af) (fun _=>?_) (fun _=>?_)
         ·refine Ac.z [true,true,true] ?_
          refine Ac.q (e:=Af) (gv:=Af) (G7) fun r25 _=>?_
          exact Ac.x 0
         ·refine Ac.z [false,false] ?_
          refine Ac.y (gv:=Af) (fun _=>?_) (fun _=>?_)
          ·refine Ac.q (e:=Af) (gv:=Af) (G7) fun r26 _=>?_
           exact Ac.x 0
          ·refine Ac.q (e:=vI) (gv:=Af) (Ik _ _) fun r27 _=>?_
           refine Ac.q (e:=vI) (gv:=Af) (Gq _ _) fun r28 _=>?_
           refine Ac.u 400 Az mixed Tryz.func14 ?_
           refine Ac.z [false] ?_
           refine Ac.u 400 Az mixed Tryz.func14 ?_
           refine Ac.z [false] ?_
           refine Ac.q (e:=Af) (gv:=Af) (iW _ _) fun r29 _=>?_
           exact Ac.x 0
theorem Aac (a0 : Iv) (a1 : Aq) : Br Tryz.prog 62 [] #[Af a0,vI a1] (vB (I1 a0 a1)) []:=by
 refine Br.ofH 400 Az mixed Tryz.func62 (by kernel_rfl) (by kernel_rfl) ?_
 unfold I1
 refine Ac.q (e:=vB) (gv:=vB) (Jk _ _ _) fun r1 _=>?_
 exact Ac.x 0
theorem Hb (a0 : Iv) (a1 : Aq) : Br Tryz.prog 16 [] #[Af a0,vI a1] (vB (Dx a0 a1)) []:=by
 refine Br.ofH 400 Az mixed Tryz.func16 (by kernel_rfl) (by kernel_rfl) ?_
 unfold Dx
 refine Ac.q (e:=vB) (gv:=vB) (Nw _) fun r1 _=>?_
 refine Ac.y (gv:=vB) (fun _=>?_) (fun _=>?_)
 ·refine Ac.z [true,true,true] ?_
  exact Ac.x 0
 ·refine Ac.z [false,false] ?_
  refine Ac.q (e:=vB) (gv:=vB) (Aac _ _) fun r2 _=>?_
  refine Ac.z [false] ?_
  exact Ac.x 0
theorem oJ : Gh Tryz.prog 26 [] [] #[(.slice none 0 0)] (fun v Y=>v = .pointer (some ⟨0,0,none⟩) ∧ Y = [K7 102 (.slice none 0 0) (Ah 0) (Eu 0)]):=Wy.none (by decide) Zy
theorem Ea (b1 : Je) (ps : 0 ≤ b1.ix.val ∧ b1.ix.val + 1 ≤ 1000000000) : Gh Tryz.prog 86 [] [K7 102 (.slice none 0 0) b1.ix b1.sd] #[.pointer (some ⟨0,0,none⟩)] (Ry vI 102 (.slice none 0 0) b1.ix.val (b1.ix.val + 1) (Be Cd.nil b1)):=by
 refine Gh.drew (fun _ _=>rfl) rfl (by kernel_rfl) (If.of 400 Az mixed Tryz.func86 (by kernel_rfl) ?_)
 show Ac _ _ ((RD [] vI 102 (.slice none 0 0) b1.ix.val (b1.ix.val + 1)) (Be Cd.nil b1)) _
 unfold Be
 refine Ac.gn (Rg:=(RD [] vI 102 (.slice none 0 0) b1.ix.val (b1.ix.val + 1))) (c:=(decide (b1.ix.val < (((Cd.nil.L.length : Nat) : Int))))) (by kernel_rfl) (by refine decide_eq_false ?_; show ¬ (b1.ix.val < 0); omega) ?_
 refine Ac.gy (Rg:=(RD [] vI 102 (.slice none 0 0) b1.ix.val (b1.ix.val + 1))) (fun h1=>?_) (fun h1=>?_)
 ·exact Ac.dr (by kernel_rfl) (by kernel_rfl) (by first | omega | (simp only [Ad,Aj] at *; omega))
 ·refine Ac.z [true] ?_
  exact Ac.dr (by kernel_rfl) (by kernel_rfl) (by first | omega | (simp only [Ad,Aj] at *; omega))
theorem Bf (b1 : Je) (a0 : Aq) (ps : 0 ≤ b1.ix.val ∧ b1.ix.val + 2 ≤ 1000000000) : Gh Tryz.prog 28 [] [K7 102 (.slice none 0 0) b1.ix b1.sd] #[.pointer (some ⟨0,0,none⟩),vI a0] (Ry vI 102 (.slice none 0 0) b1.ix.val (b1.ix.val + 2) (A9 Cd.nil b1 a0)):=by
 refine Gh.drew (fun _ _=>rfl) rfl (by kernel_rfl) (If.of 400 Az mixed Tryz.func28 (by kernel_rfl) ?_)
 show Ac _ _ ((RD [] vI 102 (.slice none 0 0) b1.ix.val (b1.ix.val + 2)) (A9 Cd.nil b1 a0)) _
 unfold A9
 refine Ac.gy (Rg:=(RD [] vI 102 (.slice none 0 0) b1.ix.val (b1.ix.val + 2))) (fun h1=>?_) (fun h1=>?_)
 ·exact Ac.dr (by kernel_rfl) (by kernel_rfl) (by first | omega | (simp only [Ad,Aj] at *; omega))
 ·refine Ac.cw (e:=vI) (Rg:=(RD [] vI 102 (.slice none 0 0) b1.ix.val (b1.ix.val + 2))) [] 0 (Ea _ (by first | omega | (simp only [Ad,Aj] at *; omega))) rfl fun r2 hr2 kr2=>?_
  refine Ac.gy (Rg:=(RD [] vI 102 (.slice none 0 0) b1.ix.val (b1.ix.val + 2))) (fun h3=>?_) (fun h3=>?_)
  ·refine Ac.cw (e:=vI) (Rg:=(RD [] vI 102 (.slice none 0 0) b1.ix.val (b1.ix.val + 2))) [] 0 (Ea _ (by first | omega | (simp only [Ad,Aj] at *; omega))) rfl fun r4 hr4 kr4=>?_
   refine Ac.k (c:=(decide (a0.val ≠ 0))) (by kernel_rfl) (by simp only [Ad,At,Aj,Bt,decide_eq_true_eq,decide_eq_false_iff_not,cond_true,cond_false] at *; omega) ?_
   exact Ac.dr (by kernel_rfl) (by kernel_rfl) (by first | omega | (simp only [Ad,Aj] at *; omega))
  ·refine Ac.k (c:=(decide (a0.val ≠ 0))) (by kernel_rfl) (by simp only [Ad,At,Aj,Bt,decide_eq_true_eq,decide_eq_false_iff_not,cond_true,cond_false] at *; omega) ?_
   exact Ac.dr (by kernel_rfl) (by kernel_rfl) (by first | omega | (simp only [Ad,Aj] at *; omega))
theorem Fz (b1 : Je) (a0 : Aq) (ps : 0 ≤ b1.ix.val ∧ b1.ix.val + 2 ≤ 1000000000) : Gh Tryz.prog 85 [] [K7 102 (.slice none 0 0) b1.ix b1.sd] #[.pointer (some ⟨0,0,none⟩),vI a0] (Ry vB 102 (.slice none 0 0) b1.ix.val (b1.ix.val + 2) (D0 Cd.nil b1 a0)):=by
 refine Gh.drew (fun _ _=>rfl) rfl (by kernel_rfl) (If.of 400 Az mixed Tryz.func85 (by kernel_rfl) ?_)
 show Ac _ _ ((RD [] vB 102 (.slice none 0 0) b1.ix.val (b1.ix.val + 2)) (D0 Cd.nil b1 a0)) _
 unfold D0
 refine Ac.cw (e:=vI) (Rg:=(RD [] vB 102 (.slice none 0 0) b1.ix.val (b1.ix.val + 2))) [] 0 (Bf _ _ (by first | omega | (simp only [Ad,Aj] at *; omega))) rfl fun r1 hr1 kr1=>?_
 exact Ac.dr (by kernel_rfl) (by kernel_rfl) (by first | omega | (simp only [Ad,Aj] at *; omega))
theorem L9 (b1_0 : Aq) (b1_1 : Aq) (b1_2 : Aq) (b1_3 : Aq) (b2 : Je) (ps : 0 ≤ b2.ix.val ∧ b2.ix.val + 2 ≤ 1000000000) : Gh Tryz.prog 91 [(#[.int .i64 b1_0.val,.int .i64 b1_1.val,.int .i64 b1_2.val,.int .i64 b1_3.val],2)] [K7 102 (.slice none 0 0) b2.ix b2.sd] #[.pointer (some ⟨1,0,none⟩),.slice (some ⟨0,0,none⟩) 4 4] (Ry vI 102 (.slice none 0 0) b2.ix.val (b2.ix.val + 2) (Dj Cd.nil b1_0 b1_1 b1_2 b1_3 b2)):=by
 refine Gh.marks (args:=#[.pointer (some ⟨1,0,none⟩),.slice (some ⟨0,0,some 0⟩) 4 4]) (by kernel_rfl) ?_
 refine Gh.drew (fun _ _=>rfl) (Ep (by kernel_rfl) rfl) (by kernel_rfl) (If.of 400 Az mixed Tryz.func91 (by kernel_rfl) ?_)
 show Ac _ _ ((RD [(#[.int .i64 b1_0.val,.int .i64 b1_1.val,.int .i64 b1_2.val,.int .i64 b1_3.val],2)] vI 102 (.slice none 0 0) b2.ix.val (b2.ix.val + 2)) (Dj Cd.nil b1_0 b1_1 b1_2 b1_3 b2)) _
 unfold Dj
 refine Ac.cw (e:=vI) (Rg:=(RD [(#[.int .i64 b1_0.val,.int .i64 b1_1.val,.int .i64 b1_2.val,.int .i64 b1_3.val],2)] vI 102 (.slice none 0 0) b2.ix.val (b2.ix.val + 2))) [] 1 (Bf _ _ (by first | omega | (simp only [Ad,Aj] at *; omega))) rfl fun r1 hr1 kr1=>?_
 refine Ac.k (c:=(decide (0 ≤ r1.1.val ∧ r1.1.val < 4))) (by kernel_rfl) (by rw [hr1]; first | exact decide_eq_true ⟨(Bv _ _ _).1,(Bv _ _ _).2 (by decide)⟩ | exact ⟨(Bv _ _ _).1,(Bv _ _ _).2 (by decide)⟩) ?_
 refine Ac.ld (by kernel_rfl) (O3 (L:=[b1_0,b1_1,b1_2,b1_3]) (pad:=[]) (i:=r1.1) (by rw [hr1]; first | exact decide_eq_true ⟨(Bv _ _ _).1,(Bv _ _ _).2 (by decide)⟩ | exact ⟨(Bv _ _ _).1,(Bv _ _ _).2 (by decide)⟩)) ?_
 exact Ac.dr (by kernel_rfl) (by kernel_rfl) (by first | omega | (simp only [Ad,Aj] at *; omega))
end Go.Proofs.YtfhnlkinjbakgaaGreat.Abs
