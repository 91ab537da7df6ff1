/- The program's functions are these; part 2 (written by w.py). -/
import Derived.Test.YtfhnlkinjbakgaaGreatSsE
import Derived.Test.YtfhnlkinjbakgaaGreatSsF3
import Derived.Test.YtfhnlkinjbakgaaGreatSsQpre
import Derived.Test.YtfhnlkinjbakgaaGreatSsK1
set_option linter.unusedVariables false
set_option linter.unusedSimpArgs false
namespace Go.Proofs.YtfhnlkinjbakgaaGreat.Abs
open Go Go.RowKit
theorem R8 (b1 : Je) (a0 : Aq) (p0 : 0 ≤ a0.val) (p1 : a0.val < 9223372036854775807) (ps : 0 ≤ b1.ix.val ∧ b1.ix.val + 13 ≤ 1000000000) : Gh Tryz.prog 64 [] [K7 102 (.slice none 0 0) b1.ix b1.sd] #[.pointer (some ⟨0,0,none⟩),vI a0] (Ry vI 102 (.slice none 0 0) b1.ix.val (b1.ix.val + 13) (D5 Cd.nil b1 a0)):=by
 refine Gh.drew (fun _ _=>rfl) rfl (by kernel_rfl) (If.of 400 Az mixed Tryz.func64 (by kernel_rfl) ?_)
 show Ac _ _ ((RD [] vI 102 (.slice none 0 0) b1.ix.val (b1.ix.val + 13)) (D5 Cd.nil b1 a0)) _
 unfold D5
 refine Ac.u 400 Az mixed Tryz.func64 ?_
 refine Ac.z [true,true] ?_
 refine Ac.cw (e:=vI) (Rg:=(RD [] vI 102 (.slice none 0 0) b1.ix.val (b1.ix.val + 13))) [] 0 (Ea _ (by first | omega | (simp only [Ad,Aj] at *; omega))) rfl fun r1 hr1 kr1=>?_
 refine Ac.u 400 Az mixed Tryz.func64 ?_
 refine Ac.z [true,true] ?_
 refine Ac.cw (e:=vI) (Rg:=(RD [] vI 102 (.slice none 0 0) b1.ix.val (b1.ix.val + 13))) [] 0 (Ea _ (by first | omega | (simp only [Ad,Aj] at *; omega))) rfl fun r2 hr2 kr2=>?_
 refine Ac.u 400 Az mixed Tryz.func64 ?_
 refine Ac.z [true,true] ?_
 refine Ac.cw (e:=vI) (Rg:=(RD [] vI 102 (.slice none 0 0) b1.ix.val (b1.ix.val + 13))) [] 0 (Ea _ (by first | omega | (simp only [Ad,Aj] at *; omega))) rfl fun r3 hr3 kr3=>?_
 refine Ac.u 400 Az mixed Tryz.func64 ?_
 refine Ac.z [true,true] ?_
 refine Ac.cw (e:=vI) (Rg:=(RD [] vI 102 (.slice none 0 0) b1.ix.val (b1.ix.val + 13))) [] 0 (Ea _ (by first | omega | (simp only [Ad,Aj] at *; omega))) rfl fun r4 hr4 kr4=>?_
 refine Ac.u 400 Az mixed Tryz.func64 ?_
 refine Ac.z [true,true] ?_
 refine Ac.cw (e:=vI) (Rg:=(RD [] vI 102 (.slice none 0 0) b1.ix.val (b1.ix.val + 13))) [] 0 (Ea _ (by first | omega | (simp only [Ad,Aj] at *; omega))) rfl fun r5 hr5 kr5=>?_
 refine Ac.u 400 Az mixed Tryz.func64 ?_
 refine Ac.z [true,true] ?_
 refine Ac.cw (e:=vI) (Rg:=(RD [] vI 102 (.slice none 0 0) b1.ix.val (b1.ix.val + 13))) [] 0 (Ea _ (by first | omega | (simp only [Ad,Aj] at *; omega))) rfl fun r6 hr6 kr6=>?_
 refine Ac.u 400 Az mixed Tryz.func64 ?_
 refine Ac.z [true,true] ?_
 refine Ac.cw (e:=vI) (Rg:=(RD [] vI 102 (.slice none 0 0) b1.ix.val (b1.ix.val + 13))) [] 0 (Ea _ (by first | omega | (simp only [Ad,Aj] at *; omega))) rfl fun r7 hr7 kr7=>?_
 refine Ac.u 400 Az mixed Tryz.func64 ?_
 refine Ac.z [false] ?_
 refine Ac.k (c:=(decide ((An (a0.val + 1)).val ≠ 0))) (by kernel_rfl) (by simp only [Ad,At,Aj,Bt,decide_eq_true_eq,decide_eq_false_iff_not,cond_true,cond_false] at *; omega) ?_
 refine Ac.cw (e:=vI) (Rg:=(RD [] vI 102 (.slice none 0 0) b1.ix.val (b1.ix.val + 13))) [] 0 (Bf _ _ (by first | omega | (simp only [Ad,Aj] at *; omega))) rfl fun r8 hr8 kr8=>?_
 refine Ac.gy (Rg:=(RD [] vI 102 (.slice none 0 0) b1.ix.val (b1.ix.val + 13))) (fun h9=>?_) (fun h9=>?_)
 ·refine Ac.cw (e:=vI) (Rg:=(RD [] vI 102 (.slice none 0 0) b1.ix.val (b1.ix.val + 13))) [] 0 (Bf _ _ (by first | omega | (simp only [Ad,Aj] at *; omega))) rfl fun r10 hr10 kr10=>?_
  refine Ac.k (c:=(decide (0 ≤ (Ak r10.1.val).val))) (by kernel_rfl) (by simp only [Ad,At,Aj,Bt,decide_eq_true_eq,decide_eq_false_iff_not,cond_true,cond_false] at *; omega) ?_
  refine Ac.cw (e:=vB) (Rg:=(RD [] vI 102 (.slice none 0 0) b1.ix.val (b1.ix.val + 13))) [] 0 (Fz _ _ (by first | omega | (simp only [Ad,Aj] at *; omega))) rfl fun r11 hr11 kr11=>?_
  refine Ac.gy (Rg:=(RD [] vI 102 (.slice none 0 0) b1.ix.val (b1.ix.val + 13))) (fun h12=>?_) (fun h12=>?_)
  ·exact Ac.dr (by kernel_rfl) (by kernel_rfl) (by first | omega | (simp only [Ad,Aj] at *; omega))
  ·exact Ac.dr (by kernel_rfl) (by kernel_rfl) (by first | omega | (simp only [Ad,Aj] at *; omega))
 ·refine Ac.gy (Rg:=(RD [] vI 102 (.slice none 0 0) b1.ix.val (b1.ix.val + 13))) (fun h13=>?_) (fun h13=>?_)
  ·refine Ac.z [true] ?_
   refine Ac.cw (e:=vI) (Rg:=(RD [] vI 102 (.slice none 0 0) b1.ix.val (b1.ix.val + 13))) [1] 0 (L9 _ _ _ _ _ (by first | omega | (simp only [Ad,Aj] at *; omega))) (Ep (by kernel_rfl) rfl) fun r14 hr14 kr14=>?_
   refine Ac.cw (e:=vB) (Rg:=(RD [] vI 102 (.slice none 0 0) b1.ix.val (b1.ix.val + 13))) [] 0 (Fz _ _ (by first | omega | (simp only [Ad,Aj] at *; omega))) rfl fun r15 hr15 kr15=>?_
   refine Ac.gy (Rg:=(RD [] vI 102 (.slice none 0 0) b1.ix.val (b1.ix.val + 13))) (fun h16=>?_) (fun h16=>?_)
   ·exact Ac.dr (by kernel_rfl) (by kernel_rfl) (by first | omega | (simp only [Ad,Aj] at *; omega))
   ·exact Ac.dr (by kernel_rfl) (by kernel_rfl) (by first | omega | (simp only [Ad,Aj] at *; omega))
  ·refine Ac.cw (e:=vB) (Rg:=(RD [] vI 102 (.slice none 0 0) b1.ix.val (b1.ix.val + 13))) [] 0 (Fz _ _ (by first | omega | (simp only [Ad,Aj] at *; omega))) rfl fun r17 hr17 kr17=>?_
   refine Ac.gy (Rg:=(RD [] vI 102 (.slice none 0 0) b1.ix.val (b1.ix.val + 13))) (fun h18=>?_) (fun h18=>?_)
   ·exact Ac.dr (by kernel_rfl) (by kernel_rfl) (by first | omega | (simp only [Ad,Aj] at *; omega))
   ·exact Ac.dr (by kernel_rfl) (by kernel_rfl) (by first | omega | (simp only [Ad,Aj] at *; omega))
theorem S4 (b1_0 : Aq) (b1_1 : Aq) (b1_2 : Aq) (b1_3 : Aq) (b1_4 : Aq) (b2 : Je) (ps : 0 ≤ b2.ix.val ∧ b2.ix.val + 2 ≤ 1000000000) : Gh Tryz.prog 91 [(#[.int .i64 b1_0.val,.int .i64 b1_1.val,.int .i64 b1_2.val,.int .i64 b1_3.val,.int .i64 b1_4.val],2)] [K7 102 (.slice none 0 0) b2.ix b2.sd] #[.pointer (some ⟨1,0,none⟩),.slice (some ⟨0,0,none⟩) 5 5] (Ry vI 102 (.slice none 0 0) b2.ix.val (b2.ix.val + 2) (Ed Cd.nil b1_0 b1_1 b1_2 b1_3 b1_4 b2)):=by
 refine Gh.marks (args:=#[.pointer (some ⟨1,0,none⟩),.slice (some ⟨0,0,some 0⟩) 5 5]) (by kernel_rfl) ?_
 refine Gh.drew (fun _ _=>rfl) (Ep (by kernel_rfl) rfl) (by kernel_rfl) (If.of 400 Az mixed Tryz.func91 (by kernel_rfl) ?_)
 show Ac _ _ ((RD [(#[.int .i64 b1_0.val,.int .i64 b1_1.val,.int .i64 b1_2.val,.int .i64 b1_3.val,.int .i64 b1_4.val],2)] vI 102 (.slice none 0 0) b2.ix.val (b2.ix.val + 2)) (Ed Cd.nil b1_0 b1_1 b1_2 b1_3 b1_4 b2)) _
 unfold Ed
 refine Ac.cw (e:=vI) (Rg:=(RD [(#[.int .i64 b1_0.val,.int .i64 b1_1.val,.int .i64 b1_2.val,.int .i64 b1_3.val,.int .i64 b1_4.val],2)] vI 102 (.slice none 0 0) b2.ix.val (b2.ix.val + 2))) [] 1 (Bf _ _ (by first | omega | (simp only [Ad,Aj] at *; omega))) rfl fun r1 hr1 kr1=>?_
 refine Ac.k (c:=(decide (0 ≤ r1.1.val ∧ r1.1.val < 5))) (by kernel_rfl) (by rw [hr1]; first | exact decide_eq_true ⟨(Bv _ _ _).1,(Bv _ _ _).2 (by decide)⟩ | exact ⟨(Bv _ _ _).1,(Bv _ _ _).2 (by decide)⟩) ?_
 refine Ac.ld (by kernel_rfl) (O3 (L:=[b1_0,b1_1,b1_2,b1_3,b1_4]) (pad:=[]) (i:=r1.1) (by rw [hr1]; first | exact decide_eq_true ⟨(Bv _ _ _).1,(Bv _ _ _).2 (by decide)⟩ | exact ⟨(Bv _ _ _).1,(Bv _ _ _).2 (by decide)⟩)) ?_
 exact Ac.dr (by kernel_rfl) (by kernel_rfl) (by first | omega | (simp only [Ad,Aj] at *; omega))
theorem Ij (b1 : Je) (ps : 0 ≤ b1.ix.val ∧ b1.ix.val + 30 ≤ 1000000000) : Gh Tryz.prog 32 [] [K7 102 (.slice none 0 0) b1.ix b1.sd] #[.pointer (some ⟨0,0,none⟩)] (Ry E6 102 (.slice none 0 0) b1.ix.val (b1.ix.val + 30) (Ek Cd.nil b1)):=by
 refine Gh.drew (fun _ _=>rfl) rfl (by kernel_rfl) (If.of 400 Az mixed Tryz.func32 (by kernel_rfl) ?_)
 show Ac _ _ ((RD [] E6 102 (.slice none 0 0) b1.ix.val (b1.ix.val + 30)) (Ek Cd.nil b1)) _
 unfold Ek
 refine Ac.cw (e:=vI) (Rg:=(RD [] E6 102 (.slice none 0 0) b1.ix.val (b1.ix.val + 30))) [] 0 (R8 _ _ (by simp only [Ad,At,Aj,Bt,decide_eq_true_eq,decide_eq_false_iff_not,cond_true,cond_false] at *; omega) (by simp only [Ad,At,Aj,Bt,decide_eq_true_eq,decide_eq_false_iff_not,cond_true,cond_false] at *; omega) (by first | omega | (simp only [Ad,Aj] at *; omega))) rfl fun r1 hr1 kr1=>?_
 refine Ac.cw (e:=vI) (Rg:=(RD [] E6 102 (.slice none 0 0) b1.ix.val (b1.ix.val + 30))) [] 0 (R8 _ _ (by simp only [Ad,At,Aj,Bt,decide_eq_true_eq,decide_eq_false_iff_not,cond_true,cond_false] at *; omega) (by simp only [Ad,At,Aj,Bt,decide_eq_true_eq,decide_eq_false_iff_not,cond_true,cond_false] at *; omega) (by first | omega | (simp only [Ad,Aj] at *; omega))) rfl fun r2 hr2 kr2=>?_
 refine Ac.gq (Rg:=(RD [] E6 102 (.slice none 0 0) b1.ix.val (b1.ix.val + 30))) (e:=vI) (Fm _) fun r3 hr3=>?_
 refine Ac.cw (e:=vI) (Rg:=(RD [] E6 102 (.slice none 0 0) b1.ix.val (b1.ix.val + 30))) [] 0 (Bf _ _ (by first | omega | (simp only [Ad,Aj] at *; omega))) rfl fun r4 hr4 kr4=>?_
 refine Ac.gy (Rg:=(RD [] E6 102 (.slice none 0 0) b1.ix.val (b1.ix.val + 30))) (fun h5=>?_) (fun h5=>?_)
 ·refine Ac.cw (e:=vI) (Rg:=(RD [] E6 102 (.slice none 0 0) b1.ix.val (b1.ix.val + 30))) [3] 0 (L9 _ _ _ _ _ (by first | omega | (simp only [Ad,Aj] at *; omega))) (Ep (by kernel_rfl) rfl) fun r6 hr6 kr6=>?_
  exact Ac.dr (by kernel_rfl) (by kernel_rfl) (by first | omega | (simp only [Ad,Aj] at *; omega))
 ·refine Ac.gy (Rg:=(RD [] E6 102 (.slice none 0 0) b1.ix.val (b1.ix.val + 30))) (fun h7=>?_) (fun h7=>?_)
  ·refine Ac.cw (e:=vI) (Rg:=(RD [] E6 102 (.slice none 0 0) b1.ix.val (b1.ix.val + 30))) [3] 0 (S4 _ _ _ _ _ _ (by first | omega | (simp only [Ad,Aj] at *; omega))) (Ep (by kernel_rfl) rfl) fun r8 hr8 kr8=>?_
   exact Ac.dr (by kernel_rfl) (by kernel_rfl) (by first | omega | (simp only [Ad,Aj] at *; omega))
  ·exact Ac.dr (by kernel_rfl) (by kernel_rfl) (by first | omega | (simp only [Ad,Aj] at *; omega))
theorem cD (b1 : Je) (a0 : Aq) (ps : 0 ≤ b1.ix.val ∧ b1.ix.val + 60 ≤ 1000000000) : Gh Tryz.prog 27 [] [K7 102 (.slice none 0 0) b1.ix b1.sd] #[.pointer (some ⟨0,0,none⟩),vI a0] (Ry L8 102 (.slice none 0 0) b1.ix.val (b1.ix.val + 60) (G3 Cd.nil b1 a0)):=by
 refine Gh.drew (fun _ _=>rfl) rfl (by kernel_rfl) (If.of 400 Az mixed Tryz.func27 (by kernel_rfl) ?_)
 show Ac _ _ ((RD [] L8 102 (.slice none 0 0) b1.ix.val (b1.ix.val + 60)) (G3 Cd.nil b1 a0)) _
 unfold G3
 refine Ac.cw (e:=E6) (Rg:=(RD [] L8 102 (.slice none 0 0) b1.ix.val (b1.ix.val + 60))) [] 0 (Ij _ (by first | omega | (simp only [Ad,Aj] at *; omega))) rfl fun r1 hr1 kr1=>?_
 refine Ac.gy (Rg:=(RD [] L8 102 (.slice none 0 0) b1.ix.val (b1.ix.val + 60))) (fun h2=>?_) (fun h2=>?_)
 ·refine Ac.z [true,true,true] ?_
  refine Ac.cw (e:=vI) (Rg:=(RD [] L8 102 (.slice none 0 0) b1.ix.val (b1.ix.val + 60))) [] 0 (Bf _ _ (by first | omega | (simp only [Ad,Aj] at *; omega))) rfl fun r3 hr3 kr3=>?_
  exact Ac.dr (by kernel_rfl) (by kernel_rfl) (by first | omega | (simp only [Ad,Aj] at *; omega))
 ·refine Ac.z [false,false] ?_
  refine Ac.gy (Rg:=(RD [] L8 102 (.slice none 0 0) b1.ix.val (b1.ix.val + 60))) (fun h4=>?_) (fun h4=>?_)
  ·refine Ac.cw (e:=vI) (Rg:=(RD [] L8 102 (.slice none 0 0) b1.ix.val (b1.ix.val + 60))) [] 0 (Bf _ _ (by first | omega | (simp only [Ad,Aj] at *; omega))) rfl fun r5 hr5 kr5=>?_
   exact Ac.dr (by kernel_rfl) (by kernel_rfl) (by first | omega | (simp only [Ad,Aj] at *; omega))
  ·refine Ac.gq (Rg:=(RD [] L8 102 (.slice none 0 0) b1.ix.val (b1.ix.val + 60))) (e:=vB) (Jk _ _ _) fun r6 hr6=>?_
   refine Ac.gy (Rg:=(RD [] L8 102 (.slice none 0 0) b1.ix.val (b1.ix.val + 60))) (fun h7=>?_) (fun h7=>?_)
   ·refine Ac.z [true,true,true] ?_
    refine Ac.cw (e:=E6) (Rg:=(RD [] L8 102 (.slice none 0 0) b1.ix.val (b1.ix.val + 60))) [] 0 (Ij _ (by first | omega | (simp only [Ad,Aj] at *; omega))) rfl fun r8 hr8 kr8=>?_
    exact Ac.dr (by kernel_rfl) (by kernel_rfl) (by first | omega | (simp only [Ad,Aj] at *; omega))
   ·refine Ac.z [false,false] ?_
    refine Ac.gy (Rg:=(RD [] L8 102 (.slice none 0 0) b1.ix.val (b1.ix.val + 60))) (fun h9=>?_) (fun h9=>?_)
    ·refine Ac.cw (e:=E6) (Rg:=(RD [] L8 102 (.slice none 0 0) b1.ix.val (b1.ix.val + 60))) [] 0 (Ij _ (by first | omega | (simp only [Ad,Aj] at *; omega))) rfl fun r10 hr10 kr10=>?_
     exact Ac.dr (by kernel_rfl) (by kernel_rfl) (by first | omega | (simp only [Ad,Aj] at *; omega))
    ·refine Ac.gq (Rg:=(RD [] L8 102 (.slice none 0 0) b1.ix.val (b1.ix.val + 60))) (e:=vB) (Jk _ _ _) fun r11 hr11=>?_
     refine Ac.gy (Rg:=(RD [] L8 102 (.slice none 0 0) b1.ix.val (b1.ix.val + 60))) (fun h12=>?_) (fun h12=>?_)
     ·refine Ac.cw (e:=vI) (Rg:=(RD [] L8 102 (.slice none 0 0) b1.ix.val (b1.ix.val + 60))) [] 0 (Bf _ _ (by first | omega | (simp only [Ad,Aj] at *; omega))) rfl fun r13 hr13 kr13=>?_
      refine Ac.cw (e:=vI) (Rg:=(RD [] L8 102 (.slice none 0 0) b1.ix.val (b1.ix.val + 60))) [] 0 (Bf _ _ (by first | omega | (simp only [Ad,Aj] at *; omega))) rfl fun r14 hr14 kr14=>?_
      refine Ac.cw (e:=vI) (Rg:=(RD [] L8 102 (.slice none 0 0) b1.ix.val (b1.ix.val + 60))) [] 0 (Bf _ _ (by first | omega | (simp only [Ad,Aj] at *; omega))) rfl fun r15 hr15 kr15=>?_
      refine Ac.cw (e:=vB) (Rg:=(RD [] L8 102 (.slice none 0 0) b1.ix.val (b1.ix.val + 60))) [] 0 (Fz _ _ (by first | omega | (simp only [Ad,Aj] at *; omega))) rfl fun r16 hr16 kr16=>?_
      refine Ac.gy (Rg:=(RD [] L8 102 (.slice none 0 0) b1.ix.val (b1.ix.val + 60))) (fun h17=>?_) (fun h17=>?_)
      ·refine Ac.cw (e:=vB) (Rg:=(RD [] L8 102 (.slice none 0 0) b1.ix.val (b1.ix.val + 60))) [] 0 (Fz _ _ (by first | omega | (simp only [Ad,Aj] at *; omega))) rfl fun r18 hr18 kr18=>?_
       refine Ac.gy (Rg:=(RD [] L8 102 (.slice none 0 0) b1.ix.val (b1.ix.val + 60))) (fun h19=>?_) (fun h19=>?_)
       ·exact Ac.dr (by kernel_rfl) (by kernel_rfl) (by first | omega | (simp only [Ad,Aj] at *; omega))
       ·exact Ac.dr (by kernel_rfl) (by kernel_rfl) (by first | omega | (simp only [Ad,Aj] at *; omega))
      ·refine Ac.cw (e:=vB) (Rg:=(RD [] L8 102 (.slice none 0 0) b1.ix.val (b1.ix.val + 60))) [] 0 (Fz _ _ (by first | omega | (simp only [Ad,Aj] at *; omega))) rfl fun r20 hr20 kr20=>?_
       refine Ac.gy (Rg:=(RD [] L8 102 (.slice none 0 0) b1.ix.val (b1.ix.val + 60))) (fun h21=>?_) (fun h21=>?_)
       ·exact Ac.dr (by kernel_rfl) (by kernel_rfl) (by first | omega | (simp only [Ad,Aj] at *; omega))
       ·exact Ac.dr (by kernel_rfl) (by kernel_rfl) (by first | omega | (simp only [Ad,Aj] at *; omega))
     ·exact Ac.dr (by kernel_rfl) (by kernel_rfl) (by first | omega | (simp only [Ad,Aj] at *; omega))
theorem Ma (b1_0 : Aq) (b1_1 : Aq) (b1_2 : Aq) (b2 : Je) (ps : 0 ≤ b2.ix.val ∧ b2.ix.val + 2 ≤ 1000000000) : Gh Tryz.prog 91 [(#[.int .i64 b1_0.val,.int .i64 b1_1.val,.int .i64 b1_2.val],2)] [K7 102 (.slice none 0 0) b2.ix b2.sd] #[.pointer (some ⟨1,0,none⟩),.slice (some ⟨0,0,none⟩) 3 3] (Ry vI 102 (.slice none 0 0) b2.ix.val (b2.ix.val + 2) (Ee Cd.nil b1_0 b1_1 b1_2 b2)):=by
 refine Gh.marks (args:=#[.pointer (some ⟨1,0,none⟩),.slice (some ⟨0,0,some 0⟩) 3 3]) (by kernel_rfl) ?_
 refine Gh.drew (fun _ _=>rfl) (Ep (by kernel_rfl) rfl) (by kernel_rfl) (If.of 400 Az mixed Tryz.func91 (by kernel_rfl) ?_)
 show Ac _ _ ((RD [(#[.int .i64 b1_0.val,.int .i64 b1_1.val,.int .i64 b1_2.val],2)] vI 102 (.slice none 0 0) b2.ix.val (b2.ix.val + 2)) (Ee Cd.nil b1_0 b1_1 b1_2 b2)) _
 unfold Ee
 refine Ac.cw (e:=vI) (Rg:=(RD [(#[.int .i64 b1_0.val,.int .i64 b1_1.val,.int .i64 b1_2.val],2)] vI 102 (.slice none 0 0) b2.ix.val (b2.ix.val + 2))) [] 1 (Bf _ _ (by first | omega | (simp only [Ad,Aj] at *; omega))) rfl fun r1 hr1 kr1=>?_
 refine Ac.k (c:=(decide (0 ≤ r1.1.val ∧ r1.1.val < 3))) (by kernel_rfl) (by rw [hr1]; first | exact decide_eq_true ⟨(Bv _ _ _).1,(Bv _ _ _).2 (by decide)⟩ | exact ⟨(Bv _ _ _).1,(Bv _ _ _).2 (by decide)⟩) ?_
 refine Ac.ld (by kernel_rfl) (O3 (L:=[b1_0,b1_1,b1_2]) (pad:=[]) (i:=r1.1) (by rw [hr1]; first | exact decide_eq_true ⟨(Bv _ _ _).1,(Bv _ _ _).2 (by decide)⟩ | exact ⟨(Bv _ _ _).1,(Bv _ _ _).2 (by decide)⟩)) ?_
 exact Ac.dr (by kernel_rfl) (by kernel_rfl) (by first | omega | (simp only [Ad,Aj] at *; omega))
theorem cF (b1 : Je) (ps : 0 ≤ b1.ix.val ∧ b1.ix.val + 34 ≤ 1000000000) : Gh Tryz.prog 88 [] [K7 102 (.slice none 0 0) b1.ix b1.sd] #[.pointer (some ⟨0,0,none⟩)] (Ry E6 102 (.slice none 0 0) b1.ix.val (b1.ix.val + 34) (Jq Cd.nil b1)):=by
 refine Gh.drew (fun _ _=>rfl) rfl (by kernel_rfl) (If.of 400 Az mixed Tryz.func88 (by kernel_rfl) ?_)
 show Ac _ _ ((RD [] E6 102 (.slice none 0 0) b1.ix.val (b1.ix.val + 34)) (Jq Cd.nil b1)) _
 unfold Jq
 refine Ac.cw (e:=E6) (Rg:=(RD [] E6 102 (.slice none 0 0) b1.ix.val (b1.ix.val + 34))) [] 0 (Ij _ (by first | omega | (simp only [Ad,Aj] at *; omega))) rfl fun r1 hr1 kr1=>?_
 refine Ac.cw (e:=vI) (Rg:=(RD [] E6 102 (.slice none 0 0) b1.ix.val (b1.ix.val + 34))) [] 0 (Bf _ _ (by first | omega | (simp only [Ad,Aj] at *; omega))) rfl fun r2 hr2 kr2=>?_
 refine Ac.gy (Rg:=(RD [] E6 102 (.slice none 0 0) b1.ix.val (b1.ix.val + 34))) (fun h3=>?_) (fun h3=>?_)
 ·refine Ac.cw (e:=vI) (Rg:=(RD [] E6 102 (.slice none 0 0) b1.ix.val (b1.ix.val + 34))) [3] 0 (Ma _ _ _ _ (by first | omega | (simp only [Ad,Aj] at *; omega))) (Ep (by kernel_rfl) rfl) fun r4 hr4 kr4=>?_
  exact Ac.dr (by kernel_rfl) (by kernel_rfl) (by first | omega | (simp only [Ad,Aj] at *; omega))
 ·refine Ac.gy (Rg:=(RD [] E6 102 (.slice none 0 0) b1.ix.val (b1.ix.val + 34))) (fun h5=>?_) (fun h5=>?_)
  ·refine Ac.cw (e:=vI) (Rg:=(RD [] E6 102 (.slice none 0 0) b1.ix.val (b1.ix.val + 34))) [3] 0 (Ma _ _ _ _ (by first | omega | (simp only [Ad,Aj] at *; omega))) (Ep (by kernel_rfl) rfl) fun r6 hr6 kr6=>?_
   exact Ac.dr (by kernel_rfl) (by kernel_rfl) (by first | omega | (simp only [Ad,Aj] at *; omega))
  ·exact Ac.dr (by kernel_rfl) (by kernel_rfl) (by first | omega | (simp only [Ad,Aj] at *; omega))
theorem Ub (b1 : Je) (a0 : Pj) (ps : 0 ≤ b1.ix.val ∧ b1.ix.val + 40 ≤ 1000000000) : Gh Tryz.prog 30 [] [K7 102 (.slice none 0 0) b1.ix b1.sd] #[.pointer (some ⟨0,0,none⟩),L8 a0] (Ry E6 102 (.slice none 0 0) b1.ix.val (b1.ix.val + 40) (Gy Cd.nil b1 a0)):=by
 refine Gh.drew (fun _ _=>rfl) rfl (by kernel_rfl) (If.of 400 Az mixed Tryz.func30 (by kernel_rfl) ?_)
 show Ac _ _ ((RD [] E6 102 (.slice none 0 0) b1.ix.val (b1.ix.val + 40)) (Gy Cd.nil b1 a0)) _
 unfold Gy
 refine Ac.cw (e:=E6) (Rg:=(RD [] E6 102 (.slice none 0 0) b1.ix.val (b1.ix.val + 40))) [] 0 (cF _ (by first | omega | (simp only [Ad,Aj] at *; omega))) rfl fun r1 hr1 kr1=>?_
 refine Ac.cw (e:=vB) (Rg:=(RD [] E6 102 (.slice none 0 0) b1.ix.val (b1.ix.val + 40))) [] 0 (Fz _ _ (by first | omega | (simp only [Ad,Aj] at *; omega))) rfl fun r2 hr2 kr2=>?_
 refine Ac.gy (Rg:=(RD [] E6 102 (.slice none 0 0) b1.ix.val (b1.ix.val + 40))) (fun h3=>?_) (fun h3=>?_)
 ·refine Ac.z [true,true,true,true] ?_
  exact Ac.dr (by kernel_rfl) (by kernel_rfl) (by first | omega | (simp only [Ad,Aj] at *; omega))
 ·refine Ac.z [false] ?_
  refine Ac.gq (Rg:=(RD [] E6 102 (.slice none 0 0) b1.ix.val (b1.ix.val + 40))) (e:=vB) (S3 _) fun r4 hr4=>?_
  refine Ac.z [false,false] ?_
  refine Ac.gy (Rg:=(RD [] E6 102 (.slice none 0 0) b1.ix.val (b1.ix.val + 40))) (fun h5=>?_) (fun h5=>?_)
  ·exact Ac.dr (by kernel_rfl) (by kernel_rfl) (by first | omega | (simp only [Ad,Aj] at *; omega))
  ·refine Ac.gq (Rg:=(RD [] E6 102 (.slice none 0 0) b1.ix.val (b1.ix.val + 40))) (e:=vI) (cB _) fun r6 hr6=>?_
   refine Ac.gy (Rg:=(RD [] E6 102 (.slice none 0 0) b1.ix.val (b1.ix.val + 40))) (fun h7=>?_) (fun h7=>?_)
   ·refine Ac.cw (e:=vI) (Rg:=(RD [] E6 102 (.slice none 0 0) b1.ix.val (b1.ix.val + 40))) [] 0 (Bf _ _ (by first | omega | (simp only [Ad,Aj] at *; omega))) rfl fun r8 hr8 kr8=>?_
    refine Ac.o (by kernel_rfl) ?_ ?_
    ·refine Ac.gq (Rg:=(RD [] E6 102 (.slice none 0 0) b1.ix.val (b1.ix.val + 40))) (e:=vI) (Ik _ _) fun r9 hr9=>?_
     refine Ac.o (by kernel_rfl) ?_ ?_
     ·refine Ac.gq (Rg:=(RD [] E6 102 (.slice none 0 0) b1.ix.val (b1.ix.val + 40))) (e:=vI) (Gq _ _) fun r10 hr10=>?_
      refine Ac.o (by kernel_rfl) ?_ ?_
      ·refine Ac.cw (e:=vI) (Rg:=(RD [] E6 102 (.slice none 0 0) b1.ix.val (b1.ix.val + 40))) [] 0 (Bf _ _ (by first | omega | (simp only [Ad,Aj] at *; omega))) rfl fun r11 hr11 kr11=>?_
       refine Ac.gq (Rg:=(RD [] E6 102 (.slice none 0 0) b1.ix.val (b1.ix.val + 40))) (e:=vI) (Fm _) fun r12 hr12=>?_
       exact Ac.dr (by kernel_rfl) (by kernel_rfl) (by first | omega | (simp only [Ad,Aj] at *; omega))
      ·refine Ac.cw (e:=vI) (Rg:=(RD [] E6 102 (.slice none 0 0) b1.ix.val (b1.ix.val + 40))) [] 0 (Bf _ _ (by first | omega | (simp only [Ad,Aj] at *; omega))) rfl fun r13 hr13 kr13=>?_
       refine Ac.gq (Rg:=(RD [] E6 102 (.slice none 0 0) b1.ix.val (b1.ix.val + 40))) (e:=vI) (Fm _) fun r14 hr14=>?_
       exact Ac.dr (by kernel_rfl) (by kernel_rfl) (by first | omega | (simp only [Ad,Aj] at *; omega))
     ·refine Ac.gq (Rg:=(RD [] E6 102 (.slice none 0 0) b1.ix.val (b1.ix.val + 40))) (e:=vI) (Gq _ _) fun r15 hr15=>?_
      refine Ac.cw (e:=vI) (Rg:=(RD [] E6 102 (.slice none 0 0) b1.ix.val (b1.ix.val + 40))) [] 0 (Bf _ _ (by first | omega | (simp only [Ad,Aj] at *; omega))) rfl fun r16 hr16 kr16=>?_
      refine Ac.gq (Rg:=(RD [] E6 102 (.slice none 0 0) b1.ix.val (b1.ix.val + 40))) (e:=vI) (Fm _) fun r17 hr17=>?_
      exact Ac.dr (by kernel_rfl) (by kernel_rfl) (by first | omega | (simp only [Ad,Aj] at *; omega))
    ·refine Ac.gq (Rg:=(RD [] E6 102 (.slice none 0 0) b1.ix.val (b1.ix.val + 40))) (e:=vI) (Ik _ _) fun r18 hr18=>?_
     refine Ac.gq (Rg:=(RD [] E6 102 (.slice none 0 0) b1.ix.val (b1.ix.val + 40))) (e:=vI) (Gq _ _) fun r19 hr19=>?_
     refine Ac.cw (e:=vI) (Rg:=(RD [] E6 102 (.slice none 0 0) b1.ix.val (b1.ix.val + 40))) [] 0 (Bf _ _ (by first | omega | (simp only [Ad,Aj] at *; omega))) rfl fun r20 hr20 kr20=>?_
     refine Ac.gq (Rg:=(RD [] E6 102 (.slice none 0 0) b1.ix.val (b1.ix.val + 40))) (e:=vI) (Fm _) fun r21 hr21=>?_
     exact Ac.dr (by kernel_rfl) (by kernel_rfl) (by first | omega | (simp only [Ad,Aj] at *; omega))
   ·refine Ac.cw (e:=vI) (Rg:=(RD [] E6 102 (.slice none 0 0) b1.ix.val (b1.ix.val + 40))) [] 0 (Bf _ _ (by first | omega | (simp only [Ad,Aj] at *; omega))) rfl fun r22 hr22 kr22=>?_
    refine Ac.o (by kernel_rfl) ?_ ?_
    ·refine Ac.gq (Rg:=(RD [] E6 102 (.slice none 0 0) b1.ix.val (b1.ix.val + 40))) (e:=vI) (Ik _ _) fun r23 hr23=>?_
     refine Ac.o (by kernel_rfl) ?_ ?_
     ·refine Ac.gq (Rg:=(RD [] E6 102 (.slice none 0 0) b1.ix.val (b1.ix.val + 40))) (e:=vI) (Gq _ _) fun r24 hr24=>?_
      refine Ac.o (by kernel_rfl) ?_ ?_
      ·refine Ac.cw (e:=vI) (Rg:=(RD [] E6 102 (.slice none 0 0) b1.ix.val (b1.ix.val + 40))) [] 0 (Bf _ _ (by first | omega | (simp only [Ad,Aj] at *; omega))) rfl fun r25 hr25 kr25=>?_
       refine Ac.gq (Rg:=(RD [] E6 102 (.slice none 0 0) b1.ix.val (b1.ix.val + 40))) (e:=vI) (Fm _) fun r26 hr26=>?_
       exact Ac.dr (by kernel_rfl) (by kernel_rfl) (by first | omega | (simp only [Ad,Aj] at *; omega))
      ·refine Ac.cw (e:=vI) (Rg:=(RD [] E6 102 (.slice none 0 0) b1.ix.val (b1.ix.val + 40))) [] 0 (Bf _ _ (by first | omega | (simp only [Ad,Aj] at *; omega))) rfl fun r27 hr27 kr27=>?_
       refine Ac.gq (Rg:=(RD [] E6 102 (.slice none 0 0) b1.ix.val (b1.ix.val + 40))) (e:=vI) (Fm _) fun r28 hr28=>?_
       exact Ac.dr (by kernel_rfl) (by kernel_rfl) (by first | omega | (simp only [Ad,Aj] at *; omega))
     ·refine Ac.gq (Rg:=(RD [] E6 102 (.slice none 0 0) b1.ix.val (b1.ix.val + 40))) (e:=vI) (Gq _ _) fun r29 hr29=>?_
      refine Ac.cw (e:=vI) (Rg:=(RD [] E6 102 (.slice none 0 0) b1.ix.val (b1.ix.val + 40))) [] 0 (Bf _ _ (by first | omega | (simp only [Ad,Aj] at *; omega))) rfl fun r30 hr30 kr30=>?_
      refine Ac.gq (Rg:=(RD [] E6 102 (.slice none 0 0) b1.ix.val (b1.ix.val + 40))) (e:=vI) (Fm _) fun r31 hr31=>?_
      exact Ac.dr (by kernel_rfl) (by kernel_rfl) (by first | omega | (simp only [Ad,Aj] at *; omega))
    ·refine Ac.gq (Rg:=(RD [] E6 102 (.slice none 0 0) b1.ix.val (b1.ix.val + 40))) (e:=vI) (Ik _ _) fun r32 hr32=>?_
     refine Ac.gq (Rg:=(RD [] E6 102 (.slice none 0 0) b1.ix.val (b1.ix.val + 40))) (e:=vI) (Gq _ _) fun r33 hr33=>?_
     refine Ac.cw (e:=vI) (Rg:=(RD [] E6 102 (.slice none 0 0) b1.ix.val (b1.ix.val + 40))) [] 0 (Bf _ _ (by first | omega | (simp only [Ad,Aj] at *; omega))) rfl fun r34 hr34 kr34=>?_
     refine Ac.gq (Rg:=(RD [] E6 102 (.slice none 0 0) b1.ix.val (b1.ix.val + 40))) (e:=vI) (Fm _) fun r35 hr35=>?_
     exact Ac.dr (by kernel_rfl) (by kernel_rfl) (by first | omega | (simp only [Ad,Aj] at *; omega))
theorem cH (a0 : Aq) (a1 : Aq) : Br Tryz.prog 6 [] #[.slice none 0 0,vI a0,vI a1] (Dy (Ff Cd.nil a0 a1)) []:=by
 refine Br.ofH 400 Az mixed Tryz.func6 (by kernel_rfl) (by kernel_rfl) ?_
 unfold Ff
 refine Ac.cf [] oJ rfl ?_
 refine Ac.cw (e:=vI) (Rg:=(fun b=>Ou [] (Dy b))) [] 2 (Bf _ _ (by first | omega | (simp only [Ad,Aj] at *; omega))) rfl fun r1 hr1 kr1=>?_
 refine Ac.cw (e:=L8) (Rg:=(fun b=>Ou [] (Dy b))) [] 2 (cD _ _ (by first | omega | (simp only [Ad,Aj] at *; omega))) rfl fun r2 hr2 kr2=>?_
 refine Ac.q (e:=vB) (gv:=Dy) (rM _) fun r3 hr3=>?_
 refine Ac.y (gv:=Dy) (fun h4=>?_) (fun h4=>?_)
 ·refine Ac.cw (e:=E6) (Rg:=(fun b=>Ou [] (Dy b))) [] 2 (Ub _ _ (by first | omega | (simp only [Ad,Aj] at *; omega))) rfl fun r5 hr5 kr5=>?_
  refine Ac.q (e:=vB) (gv:=Dy) (S3 _) fun r6 hr6=>?_
  refine Ac.y (gv:=Dy) (fun h7=>?_) (fun h7=>?_)
  ·refine Ac.cw (e:=E6) (Rg:=(fun b=>Ou [] (Dy b))) [] 2 (Ij _ (by first | omega | (simp only [Ad,Aj] at *; omega))) rfl fun r8 hr8 kr8=>?_
   exact Ac.x 0
  ·exact Ac.x 0
 ·refine Ac.cw (e:=E6) (Rg:=(fun b=>Ou [] (Dy b))) [] 2 (Ub _ _ (by first | omega | (simp only [Ad,Aj] at *; omega))) rfl fun r9 hr9 kr9=>?_
  refine Ac.q (e:=vB) (gv:=Dy) (S3 _) fun r10 hr10=>?_
  refine Ac.y (gv:=Dy) (fun h11=>?_) (fun h11=>?_)
  ·refine Ac.cw (e:=E6) (Rg:=(fun b=>Ou [] (Dy b))) [] 2 (Ij _ (by first | omega | (simp only [Ad,Aj] at *; omega))) rfl fun r12 hr12 kr12=>?_
   exact Ac.x 0
  ·exact Ac.x 0
end Go.Proofs.YtfhnlkinjbakgaaGreat.Abs
