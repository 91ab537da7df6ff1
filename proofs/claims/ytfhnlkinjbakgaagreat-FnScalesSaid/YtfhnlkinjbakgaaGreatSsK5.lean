/- The program's functions are these; part 5 (written by w.py). -/
import Derived.Test.YtfhnlkinjbakgaaGreatSsE
import Derived.Test.YtfhnlkinjbakgaaGreatSsF3
import Derived.Test.YtfhnlkinjbakgaaGreatSsQpre
import Derived.Test.YtfhnlkinjbakgaaGreatSsK0
import Derived.Test.YtfhnlkinjbakgaaGreatSsK3
import Derived.Test.YtfhnlkinjbakgaaGreatSsK4
set_option linter.unusedVariables false
set_option linter.unusedSimpArgs false
namespace Go.Proofs.YtfhnlkinjbakgaaGreat.Abs
open Go Go.RowKit
theorem s5 (a0 : Iv) : Br Tryz.prog 187 [] #[Af a0] (Af (Zl a0)) []:=by
 refine Br.ofH 400 Az mixed Tryz.func187 (by kernel_rfl) (by kernel_rfl) ?_
 unfold Zl
 refine Ac.q (e:=vB) (gv:=Af) (D8 _) fun r1 _=>?_
 refine Ac.y (gv:=Af) (fun _=>?_) (fun _=>?_)
 ·refine Ac.q (e:=Af) (gv:=Af) (Bs) fun r2 _=>?_
  exact Ac.x 0
 ·refine Ac.z [true,true] ?_
  exact Ac.x 0
theorem aM (a0 : Aq) (a1 : Iv) : Br Tryz.prog 112 [] #[vI a0,Af a1] (Fe (L7 a0 a1)) []:=by
 refine Br.ofH 400 Az mixed Tryz.func112 (by kernel_rfl) (by kernel_rfl) ?_
 unfold L7
 refine Ac.q (e:=Af) (gv:=Fe) (Av _) fun r1 _=>?_
 refine Ac.q (e:=Af) (gv:=Fe) (s5 _) fun r2 _=>?_
 refine Ac.q (e:=Af) (gv:=Fe) (Fx _) fun r3 _=>?_
 refine Ac.y (gv:=Fe) (fun _=>?_) (fun _=>?_)
 ·refine Ac.q (e:=Af) (gv:=Fe) (Fx _) fun r4 _=>?_
  refine Ac.q (e:=Af) (gv:=Fe) (Py _) fun r5 _=>?_
  refine Ac.q (e:=Af) (gv:=Fe) (Cf _ _) fun r6 _=>?_
  refine Ac.q (e:=Af) (gv:=Fe) (Fx _) fun r7 _=>?_
  refine Ac.q (e:=Af) (gv:=Fe) (Cf _ _) fun r8 _=>?_
  exact Ac.x 0
 ·refine Ac.y (gv:=Fe) (fun _=>?_) (fun _=>?_)
  ·refine Ac.q (e:=Af) (gv:=Fe) (Py _) fun r9 _=>?_
   refine Ac.q (e:=Af) (gv:=Fe) (Cf _ _) fun r10 _=>?_
   exact Ac.x 0
  ·refine Ac.y (gv:=Fe) (fun _=>?_) (fun _=>?_)
   ·refine Ac.q (e:=Af) (gv:=Fe) (Fx _) fun r11 _=>?_
    exact Ac.x 0
   ·refine Ac.y (gv:=Fe) (fun _=>?_) (fun _=>?_)
    ·refine Ac.q (e:=Af) (gv:=Fe) (Cf _ _) fun r12 _=>?_
     exact Ac.x 0
    ·refine Ac.q (e:=vB) (gv:=Fe) (Z1 _) fun r13 _=>?_
     refine Ac.y (gv:=Fe) (fun _=>?_) (fun _=>?_)
     ·refine Ac.q (e:=Af) (gv:=Fe) (La _) fun r14 _=>?_
      refine Ac.q (e:=Af) (gv:=Fe) (Cf _ _) fun r15 _=>?_
      exact Ac.x 0
     ·refine Ac.q (e:=Af) (gv:=Fe) (Fx _) fun r16 _=>?_
      refine Ac.q (e:=Af) (gv:=Fe) (Cf _ _) fun r17 _=>?_
      refine Ac.q (e:=Af) (gv:=Fe) (E2 _ _) fun r18 _=>?_
      exact Ac.x 0
theorem gA (a0 : Pj) (a1 : Pt) : Br Tryz.prog 44 [] #[L8 a0,E6 a1] (Au (Mn a0 a1)) []:=by
 refine Br.ofH 400 Az mixed Tryz.func44 (by kernel_rfl) (by kernel_rfl) ?_
 unfold Mn
 refine Ac.q (e:=Dr) (gv:=Au) (Zp _ _) fun r1 _=>?_
 refine Ac.y (gv:=Au) (fun _=>?_) (fun _=>?_)
 ·exact Ac.x 0
 ·refine Ac.q (e:=E6) (gv:=Au) (J7 _) fun r2 _=>?_
  refine Ac.q (e:=By) (gv:=Au) (gB _ _) fun r3 _=>?_
  refine Ac.y (gv:=Au) (fun _=>?_) (fun _=>?_)
  ·exact Ac.x 0
  ·refine Ac.q (e:=Fe) (gv:=Au) (aM _ _) fun r4 _=>?_
   refine Ac.q (e:=Au) (gv:=Au) (Ue _ _) fun r5 _=>?_
   exact Ac.x 0
theorem oO : ∀ (fu : Nat) (a0 : Aq) (x_e : Aq) (q0 : 1 ≤ a0.val) (q1 : a0.val ≤ 1152921504606846976) (q2 : -1000 ≤ x_e.val) (q3 : x_e.val ≤ 0 → a0.val * 2 ^ (0 - x_e.val).toNat < 6442450944) (hm : (64 + x_e.val).toNat < fu) (t : Array Value) (ht : Qf t [1,4,5,6,7,8,9,10,11,12,13,14,15,16,17,18,19,20,21] = #[.int .i64 a0.val,undef,.int .i64 0,.int .i64 x_e.val,undef,undef,undef,undef,undef,undef,undef,undef,undef,undef,undef,undef,undef,undef,undef,undef,undef,undef]),Ox Tryz.prog 305 (Wj Tryz.f305 1) t [] (Ou [] (vI (F7 fu a0 x_e))):=by
 intro fu
 induction fu with
 | zero=>intro a0 x_e q0 q1 q2 q3 hm; exact absurd hm (Nat.not_lt_zero _)
 | succ fu ih=>
  intro a0 x_e q0 q1 q2 q3 hm t ht
  refine Ox.round Az mixed Tryz.func305 ht fun g=>?_
  unfold F7
  refine Ac.y (gv:=vI) (fun h2=>?_) (fun h2=>?_)
  ·refine Ac.z [true,true,true] ?_
   refine Ac.k (c:=(decide (0 ≤ (An (0 - x_e.val)).val))) (by kernel_rfl) (by first | exact decide_eq_true (by omega) | (simp only [Ad,decide_eq_true_eq] at *; omega)) ?_
   refine Ac.z [true,true] ?_
   refine Ac.y (gv:=vI) (fun h3=>?_) (fun h3=>?_)
   ·exact Ac.l (by kernel_rfl) (by kernel_rfl) (by kernel_rfl) (by kernel_rfl) (ih a0 (An (x_e.val - 1)) (by first | exact q0 | exact q1 | exact Nat.lt_succ_self _ | (have z:=Xq a0 x_e q0 q3 h2 h3; first | exact z.2.2 | (simp only [Ad]; omega))) (by first | exact q0 | exact q1 | exact Nat.lt_succ_self _ | (have z:=Xq a0 x_e q0 q3 h2 h3; first | exact z.2.2 | (simp only [Ad]; omega))) (by first | exact q0 | exact q1 | exact Nat.lt_succ_self _ | (have z:=Xq a0 x_e q0 q3 h2 h3; first | exact z.2.2 | (simp only [Ad]; omega))) (by first | exact q0 | exact q1 | exact Nat.lt_succ_self _ | (have z:=Xq a0 x_e q0 q3 h2 h3; first | exact z.2.2 | (simp only [Ad]; omega))) (by first | exact q0 | exact q1 | exact Nat.lt_succ_self _ | (have z:=Xq a0 x_e q0 q3 h2 h3; first | exact z.2.2 | (simp only [Ad]; omega))))
   ·exact Ac.x 0
  ·refine Ac.z [false,false,false,false,false,false] ?_
   exact Ac.x 0
theorem oP : ∀ (fu : Nat) (a0 : Aq) (x_e : Aq) (q0 : 1 ≤ a0.val) (q1 : a0.val ≤ 1152921504606846976) (q2 : 0 ≤ x_e.val ∧ x_e.val ≤ 40) (hm : (64 - x_e.val).toNat < fu) (t : Array Value) (ht : Qf t [1,4,5,6,7,8,9,10,11,12,13,14,15,16,17,18,19,20,21] = #[.int .i64 a0.val,undef,.int .i64 0,.int .i64 x_e.val,undef,undef,undef,undef,undef,undef,undef,undef,undef,undef,undef,undef,undef,undef,undef,undef,undef,undef]),Ox Tryz.prog 305 (Wj Tryz.f305 0) t [] (Ou [] (vI (Gm fu a0 x_e))):=by
 intro fu
 induction fu with
 | zero=>intro a0 x_e q0 q1 q2 hm; exact absurd hm (Nat.not_lt_zero _)
 | succ fu ih=>
  intro a0 x_e q0 q1 q2 hm t ht
  refine Ox.round Az mixed Tryz.func305 ht fun g=>?_
  unfold Gm
  refine Ac.k (c:=(decide (0 ≤ x_e.val))) (by kernel_rfl) (by first | exact decide_eq_true (by omega) | (simp only [Ad,decide_eq_true_eq] at *; omega)) ?_
  refine Ac.y (gv:=vI) (fun h1=>?_) (fun h1=>?_)
  ·exact Ac.l (by kernel_rfl) (by kernel_rfl) (by kernel_rfl) (by kernel_rfl) (ih a0 (An (x_e.val + 1)) (by first | exact q0 | exact q1 | exact Nat.lt_succ_self _ | exact Po a0 x_e q2.1 h1 | (have z:=bQ a0 x_e q1 q2.1 h1; simp only [Ad]; omega)) (by first | exact q0 | exact q1 | exact Nat.lt_succ_self _ | exact Po a0 x_e q2.1 h1 | (have z:=bQ a0 x_e q1 q2.1 h1; simp only [Ad]; omega)) (by first | exact q0 | exact q1 | exact Nat.lt_succ_self _ | exact Po a0 x_e q2.1 h1 | (have z:=bQ a0 x_e q1 q2.1 h1; simp only [Ad]; omega)) (by first | exact q0 | exact q1 | exact Nat.lt_succ_self _ | exact Po a0 x_e q2.1 h1 | (have z:=bQ a0 x_e q1 q2.1 h1; simp only [Ad]; omega)))
  ·exact Ac.l (by kernel_rfl) (by kernel_rfl) (by kernel_rfl) (by kernel_rfl) (oO ((64 + x_e.val).toNat + 1) a0 x_e (by first | exact q0 | exact q1 | exact Nat.lt_succ_self _ | exact Po a0 x_e q2.1 h1 | omega) (by first | exact q0 | exact q1 | exact Nat.lt_succ_self _ | exact Po a0 x_e q2.1 h1 | omega) (by first | exact q0 | exact q1 | exact Nat.lt_succ_self _ | exact Po a0 x_e q2.1 h1 | omega) (by first | exact q0 | exact q1 | exact Nat.lt_succ_self _ | exact Po a0 x_e q2.1 h1 | omega) (by first | exact q0 | exact q1 | exact Nat.lt_succ_self _ | exact Po a0 x_e q2.1 h1 | omega))
theorem Aai (a0 : Aq) (p0 : 1 ≤ a0.val) (p1 : a0.val ≤ 1152921504606846976) : Br Tryz.prog 305 [] #[vI a0] (vI (Tu a0)) []:=by
 refine Br.ofH 400 Az mixed Tryz.func305 (by kernel_rfl) (by kernel_rfl) ?_
 unfold Tu
 exact Ac.l (by kernel_rfl) (by kernel_rfl) (by kernel_rfl) (by kernel_rfl) (oP ((64 - (Ah 0).val).toNat + 1) a0 (Ah 0) (by first | exact p0 | exact p1 | exact ⟨by decide,by decide⟩ | exact Nat.lt_succ_self _) (by first | exact p0 | exact p1 | exact ⟨by decide,by decide⟩ | exact Nat.lt_succ_self _) (by first | exact p0 | exact p1 | exact ⟨by decide,by decide⟩ | exact Nat.lt_succ_self _) (by first | exact p0 | exact p1 | exact ⟨by decide,by decide⟩ | exact Nat.lt_succ_self _))
theorem oV : ∀ (fu : Nat) (a0 : Aq) (hm : min (0 - a0.val).toNat 1 < fu),Br Tryz.prog 306 [] #[vI a0] (Af (Ie fu a0)) []:=by
 intro fu
 induction fu with
 | zero=>intro a0 hm; exact absurd hm (Nat.not_lt_zero _)
 | succ fu ih=>
  intro a0 hm
  refine Br.ofH 400 Az mixed Tryz.func306 (by kernel_rfl) (by kernel_rfl) ?_
  unfold Ie
  unfold Mp
  refine Ac.q (e:=vB) (gv:=Af) (Gr _ _ _) fun r1 hr1=>?_
  refine Ac.y (gv:=Af) (fun h2=>?_) (fun h2=>?_)
  ·refine Ac.q (e:=Af) (gv:=Af) (Bs) fun r3 hr3=>?_
   exact Ac.x 0
  ·refine Ac.y (gv:=Af) (fun h4=>?_) (fun h4=>?_)
   ·refine Ac.q (e:=Af) (gv:=Af) (ih (An (0 - a0.val)) (by rw [hr1] at h2; simp [Dg,Aj] at h2; simp only [Ad,decide_eq_true_eq,decide_eq_false_iff_not] at *; omega)) fun r5 hr5=>?_
    refine Ac.q (e:=Af) (gv:=Af) (Sb _) fun r6 hr6=>?_
    exact Ac.x 0
   ·refine Ac.q (e:=Ax) (gv:=Af) (Uf _ _ _) fun r7 hr7=>?_
    refine Ac.q (e:=Ax) (gv:=Af) (Uf _ _ _) fun r8 hr8=>?_
    exact Ac.x 0
theorem S6 (a0 : Aq) : Br Tryz.prog 306 [] #[vI a0] (Af (Nc a0)) []:=oV 2 a0 (by omega)
theorem V9 (a0 : Iv) (a1 : Aq) : Br Tryz.prog 307 [] #[Af a0,vI a1] (Af (Pd a0 a1)) []:=by
 refine Br.ofH 400 Az mixed Tryz.func307 (by kernel_rfl) (by kernel_rfl) ?_
 unfold Pd
 refine Ac.q (e:=vB) (gv:=Af) (Hv _) fun r1 _=>?_
 refine Ac.q (e:=Af) (gv:=Af) (F0 _ _ _) fun r2 _=>?_
 exact Ac.x 0
theorem jI (a0 : Aq) : Br Tryz.prog 286 [] #[vI a0] (Af (Ur a0)) []:=by
 refine Br.ofH 400 Az mixed Tryz.func286 (by kernel_rfl) (by kernel_rfl) ?_
 unfold Ur
 refine Ac.q (e:=vB) (gv:=Af) (Hm _) fun r1 hr1=>?_
 refine Ac.y (gv:=Af) (fun h2=>?_) (fun h2=>?_)
 ·refine Ac.z [true,true,true] ?_
  refine Ac.q (e:=Af) (gv:=Af) (Bs) fun r3 hr3=>?_
  exact Ac.x 0
 ·refine Ac.z [false,false] ?_
  refine Ac.y (gv:=Af) (fun h4=>?_) (fun h4=>?_)
  ·refine Ac.q (e:=Af) (gv:=Af) (Bs) fun r5 hr5=>?_
   exact Ac.x 0
  ·refine Ac.q (e:=vI) (gv:=Af) (Aai _ (by first | (have z:=Sv hr1 h2; simp only [decide_eq_false_iff_not] at h4; omega) | (simp only [decide_eq_true_eq] at h8 ⊢; omega) | (have z:=Xp a0; rw [← hr6] at z; simp only [decide_eq_false_iff_not] at h8; simp only [Ad,decide_eq_true_eq]; omega)) (by first | (have z:=Sv hr1 h2; simp only [decide_eq_false_iff_not] at h4; omega) | (simp only [decide_eq_true_eq] at h8 ⊢; omega) | (have z:=Xp a0; rw [← hr6] at z; simp only [decide_eq_false_iff_not] at h8; simp only [Ad,decide_eq_true_eq]; omega))) fun r6 hr6=>?_
   refine Ac.q (e:=Af) (gv:=Af) (Mb _) fun r7 hr7=>?_
   refine Ac.y (gv:=Af) (fun h8=>?_) (fun h8=>?_)
   ·refine Ac.k (c:=(decide (0 ≤ r6.val))) (by kernel_rfl) (by first | (have z:=Sv hr1 h2; simp only [decide_eq_false_iff_not] at h4; omega) | (simp only [decide_eq_true_eq] at h8 ⊢; omega) | (have z:=Xp a0; rw [← hr6] at z; simp only [decide_eq_false_iff_not] at h8; simp only [Ad,decide_eq_true_eq]; omega)) ?_
    refine Ac.k (c:=(decide (0 ≤ r6.val))) (by kernel_rfl) (by first | (have z:=Sv hr1 h2; simp only [decide_eq_false_iff_not] at h4; omega) | (simp only [decide_eq_true_eq] at h8 ⊢; omega) | (have z:=Xp a0; rw [← hr6] at z; simp only [decide_eq_false_iff_not] at h8; simp only [Ad,decide_eq_true_eq]; omega)) ?_
    refine Ac.q (e:=Af) (gv:=Af) (Av _) fun r9 hr9=>?_
    refine Ac.q (e:=Af) (gv:=Af) (D1 _ _) fun r10 hr10=>?_
    refine Ac.q (e:=Af) (gv:=Af) (Av _) fun r11 hr11=>?_
    refine Ac.q (e:=Af) (gv:=Af) (Cx _ _) fun r12 hr12=>?_
    refine Ac.q (e:=Af) (gv:=Af) (Cf _ _) fun r13 hr13=>?_
    refine Ac.q (e:=Af) (gv:=Af) (Py _) fun r14 hr14=>?_
    refine Ac.q (e:=Af) (gv:=Af) (Dn _ _) fun r15 hr15=>?_
    refine Ac.u 400 Az mixed Tryz.func286 ?_
    refine Ac.z [true] ?_
    refine Ac.q (e:=Af) (gv:=Af) (Dn _ _) fun r16 hr16=>?_
    refine Ac.q (e:=Af) (gv:=Af) (Bk _ _) fun r17 hr17=>?_
    refine Ac.q (e:=Af) (gv:=Af) (Cx _ _) fun r18 hr18=>?_
    refine Ac.u 400 Az mixed Tryz.func286 ?_
    refine Ac.z [true] ?_
    refine Ac.q (e:=Af) (gv:=Af) (Dn _ _) fun r19 hr19=>?_
    refine Ac.q (e:=Af) (gv:=Af) (Bk _ _) fun r20 hr20=>?_
    refine Ac.q (e:=Af) (gv:=Af) (Cx _ _) fun r21 hr21=>?_
    refine Ac.u 400 Az mixed Tryz.func286 ?_
    refine Ac.z [true] ?_
    refine Ac.q (e:=Af) (gv:=Af) (Dn _ _) fun r22 hr22=>?_
    refine Ac.q (e:=Af) (gv:=Af) (Bk _ _) fun r23 hr23=>?_
    refine Ac.q (e:=Af) (gv:=Af) (Cx _ _) fun r24 hr24=>?_
    refine Ac.u 400 Az mixed Tryz.func286 ?_
    refine Ac.z [true] ?_
    refine Ac.q (e:=Af) (gv:=Af) (Dn _ _) fun r25 hr25=>?_
    refine Ac.q (e:=Af) (gv:=Af) (Bk _ _) fun r26 hr26=>?_
    refine Ac.q (e:=Af) (gv:=Af) (Cx _ _) fun r27 hr27=>?_
    refine Ac.u 400 Az mixed Tryz.func286 ?_
    refine Ac.z [true] ?_
    refine Ac.q (e:=Af) (gv:=Af) (Dn _ _) fun r28 hr28=>?_
    refine Ac.q (e:=Af) (gv:=Af) (Bk _ _) fun r29 hr29=>?_
    refine Ac.q (e:=Af) (gv:=Af) (Cx _ _) fun r30 hr30=>?_
    refine Ac.u 400 Az mixed Tryz.func286 ?_
    refine Ac.z [false] ?_
    refine Ac.q (e:=Af) (gv:=Af) (S6 _) fun r31 hr31=>?_
    refine Ac.q (e:=Af) (gv:=Af) (Av _) fun r32 hr32=>?_
    refine Ac.q (e:=Af) (gv:=Af) (Bk _ _) fun r33 hr33=>?_
    refine Ac.q (e:=Af) (gv:=Af) (Bk _ _) fun r34 hr34=>?_
    refine Ac.q (e:=Af) (gv:=Af) (V9 _ _) fun r35 hr35=>?_
    refine Ac.q (e:=Af) (gv:=Af) (Cx _ _) fun r36 hr36=>?_
    exact Ac.x 0
   ·refine Ac.k (c:=(decide (0 ≤ (An (0 - r6.val)).val))) (by kernel_rfl) (by first | (have z:=Sv hr1 h2; simp only [decide_eq_false_iff_not] at h4; omega) | (simp only [decide_eq_true_eq] at h8 ⊢; omega) | (have z:=Xp a0; rw [← hr6] at z; simp only [decide_eq_false_iff_not] at h8; simp only [Ad,decide_eq_true_eq]; omega)) ?_
    refine Ac.q (e:=Af) (gv:=Af) (Mb _) fun r37 hr37=>?_
    refine Ac.q (e:=Af) (gv:=Af) (Av _) fun r38 hr38=>?_
    refine Ac.q (e:=Af) (gv:=Af) (D1 _ _) fun r39 hr39=>?_
    refine Ac.q (e:=Af) (gv:=Af) (Av _) fun r40 hr40=>?_
    refine Ac.q (e:=Af) (gv:=Af) (Cx _ _) fun r41 hr41=>?_
    refine Ac.q (e:=Af) (gv:=Af) (Cf _ _) fun r42 hr42=>?_
    refine Ac.q (e:=Af) (gv:=Af) (Py _) fun r43 hr43=>?_
    refine Ac.q (e:=Af) (gv:=Af) (Dn _ _) fun r44 hr44=>?_
    refine Ac.u 400 Az mixed Tryz.func286 ?_
    refine Ac.z [true] ?_
    refine Ac.q (e:=Af) (gv:=Af) (Dn _ _) fun r45 hr45=>?_
    refine Ac.q (e:=Af) (gv:=Af) (Bk _ _) fun r46 hr46=>?_
    refine Ac.q (e:=Af) (gv:=Af) (Cx _ _) fun r47 hr47=>?_
    refine Ac.u 400 Az mixed Tryz.func286 ?_
    refine Ac.z [true] ?_
    refine Ac.q (e:=Af) (gv:=Af) (Dn _ _) fun r48 hr48=>?_
    refine Ac.q (e:=Af) (gv:=Af) (Bk _ _) fun r49 hr49=>?_
    refine Ac.q (e:=Af) (gv:=Af) (Cx _ _) fun r50 hr50=>?_
    refine Ac.u 400 Az mixed Tryz.func286 ?_
    refine Ac.z [true] ?_
    refine Ac.q (e:=Af) (gv:=Af) (Dn _ _) fun r51 hr51=>?_
    refine Ac.q (e:=Af) (gv:=Af) (Bk _ _) fun r52 hr52=>?_
    refine Ac.q (e:=Af) (gv:=Af) (Cx _ _) fun r53 hr53=>?_
    refine Ac.u 400 Az mixed Tryz.func286 ?_
    refine Ac.z [true] ?_
    refine Ac.q (e:=Af) (gv:=Af) (Dn _ _) fun r54 hr54=>?_
    refine Ac.q (e:=Af) (gv:=Af) (Bk _ _) fun r55 hr55=>?_
    refine Ac.q (e:=Af) (gv:=Af) (Cx _ _) fun r56 hr56=>?_
    refine Ac.u 400 Az mixed Tryz.func286 ?_
    refine Ac.z [true] ?_
    refine Ac.q (e:=Af) (gv:=Af) (Dn _ _) fun r57 hr57=>?_
    refine Ac.q (e:=Af) (gv:=Af) (Bk _ _) fun r58 hr58=>?_
    refine Ac.q (e:=Af) (gv:=Af) (Cx _ _) fun r59 hr59=>?_
    refine Ac.u 400 Az mixed Tryz.func286 ?_
    refine Ac.z [false] ?_
    refine Ac.q (e:=Af) (gv:=Af) (S6 _) fun r60 hr60=>?_
    refine Ac.q (e:=Af) (gv:=Af) (Av _) fun r61 hr61=>?_
    refine Ac.q (e:=Af) (gv:=Af) (Bk _ _) fun r62 hr62=>?_
    refine Ac.q (e:=Af) (gv:=Af) (Bk _ _) fun r63 hr63=>?_
    refine Ac.q (e:=Af) (gv:=Af) (V9 _ _) fun r64 hr64=>?_
    refine Ac.q (e:=Af) (gv:=Af) (Cx _ _) fun r65 hr65=>?_
    exact Ac.x 0
theorem Ux (a0 : Iv) : Br Tryz.prog 285 [] #[Af a0,.func (.func 286) #[] #[]] (Af (Ip a0)) []:=by
 refine Br.ofH 400 Az mixed Tryz.func285 (by kernel_rfl) (by kernel_rfl) ?_
 unfold Ip
 refine Ac.q (e:=vB) (gv:=Af) (D8 _) fun r1 _=>?_
 refine Ac.y (gv:=Af) (fun _=>?_) (fun _=>?_)
 ·refine Ac.q (e:=Af) (gv:=Af) (Bs) fun r2 _=>?_
  exact Ac.x 0
 ·refine Ac.q (e:=Af) (gv:=Af) (jI _) fun r3 _=>?_
  refine Ac.q (e:=Af) (gv:=Af) (jI _) fun r4 _=>?_
  refine Ac.q (e:=vB) (gv:=Af) (F8 _ _) fun r5 _=>?_
  refine Ac.y (gv:=Af) (fun _=>?_) (fun _=>?_)
  ·refine Ac.q (e:=Af) (gv:=Af) (Bs) fun r6 _=>?_
   exact Ac.x 0
  ·refine Ac.q (e:=Af) (gv:=Af) (F0 _ _ _) fun r7 _=>?_
   exact Ac.x 0
theorem oW (a0 : Iv) : Br Tryz.prog 241 [] #[Af a0] (Af (bH a0)) []:=by
 refine Br.ofH 400 Az mixed Tryz.func241 (by kernel_rfl) (by kernel_rfl) ?_
 unfold bH
 refine Ac.q (e:=Af) (gv:=Af) (Ux _) fun r1 _=>?_
 exact Ac.x 0
theorem cN (a0 : Aq) : Br Tryz.prog 250 [] #[vI a0] (Af (Uo a0)) []:=by
 refine Br.ofH 400 Az mixed Tryz.func250 (by kernel_rfl) (by kernel_rfl) ?_
 unfold Uo
 refine Ac.q (e:=Af) (gv:=Af) (Px _ _) fun r1 _=>?_
 exact Ac.x 0
theorem cT (a0 : Aq) : Br Tryz.prog 251 [] #[vI a0] (Af (Ut a0)) []:=by
 refine Br.ofH 400 Az mixed Tryz.func251 (by kernel_rfl) (by kernel_rfl) ?_
 unfold Ut
 refine Ac.q (e:=Af) (gv:=Af) (Px _ _) fun r1 _=>?_
 exact Ac.x 0
theorem vX : ∀ (fu : Nat) (cp_r4 : Nat) (pd_r4 : List Value) (r4 : List Aq) (a0 : Iv) (x_12 : Aq) (y_1 : Iv) (q0 : 0 ≤ x_12.val) (q1 : ((r4.length : Nat) : Int) ≤ 4000) (hm : (((r4.length : Nat) : Int) - x_12.val).toNat < fu) (t : Array Value) (ht : Qf t [0,3,4,5,6,7,8,9,13,14,15,16,17,18,19,20,21,22,23,24,25,26,27,28,29,30,31,32,33,34,35] = #[undef,.pointer (some ⟨0,0,none⟩),.pointer (some ⟨1,0,none⟩),undef,undef,undef,undef,undef,undef,undef,.slice (some ⟨2,0,some 0⟩) r4.length cp_r4,.int .i64 (((r4.length : Nat) : Int)),.int .i64 x_12.val,undef,undef,undef,undef,undef,undef,undef,undef,undef,undef,undef,undef,undef,undef,undef,undef,undef,undef,undef,undef,undef,undef,undef]),Ox Tryz.prog 288 (Wj Tryz.f288 0) t [(#[.int .i64 a0.lo.val,.int .i64 a0.hi.val],31),(#[.int .i64 y_1.lo.val,.int .i64 y_1.hi.val],31),(O0 r4 pd_r4,2)] (Ou [] (Af (Nb fu r4 a0 x_12 y_1))):=by
 intro fu
 induction fu with
 | zero=>intro cp_r4 pd_r4 r4 a0 x_12 y_1 q0 q1 hm; exact absurd hm (Nat.not_lt_zero _)
 | succ fu ih=>
  intro cp_r4 pd_r4 r4 a0 x_12 y_1 q0 q1 hm t ht
  refine Ox.round Az mixed Tryz.func288 ht fun g=>?_
  unfold Nb
  refine Ac.y (gv:=Af) (fun h5=>?_) (fun h5=>?_)
  ·refine Ac.k (c:=(decide (0 ≤ x_12.val ∧ x_12.val < ((r4.length : Nat) : Int)))) (by kernel_rfl) (by simp only [Ad,At,Aj,Bt,decide_eq_true_eq,decide_eq_false_iff_not,cond_true,cond_false] at *; omega) ?_
   refine Ac.ld (by kernel_rfl) (O3 (L:=r4) (pad:=pd_r4) (i:=x_12) (by simp only [Ad,At,Aj,Bt,decide_eq_true_eq,decide_eq_false_iff_not,cond_true,cond_false] at *; omega)) ?_
   refine Ac.y (gv:=Af) (fun h6=>?_) (fun h6=>?_)
   ·refine Ac.q (e:=Af) (gv:=Af) (Bs) fun r7 hr7=>?_
    exact Ac.x 0
   ·exact Ac.l (by kernel_rfl) (by kernel_rfl) (by kernel_rfl) (by kernel_rfl) (ih cp_r4 pd_r4 r4 a0 (An (x_12.val + 1)) y_1 (by first | omega | (simp only [Ad,At,Aj,Bt,decide_eq_true_eq,decide_eq_false_iff_not,cond_true,cond_false] at *; omega)) (by first | omega | (simp only [Ad,At,Aj,Bt,decide_eq_true_eq,decide_eq_false_iff_not,cond_true,cond_false] at *; omega)) (by first | omega | (simp only [Ad,At,Aj,Bt,decide_eq_true_eq,decide_eq_false_iff_not,cond_true,cond_false] at *; omega)))
  ·refine Ac.q (e:=Af) (gv:=Af) (cN _) fun r8 hr8=>?_
   refine Ac.q (e:=Af) (gv:=Af) (cT _) fun r9 hr9=>?_
   refine Ac.q (e:=Af) (gv:=Af) (Cf _ _) fun r10 hr10=>?_
   refine Ac.q (e:=Af) (gv:=Af) (cN _) fun r11 hr11=>?_
   refine Ac.q (e:=Af) (gv:=Af) (cT _) fun r12 hr12=>?_
   refine Ac.q (e:=Af) (gv:=Af) (Cf _ _) fun r13 hr13=>?_
   refine Ac.q (e:=Af) (gv:=Af) (E2 _ _) fun r14 hr14=>?_
   exact Ac.x 0
theorem Agw (a0 : Iv) : Br Tryz.prog 288 [] #[Af a0] (Af (lD a0)) []:=by
 refine Br.ofH 400 Az mixed Tryz.func288 (by kernel_rfl) (by kernel_rfl) ?_
 unfold lD
 refine Ac.q (e:=vB) (gv:=Af) (cK _) fun r1 hr1=>?_
 refine Ac.y (gv:=Af) (fun h2=>?_) (fun h2=>?_)
 ·refine Ac.q (e:=Af) (gv:=Af) (Bs) fun r3 hr3=>?_
  exact Ac.x 0
 ·refine Ac.bl (gv:=Af) (by kernel_rfl) (by kernel_rfl) (jA _) (by kernel_rfl) (fun r4 hr4 nr4=>?_) (fun r4 hr4 cp_r4 pd_r4=>?_)
  ·subst nr4
   have e0 : Nb (((([] : List Aq).length : Nat) : Int).toNat + 1) ([] : List Aq) a0 (Ah 0) (⟨(Ah 0),(Ah 0)⟩ : Iv) = Aa (Uo a0.lo) fun r15=>Aa (Ut a0.lo) fun r16=>Aa (C2 r15 r16) fun r17=>Aa (Uo a0.hi) fun r18=>Aa (Ut a0.hi) fun r19=>Aa (C2 r18 r19) fun r20=>Aa (Fd r17 r20) fun r21=>r21:=by rw [Nb]; exact cond_false _ _
   show Ac _ _ (Ou [] (Af (Nb (((([] : List Aq).length : Nat) : Int).toNat + 1) ([] : List Aq) a0 (Ah 0) (⟨(Ah 0),(Ah 0)⟩ : Iv)))) _
   rw [e0]
   refine Ac.u 400 Az mixed Tryz.func288 ?_
   refine Ac.z [false] ?_
   refine Ac.q (e:=Af) (gv:=Af) (cN _) fun r15 hr15=>?_
   refine Ac.q (e:=Af) (gv:=Af) (cT _) fun r16 hr16=>?_
   refine Ac.q (e:=Af) (gv:=Af) (Cf _ _) fun r17 hr17=>?_
   refine Ac.q (e:=Af) (gv:=Af) (cN _) fun r18 hr18=>?_
   refine Ac.q (e:=Af) (gv:=Af) (cT _) fun r19 hr19=>?_
   refine Ac.q (e:=Af) (gv:=Af) (Cf _ _) fun r20 hr20=>?_
   refine Ac.q (e:=Af) (gv:=Af) (E2 _ _) fun r21 hr21=>?_
   exact Ac.x 0
  ·have hl_r4 : ((r4.length : Nat) : Int) ≤ 4000:=by rw [hr4]; exact Int.ofNat_le.2 (Vh _)
   exact Ac.l (by kernel_rfl) (by kernel_rfl) (by kernel_rfl) (by kernel_rfl) (vX (((r4.length : Nat) : Int).toNat + 1) cp_r4 pd_r4 r4 a0 (Ah 0) (⟨(Ah 0),(Ah 0)⟩ : Iv) (by first | omega | (simp only [Ad,At,Aj,Bt,decide_eq_true_eq,decide_eq_false_iff_not,cond_true,cond_false] at *; omega)) (by first | omega | (simp only [Ad,At,Aj,Bt,decide_eq_true_eq,decide_eq_false_iff_not,cond_true,cond_false] at *; omega)) (by first | omega | (simp only [Ad,At,Aj,Bt,decide_eq_true_eq,decide_eq_false_iff_not,cond_true,cond_false] at *; omega)))
theorem Adj (g : FuncId) : Br Tryz.prog 308 [] #[.func (.func g) #[] #[]] (.func (.func 318) #[] #[.pointer (some ⟨0,0,none⟩)]) [(#[.func (.func g) #[] #[]],36)]:=by
 refine If.fo rfl (If.of 400 Az mixed Tryz.func308 (by kernel_rfl) ?_)
 exact Ac.r (by kernel_rfl) ⟨0,rfl,by kernel_rfl⟩
theorem fM (a0 : Aq) : Br Tryz.prog 309 [] #[vI a0] (Af (Q6 a0)) []:=by
 refine Br.ofH 400 Az mixed Tryz.func309 (by kernel_rfl) (by kernel_rfl) ?_
 unfold Q6
 refine Ac.y (gv:=Af) (fun _=>?_) (fun _=>?_)
 ·refine Ac.q (e:=Af) (gv:=Af) (Mb _) fun r1 _=>?_
  refine Ac.q (e:=Af) (gv:=Af) (Mb _) fun r2 _=>?_
  refine Ac.q (e:=Af) (gv:=Af) (Py _) fun r3 _=>?_
  refine Ac.q (e:=Af) (gv:=Af) (Av _) fun r4 _=>?_
  refine Ac.q (e:=Af) (gv:=Af) (Cx _ _) fun r5 _=>?_
  refine Ac.q (e:=Af) (gv:=Af) (X2 _) fun r6 _=>?_
  refine Ac.q (e:=Af) (gv:=Af) (Cx _ _) fun r7 _=>?_
  refine Ac.q (e:=Af) (gv:=Af) (oW _) fun r8 _=>?_
  exact Ac.x 0
 ·refine Ac.q (e:=Af) (gv:=Af) (S6 _) fun r9 _=>?_
  refine Ac.q (e:=Af) (gv:=Af) (jI _) fun r10 _=>?_
  refine Ac.q (e:=Af) (gv:=Af) (Cx _ _) fun r11 _=>?_
  refine Ac.q (e:=Af) (gv:=Af) (Cx _ _) fun r12 _=>?_
  exact Ac.x 0
theorem Nk (a0 : Aq) : Br Tryz.prog 318 [(#[.func (.func 309) #[] #[]],36)] #[vI a0,.pointer (some ⟨0,0,none⟩)] (Af (Er a0)) [(#[.func (.func 309) #[] #[]],36)]:=by
 refine Br.ofH 400 Az mixed Tryz.func318 (by kernel_rfl) (by kernel_rfl) ?_
 unfold Er
 refine Ac.y (gv:=Af) (fun _=>?_) (fun _=>?_)
 ·refine Ac.q (e:=Af) (gv:=Af) (fM _) fun r1 _=>?_
  refine Ac.q (e:=Af) (gv:=Af) (Sb _) fun r2 _=>?_
  exact Ac.x 1
 ·refine Ac.q (e:=Af) (gv:=Af) (fM _) fun r3 _=>?_
  exact Ac.x 1
theorem Hq (a0 : Iv) : Br Tryz.prog 285 [(#[.func (.func 309) #[] #[]],36)] #[Af a0,.func (.func 318) #[] #[.pointer (some ⟨0,0,none⟩)]] (Af (Eh a0)) [(#[.func (.func 309) #[] #[]],36)]:=by
 refine Br.ofH 400 Az mixed Tryz.func285 (by kernel_rfl) (by kernel_rfl) ?_
 unfold Eh
 refine Ac.q (e:=vB) (gv:=Af) (D8 _) fun r1 _=>?_
 refine Ac.y (gv:=Af) (fun _=>?_) (fun _=>?_)
 ·refine Ac.q (e:=Af) (gv:=Af) (Bs) fun r2 _=>?_
  exact Ac.x 1
 ·refine Ac.w (e:=Af) (gv:=Af) [0] (Nk _) fun r3 _=>?_
  refine Ac.w (e:=Af) (gv:=Af) [0] (Nk _) fun r4 _=>?_
  refine Ac.q (e:=vB) (gv:=Af) (F8 _ _) fun r5 _=>?_
  refine Ac.y (gv:=Af) (fun _=>?_) (fun _=>?_)
  ·refine Ac.q (e:=Af) (gv:=Af) (Bs) fun r6 _=>?_
   exact Ac.x 1
  ·refine Ac.q (e:=Af) (gv:=Af) (F0 _ _ _) fun r7 _=>?_
   exact Ac.x 1
theorem Aam (a0 : Iv) : Br Tryz.prog 287 [] #[Af a0] (Af (Ys a0)) []:=by
 refine Br.ofH 400 Az mixed Tryz.func287 (by kernel_rfl) (by kernel_rfl) ?_
 unfold Ys
 refine Ac.o (by kernel_rfl) ?_ ?_
 ·refine Ac.m (by kernel_rfl) (by kernel_rfl) (Adj 309) (by kernel_rfl) (by kernel_rfl) (by kernel_rfl) ?_
  refine Ac.w (e:=Af) (gv:=Af) [2] (Hq _) fun r1 hr1=>?_
  exact Ac.x 0
 ·refine Ac.m (by kernel_rfl) (by kernel_rfl) (Adj 309) (by kernel_rfl) (by kernel_rfl) (by kernel_rfl) ?_
  refine Ac.w (e:=Af) (gv:=Af) [2] (Hq _) fun r2 hr2=>?_
  exact Ac.x 0
theorem K9 (a0 : Iv) : Br Tryz.prog 242 [] #[Af a0] (Af (Gp a0)) []:=by
 refine Br.ofH 400 Az mixed Tryz.func242 (by kernel_rfl) (by kernel_rfl) ?_
 unfold Gp
 refine Ac.q (e:=Af) (gv:=Af) (Agw _) fun r1 _=>?_
 refine Ac.q (e:=Af) (gv:=Af) (Aam _) fun r2 _=>?_
 exact Ac.x 0
theorem aL (b0 : Cn) : Br Tryz.prog 189 [(#[.int .i64 b0.p.kind.val,.int .i64 b0.p.lat0.val,.int .i64 b0.p.lon0.val,.int .i64 b0.p.lat1.val,.int .i64 b0.p.lat2.val,.int .i64 b0.a.lo.val,.int .i64 b0.a.hi.val,.int .i64 b0.b.lo.val,.int .i64 b0.b.hi.val,.int .i64 b0.o.lo.val,.int .i64 b0.o.hi.val,.int .i64 b0.n.lo.val,.int .i64 b0.n.hi.val,.int .i64 b0.g.lo.val,.int .i64 b0.g.hi.val],145)] #[.pointer (some ⟨0,0,none⟩)] (Af (Kf b0)) [(#[.int .i64 b0.p.kind.val,.int .i64 b0.p.lat0.val,.int .i64 b0.p.lon0.val,.int .i64 b0.p.lat1.val,.int .i64 b0.p.lat2.val,.int .i64 b0.a.lo.val,.int .i64 b0.a.hi.val,.int .i64 b0.b.lo.val,.int .i64 b0.b.hi.val,.int .i64 b0.o.lo.val,.int .i64 b0.o.hi.val,.int .i64 b0.n.lo.val,.int .i64 b0.n.hi.val,.int .i64 b0.g.lo.val,.int .i64 b0.g.hi.val],145)]:=by
 refine Br.ofH 400 Az mixed Tryz.func189 (by kernel_rfl) (by kernel_rfl) ?_
 unfold Kf
 refine Ac.y (gv:=Af) (fun _=>?_) (fun _=>?_)
 ·refine Ac.q (e:=Af) (gv:=Af) (La _) fun r1 _=>?_
  refine Ac.q (e:=Af) (gv:=Af) (La _) fun r2 _=>?_
  refine Ac.q (e:=Af) (gv:=Af) (Cx _ _) fun r3 _=>?_
  refine Ac.q (e:=Af) (gv:=Af) (s5 _) fun r4 _=>?_
  exact Ac.x 1
 ·refine Ac.y (gv:=Af) (fun _=>?_) (fun _=>?_)
  ·refine Ac.q (e:=Af) (gv:=Af) (La _) fun r5 _=>?_
   exact Ac.x 1
  ·refine Ac.y (gv:=Af) (fun _=>?_) (fun _=>?_)
   ·refine Ac.q (e:=Af) (gv:=Af) (Fx _) fun r6 _=>?_
    refine Ac.q (e:=Af) (gv:=Af) (oW _) fun r7 _=>?_
    refine Ac.q (e:=Af) (gv:=Af) (Fx _) fun r8 _=>?_
    refine Ac.q (e:=Af) (gv:=Af) (oW _) fun r9 _=>?_
    refine Ac.q (e:=Af) (gv:=Af) (D1 _ _) fun r10 _=>?_
    refine Ac.q (e:=Af) (gv:=Af) (K9 _) fun r11 _=>?_
    refine Ac.q (e:=Af) (gv:=Af) (K9 _) fun r12 _=>?_
    refine Ac.q (e:=Af) (gv:=Af) (D1 _ _) fun r13 _=>?_
    refine Ac.q (e:=Af) (gv:=Af) (Cf _ _) fun r14 _=>?_
    exact Ac.x 1
   ·refine Ac.q (e:=Af) (gv:=Af) (Fx _) fun r15 _=>?_
    refine Ac.q (e:=Af) (gv:=Af) (Fx _) fun r16 _=>?_
    refine Ac.q (e:=Af) (gv:=Af) (D1 _ _) fun r17 _=>?_
    refine Ac.q (e:=Af) (gv:=Af) (D1 _ _) fun r18 _=>?_
    refine Ac.q (e:=Af) (gv:=Af) (Cf _ _) fun r19 _=>?_
    exact Ac.x 1
theorem jB (a0 : Aq) (a1 : Iv) : Br Tryz.prog 56 [] #[vI a0,Af a1] (Af (W6 a0 a1)) []:=by
 refine Br.ofH 400 Az mixed Tryz.func56 (by kernel_rfl) (by kernel_rfl) ?_
 unfold W6
 refine Ac.q (e:=Af) (gv:=Af) (Av _) fun r1 _=>?_
 refine Ac.q (e:=Af) (gv:=Af) (Bk _ _) fun r2 _=>?_
 exact Ac.x 0
theorem oR : ∀ (fu : Nat) (x_k : Aq) (y_0 : Iv) (q0 : -100 ≤ x_k.val) (q1 : x_k.val ≤ 100) (hm : x_k.val.toNat < fu) (t : Array Value) (ht : Qf t [0,3,5,6,7,8,9,10,11,12,13,14,15,16,17,18,19,20,21,22,23,24,25,26] = #[undef,.int .i64 x_k.val,.pointer (some ⟨0,0,none⟩),undef,.pointer (some ⟨1,0,none⟩),undef,undef,undef,undef,undef,undef,undef,undef,undef,undef,undef,undef,undef,undef,undef,undef,undef,undef,undef,undef,undef,undef]),Ox Tryz.prog 310 (Wj Tryz.f310 0) t [(#[.int .i64 y_0.lo.val,.int .i64 y_0.hi.val],31),(#[.int .i64 0,.int .i64 0],31)] (Ou [] (Af (Gn fu x_k y_0))):=by
 intro fu
 induction fu with
 | zero=>intro x_k y_0 q0 q1 hm; exact absurd hm (Nat.not_lt_zero _)
 | succ fu ih=>
  intro x_k y_0 q0 q1 hm t ht
  refine Ox.round Az mixed Tryz.func310 ht fun g=>?_
  unfold Gn
  refine Ac.y (gv:=Af) (fun h1=>?_) (fun h1=>?_)
  ·refine Ac.q (e:=Af) (gv:=Af) (Wf _) fun r2 hr2=>?_
   exact Ac.l (by kernel_rfl) (by kernel_rfl) (by kernel_rfl) (by kernel_rfl) (ih (An (x_k.val - 1)) r2 (by first | omega | (simp only [Ad,At,Aj,Bt,decide_eq_true_eq,decide_eq_false_iff_not,cond_true,cond_false] at *; omega)) (by first | omega | (simp only [Ad,At,Aj,Bt,decide_eq_true_eq,decide_eq_false_iff_not,cond_true,cond_false] at *; omega)) (by first | omega | (simp only [Ad,At,Aj,Bt,decide_eq_true_eq,decide_eq_false_iff_not,cond_true,cond_false] at *; omega)))
  ·refine Ac.q (e:=vB) (gv:=Af) (D8 _) fun r3 hr3=>?_
   refine Ac.y (gv:=Af) (fun h4=>?_) (fun h4=>?_)
   ·refine Ac.q (e:=Af) (gv:=Af) (Bs) fun r5 hr5=>?_
    exact Ac.x 0
   ·refine Ac.k (c:=(decide (0 ≤ (An (0 - x_k.val)).val))) (by kernel_rfl) (by simp only [Ad,At,Aj,Bt,decide_eq_true_eq,decide_eq_false_iff_not,cond_true,cond_false] at *; omega) ?_
    refine Ac.k (c:=(decide (0 ≤ (An (0 - x_k.val)).val))) (by kernel_rfl) (by simp only [Ad,At,Aj,Bt,decide_eq_true_eq,decide_eq_false_iff_not,cond_true,cond_false] at *; omega) ?_
    exact Ac.x 0
theorem mO (a0 : Iv) (a1 : Aq) (p0 : -100 ≤ a1.val) (p1 : a1.val ≤ 100) : Br Tryz.prog 310 [] #[Af a0,vI a1] (Af (Tv a0 a1)) []:=by
 refine Br.ofH 400 Az mixed Tryz.func310 (by kernel_rfl) (by kernel_rfl) ?_
 unfold Tv
 exact Ac.l (by kernel_rfl) (by kernel_rfl) (by kernel_rfl) (by kernel_rfl) (oR (a1.val.toNat + 1) a1 a0 (by first | omega | (simp only [Ad,At,Aj,Bt,decide_eq_true_eq,decide_eq_false_iff_not,cond_true,cond_false] at *; omega)) (by first | omega | (simp only [Ad,At,Aj,Bt,decide_eq_true_eq,decide_eq_false_iff_not,cond_true,cond_false] at *; omega)) (by first | omega | (simp only [Ad,At,Aj,Bt,decide_eq_true_eq,decide_eq_false_iff_not,cond_true,cond_false] at *; omega)))
theorem s6 (a0 : Aq) : Br Tryz.prog 289 [] #[vI a0] (Af (Xb a0)) []:=by
 refine Br.ofH 400 Az mixed Tryz.func289 (by kernel_rfl) (by kernel_rfl) ?_
 unfold Xb
 refine Ac.q (e:=vB) (gv:=Af) (Hm _) fun r1 hr1=>?_
 refine Ac.y (gv:=Af) (fun h2=>?_) (fun h2=>?_)
 ·refine Ac.z [true,true,true] ?_
  refine Ac.q (e:=Af) (gv:=Af) (Bs) fun r3 hr3=>?_
  exact Ac.x 0
 ·refine Ac.z [false,false] ?_
  refine Ac.y (gv:=Af) (fun h4=>?_) (fun h4=>?_)
  ·refine Ac.q (e:=Af) (gv:=Af) (Bs) fun r5 hr5=>?_
   exact Ac.x 0
  ·refine Ac.y (gv:=Af) (fun h6=>?_) (fun h6=>?_)
   ·exact Ac.x 0
   ·refine Ac.z [true] ?_
    refine Ac.y (gv:=Af) (fun h7=>?_) (fun h7=>?_)
    ·refine Ac.q (e:=Af) (gv:=Af) (Mb _) fun r8 hr8=>?_
     refine Ac.q (e:=Af) (gv:=Af) (S6 _) fun r9 hr9=>?_
     refine Ac.q (e:=Af) (gv:=Af) (D1 _ _) fun r10 hr10=>?_
     refine Ac.q (e:=Af) (gv:=Af) (Av _) fun r11 hr11=>?_
     refine Ac.u 400 Az mixed Tryz.func289 ?_
     refine Ac.z [true] ?_
     refine Ac.q (e:=Af) (gv:=Af) (Av _) fun r12 hr12=>?_
     refine Ac.q (e:=Af) (gv:=Af) (Bk _ _) fun r13 hr13=>?_
     refine Ac.q (e:=Af) (gv:=Af) (Av _) fun r14 hr14=>?_
     refine Ac.q (e:=Af) (gv:=Af) (Cf _ _) fun r15 hr15=>?_
     refine Ac.q (e:=Af) (gv:=Af) (Cx _ _) fun r16 hr16=>?_
     refine Ac.u 400 Az mixed Tryz.func289 ?_
     refine Ac.z [true] ?_
     refine Ac.q (e:=Af) (gv:=Af) (Av _) fun r17 hr17=>?_
     refine Ac.q (e:=Af) (gv:=Af) (Bk _ _) fun r18 hr18=>?_
     refine Ac.q (e:=Af) (gv:=Af) (Av _) fun r19 hr19=>?_
     refine Ac.q (e:=Af) (gv:=Af) (Cf _ _) fun r20 hr20=>?_
     refine Ac.q (e:=Af) (gv:=Af) (Cx _ _) fun r21 hr21=>?_
     refine Ac.u 400 Az mixed Tryz.func289 ?_
     refine Ac.z [true] ?_
     refine Ac.q (e:=Af) (gv:=Af) (Av _) fun r22 hr22=>?_
     refine Ac.q (e:=Af) (gv:=Af) (Bk _ _) fun r23 hr23=>?_
     refine Ac.q (e:=Af) (gv:=Af) (Av _) fun r24 hr24=>?_
     refine Ac.q (e:=Af) (gv:=Af) (Cf _ _) fun r25 hr25=>?_
     refine Ac.q (e:=Af) (gv:=Af) (Cx _ _) fun r26 hr26=>?_
     refine Ac.u 400 Az mixed Tryz.func289 ?_
     refine Ac.z [true] ?_
     refine Ac.q (e:=Af) (gv:=Af) (Av _) fun r27 hr27=>?_
     refine Ac.q (e:=Af) (gv:=Af) (Bk _ _) fun r28 hr28=>?_
     refine Ac.q (e:=Af) (gv:=Af) (Av _) fun r29 hr29=>?_
     refine Ac.q (e:=Af) (gv:=Af) (Cf _ _) fun r30 hr30=>?_
     refine Ac.q (e:=Af) (gv:=Af) (Cx _ _) fun r31 hr31=>?_
     refine Ac.u 400 Az mixed Tryz.func289 ?_
     refine Ac.z [true] ?_
     refine Ac.q (e:=Af) (gv:=Af) (Av _) fun r32 hr32=>?_
     refine Ac.q (e:=Af) (gv:=Af) (Bk _ _) fun r33 hr33=>?_
     refine Ac.q (e:=Af) (gv:=Af) (Av _) fun r34 hr34=>?_
     refine Ac.q (e:=Af) (gv:=Af) (Cf _ _) fun r35 hr35=>?_
     refine Ac.q (e:=Af) (gv:=Af) (Cx _ _) fun r36 hr36=>?_
     refine Ac.u 400 Az mixed Tryz.func289 ?_
     refine Ac.z [true] ?_
     refine Ac.q (e:=Af) (gv:=Af) (Av _) fun r37 hr37=>?_
     refine Ac.q (e:=Af) (gv:=Af) (Bk _ _) fun r38 hr38=>?_
     refine Ac.q (e:=Af) (gv:=Af) (Av _) fun r39 hr39=>?_
     refine Ac.q (e:=Af) (gv:=Af) (Cf _ _) fun r40 hr40=>?_
     refine Ac.q (e:=Af) (gv:=Af) (Cx _ _) fun r41 hr41=>?_
     refine Ac.u 400 Az mixed Tryz.func289 ?_
     refine Ac.z [true] ?_
     refine Ac.q (e:=Af) (gv:=Af) (Av _) fun r42 hr42=>?_
     refine Ac.q (e:=Af) (gv:=Af) (Bk _ _) fun r43 hr43=>?_
     refine Ac.q (e:=Af) (gv:=Af) (Av _) fun r44 hr44=>?_
     refine Ac.q (e:=Af) (gv:=Af) (Cf _ _) fun r45 hr45=>?_
     refine Ac.q (e:=Af) (gv:=Af) (Cx _ _) fun r46 hr46=>?_
     refine Ac.u 400 Az mixed Tryz.func289 ?_
     refine Ac.z [true] ?_
     refine Ac.q (e:=Af) (gv:=Af) (Av _) fun r47 hr47=>?_
     refine Ac.q (e:=Af) (gv:=Af) (Bk _ _) fun r48 hr48=>?_
     refine Ac.q (e:=Af) (gv:=Af) (Av _) fun r49 hr49=>?_
     refine Ac.q (e:=Af) (gv:=Af) (Cf _ _) fun r50 hr50=>?_
     refine Ac.q (e:=Af) (gv:=Af) (Cx _ _) fun r51 hr51=>?_
     refine Ac.u 400 Az mixed Tryz.func289 ?_
     refine Ac.z [true] ?_
     refine Ac.q (e:=Af) (gv:=Af) (Av _) fun r52 hr52=>?_
     refine Ac.q (e:=Af) (gv:=Af) (Bk _ _) fun r53 hr53=>?_
     refine Ac.q (e:=Af) (gv:=Af) (Av _) fun r54 hr54=>?_
     refine Ac.q (e:=Af) (gv:=Af) (Cf _ _) fun r55 hr55=>?_
     refine Ac.q (e:=Af) (gv:=Af) (Cx _ _) fun r56 hr56=>?_
     refine Ac.u 400 Az mixed Tryz.func289 ?_
     refine Ac.z [false] ?_
     refine Ac.q (e:=Af) (gv:=Af) (V9 _ _) fun r57 hr57=>?_
     refine Ac.q (e:=Af) (gv:=Af) (mO _ _ (by have z:=Wp a0 h6 h4; first | exact z.1 | exact z.2.1 | exact z.2.2.1 | exact z.2.2.2) (by have z:=Wp a0 h6 h4; first | exact z.1 | exact z.2.1 | exact z.2.2.1 | exact z.2.2.2)) fun r58 hr58=>?_
     exact Ac.x 0
    ·refine Ac.q (e:=Af) (gv:=Af) (Mb _) fun r59 hr59=>?_
     refine Ac.q (e:=Af) (gv:=Af) (S6 _) fun r60 hr60=>?_
     refine Ac.q (e:=Af) (gv:=Af) (D1 _ _) fun r61 hr61=>?_
     refine Ac.q (e:=Af) (gv:=Af) (Av _) fun r62 hr62=>?_
     refine Ac.u 400 Az mixed Tryz.func289 ?_
     refine Ac.z [true] ?_
     refine Ac.q (e:=Af) (gv:=Af) (Av _) fun r63 hr63=>?_
     refine Ac.q (e:=Af) (gv:=Af) (Bk _ _) fun r64 hr64=>?_
     refine Ac.q (e:=Af) (gv:=Af) (Av _) fun r65 hr65=>?_
     refine Ac.q (e:=Af) (gv:=Af) (Cf _ _) fun r66 hr66=>?_
     refine Ac.q (e:=Af) (gv:=Af) (Cx _ _) fun r67 hr67=>?_
     refine Ac.u 400 Az mixed Tryz.func289 ?_
     refine Ac.z [true] ?_
     refine Ac.q (e:=Af) (gv:=Af) (Av _) fun r68 hr68=>?_
     refine Ac.q (e:=Af) (gv:=Af) (Bk _ _) fun r69 hr69=>?_
     refine Ac.q (e:=Af) (gv:=Af) (Av _) fun r70 hr70=>?_
     refine Ac.q (e:=Af) (gv:=Af) (Cf _ _) fun r71 hr71=>?_
     refine Ac.q (e:=Af) (gv:=Af) (Cx _ _) fun r72 hr72=>?_
     refine Ac.u 400 Az mixed Tryz.func289 ?_
     refine Ac.z [true] ?_
     refine Ac.q (e:=Af) (gv:=Af) (Av _) fun r73 hr73=>?_
     refine Ac.q (e:=Af) (gv:=Af) (Bk _ _) fun r74 hr74=>?_
     refine Ac.q (e:=Af) (gv:=Af) (Av _) fun r75 hr75=>?_
     refine Ac.q (e:=Af) (gv:=Af) (Cf _ _) fun r76 hr76=>?_
     refine Ac.q (e:=Af) (gv:=Af) (Cx _ _) fun r77 hr77=>?_
     refine Ac.u 400 Az mixed Tryz.func289 ?_
     refine Ac.z [true] ?_
     refine Ac.q (e:=Af) (gv:=Af) (Av _) fun r78 hr78=>?_
     refine Ac.q (e:=Af) (gv:=Af) (Bk _ _) fun r79 hr79=>?_
     refine Ac.q (e:=Af) (gv:=Af) (Av _) fun r80 hr80=>?_
     refine Ac.q (e:=Af) (gv:=Af) (Cf _ _) fun r81 hr81=>?_
     refine Ac.q (e:=Af) (gv:=Af) (Cx _ _) fun r82 hr82=>?_
     refine Ac.u 400 Az mixed Tryz.func289 ?_
     refine Ac.z [true] ?_
     refine Ac.q (e:=Af) (gv:=Af) (Av _) fun r83 hr83=>?_
     refine Ac.q (e:=Af) (gv:=Af) (Bk _ _) fun r84 hr84=>?_
     refine Ac.q (e:=Af) (gv:=Af) (Av _) fun r85 hr85=>?_
     refine Ac.q (e:=Af) (gv:=Af) (Cf _ _) fun r86 hr86=>?_
     refine Ac.q (e:=Af) (gv:=Af) (Cx _ _) fun r87 hr87=>?_
     refine Ac.u 400 Az mixed Tryz.func289 ?_
     refine Ac.z [true] ?_
     refine Ac.q (e:=Af) (gv:=Af) (Av _) fun r88 hr88=>?_
     refine Ac.q (e:=Af) (gv:=Af) (Bk _ _) fun r89 hr89=>?_
     refine Ac.q (e:=Af) (gv:=Af) (Av _) fun r90 hr90=>?_
     refine Ac.q (e:=Af) (gv:=Af) (Cf _ _) fun r91 hr91=>?_
     refine Ac.q (e:=Af) (gv:=Af) (Cx _ _) fun r92 hr92=>?_
     refine Ac.u 400 Az mixed Tryz.func289 ?_
     refine Ac.z [true] ?_
     refine Ac.q (e:=Af) (gv:=Af) (Av _) fun r93 hr93=>?_
     refine Ac.q (e:=Af) (gv:=Af) (Bk _ _) fun r94 hr94=>?_
     refine Ac.q (e:=Af) (gv:=Af) (Av _) fun r95 hr95=>?_
     refine Ac.q (e:=Af) (gv:=Af) (Cf _ _) fun r96 hr96=>?_
     refine Ac.q (e:=Af) (gv:=Af) (Cx _ _) fun r97 hr97=>?_
     refine Ac.u 400 Az mixed Tryz.func289 ?_
     refine Ac.z [true] ?_
     refine Ac.q (e:=Af) (gv:=Af) (Av _) fun r98 hr98=>?_
     refine Ac.q (e:=Af) (gv:=Af) (Bk _ _) fun r99 hr99=>?_
     refine Ac.q (e:=Af) (gv:=Af) (Av _) fun r100 hr100=>?_
     refine Ac.q (e:=Af) (gv:=Af) (Cf _ _) fun r101 hr101=>?_
     refine Ac.q (e:=Af) (gv:=Af) (Cx _ _) fun r102 hr102=>?_
     refine Ac.u 400 Az mixed Tryz.func289 ?_
     refine Ac.z [true] ?_
     refine Ac.q (e:=Af) (gv:=Af) (Av _) fun r103 hr103=>?_
     refine Ac.q (e:=Af) (gv:=Af) (Bk _ _) fun r104 hr104=>?_
     refine Ac.q (e:=Af) (gv:=Af) (Av _) fun r105 hr105=>?_
     refine Ac.q (e:=Af) (gv:=Af) (Cf _ _) fun r106 hr106=>?_
     refine Ac.q (e:=Af) (gv:=Af) (Cx _ _) fun r107 hr107=>?_
     refine Ac.u 400 Az mixed Tryz.func289 ?_
     refine Ac.z [false] ?_
     refine Ac.q (e:=Af) (gv:=Af) (V9 _ _) fun r108 hr108=>?_
     refine Ac.q (e:=Af) (gv:=Af) (mO _ _ (by have z:=Wp a0 h6 h4; first | exact z.1 | exact z.2.1 | exact z.2.2.1 | exact z.2.2.2) (by have z:=Wp a0 h6 h4; first | exact z.1 | exact z.2.1 | exact z.2.2.1 | exact z.2.2.2)) fun r109 hr109=>?_
     exact Ac.x 0
theorem Uy (a0 : Iv) : Br Tryz.prog 285 [] #[Af a0,.func (.func 289) #[] #[]] (Af (Iq a0)) []:=by
 refine Br.ofH 400 Az mixed Tryz.func285 (by kernel_rfl) (by kernel_rfl) ?_
 unfold Iq
 refine Ac.q (e:=vB) (gv:=Af) (D8 _) fun r1 _=>?_
 refine Ac.y (gv:=Af) (fun _=>?_) (fun _=>?_)
 ·refine Ac.q (e:=Af) (gv:=Af) (Bs) fun r2 _=>?_
  exact Ac.x 0
 ·refine Ac.q (e:=Af) (gv:=Af) (s6 _) fun r3 _=>?_
  refine Ac.q (e:=Af) (gv:=Af) (s6 _) fun r4 _=>?_
  refine Ac.q (e:=vB) (gv:=Af) (F8 _ _) fun r5 _=>?_
  refine Ac.y (gv:=Af) (fun _=>?_) (fun _=>?_)
  ·refine Ac.q (e:=Af) (gv:=Af) (Bs) fun r6 _=>?_
   exact Ac.x 0
  ·refine Ac.q (e:=Af) (gv:=Af) (F0 _ _ _) fun r7 _=>?_
   exact Ac.x 0
theorem xZ (a0 : Iv) : Br Tryz.prog 243 [] #[Af a0] (Af (eX a0)) []:=by
 refine Br.ofH 400 Az mixed Tryz.func243 (by kernel_rfl) (by kernel_rfl) ?_
 unfold eX
 refine Ac.q (e:=Af) (gv:=Af) (Uy _) fun r1 _=>?_
 exact Ac.x 0
theorem Wb (b0 : Cn) : Br Tryz.prog 190 [(#[.int .i64 b0.p.kind.val,.int .i64 b0.p.lat0.val,.int .i64 b0.p.lon0.val,.int .i64 b0.p.lat1.val,.int .i64 b0.p.lat2.val,.int .i64 b0.a.lo.val,.int .i64 b0.a.hi.val,.int .i64 b0.b.lo.val,.int .i64 b0.b.hi.val,.int .i64 b0.o.lo.val,.int .i64 b0.o.hi.val,.int .i64 b0.n.lo.val,.int .i64 b0.n.hi.val,.int .i64 b0.g.lo.val,.int .i64 b0.g.hi.val],145)] #[.pointer (some ⟨0,0,none⟩)] (Af (Ht b0)) [(#[.int .i64 b0.p.kind.val,.int .i64 b0.p.lat0.val,.int .i64 b0.p.lon0.val,.int .i64 b0.p.lat1.val,.int .i64 b0.p.lat2.val,.int .i64 b0.a.lo.val,.int .i64 b0.a.hi.val,.int .i64 b0.b.lo.val,.int .i64 b0.b.hi.val,.int .i64 b0.o.lo.val,.int .i64 b0.o.hi.val,.int .i64 b0.n.lo.val,.int .i64 b0.n.hi.val,.int .i64 b0.g.lo.val,.int .i64 b0.g.hi.val],145)]:=by
 refine Br.ofH 400 Az mixed Tryz.func190 (by kernel_rfl) (by kernel_rfl) ?_
 unfold Ht
 refine Ac.y (gv:=Af) (fun _=>?_) (fun _=>?_)
 ·refine Ac.q (e:=Af) (gv:=Af) (Fx _) fun r1 _=>?_
  refine Ac.q (e:=Af) (gv:=Af) (Py _) fun r2 _=>?_
  refine Ac.q (e:=Af) (gv:=Af) (jB _ _) fun r3 _=>?_
  refine Ac.q (e:=Af) (gv:=Af) (La _) fun r4 _=>?_
  refine Ac.q (e:=Af) (gv:=Af) (Bk _ _) fun r5 _=>?_
  refine Ac.q (e:=Af) (gv:=Af) (Cx _ _) fun r6 _=>?_
  exact Ac.x 1
 ·refine Ac.y (gv:=Af) (fun _=>?_) (fun _=>?_)
  ·refine Ac.q (e:=Af) (gv:=Af) (Fx _) fun r7 _=>?_
   refine Ac.q (e:=Af) (gv:=Af) (K9 _) fun r8 _=>?_
   refine Ac.q (e:=Af) (gv:=Af) (Bk _ _) fun r9 _=>?_
   refine Ac.q (e:=Af) (gv:=Af) (xZ _) fun r10 _=>?_
   refine Ac.q (e:=Af) (gv:=Af) (Bk _ _) fun r11 _=>?_
   refine Ac.q (e:=Af) (gv:=Af) (Cf _ _) fun r12 _=>?_
   exact Ac.x 1
  ·refine Ac.q (e:=Af) (gv:=Af) (Fx _) fun r13 _=>?_
   refine Ac.q (e:=Af) (gv:=Af) (Cf _ _) fun r14 _=>?_
   refine Ac.q (e:=Af) (gv:=Af) (Cx _ _) fun r15 _=>?_
   exact Ac.x 1
def Gb (r : Cn × Aq) : Value → List C6 → Prop:=MB 145 (r.2.val != 0) (vCn r.1).cells
theorem rU (a0 : Pj) : If Tryz.prog 113 [] #[L8 a0] (MBx 145 ((Mk a0).2.val != 0) (vCn (Mk a0).1).cells):=by
 refine If.mb (by kernel_rfl) (If.of 400 Az mixed Tryz.func113 (by kernel_rfl) ?_)
 show Ac _ _ (Gb (Mk a0)) _
 unfold Mk
 refine Ac.gq (Rg:=Gb) (e:=vB) (Hu _) fun r1 hr1=>?_
 refine Ac.gy (Rg:=Gb) (fun h2=>?_) (fun h2=>?_)
 ·refine Ac.z [true,true,true,true,true] ?_
  exact Ac.mbn (by kernel_rfl) (by kernel_rfl)
 ·refine Ac.z [false,false] ?_
  refine Ac.gq (Rg:=Gb) (e:=vB) (Bn _) fun r3 hr3=>?_
  refine Ac.z [false,false] ?_
  refine Ac.gy (Rg:=Gb) (fun h4=>?_) (fun h4=>?_)
  ·exact Ac.mbn (by kernel_rfl) (by kernel_rfl)
  ·refine Ac.gq (Rg:=Gb) (e:=Af) (J6 _) fun r5 hr5=>?_
   refine Ac.gq (Rg:=Gb) (e:=Af) (J6 _) fun r6 hr6=>?_
   refine Ac.gq (Rg:=Gb) (e:=Af) (J6 _) fun r7 hr7=>?_
   refine Ac.gw (Rg:=Gb) (e:=Af) [1] (aL _) fun r8 hr8=>?_
   refine Ac.gw (Rg:=Gb) (e:=Af) [1] (Wb _) fun r9 hr9=>?_
   exact Ac.mbp 1 (by kernel_rfl) (by kernel_rfl) (by kernel_rfl)
theorem X1 (b0 : Cn) (a0 : Iv) : Br Tryz.prog 191 [(#[.int .i64 b0.p.kind.val,.int .i64 b0.p.lat0.val,.int .i64 b0.p.lon0.val,.int .i64 b0.p.lat1.val,.int .i64 b0.p.lat2.val,.int .i64 b0.a.lo.val,.int .i64 b0.a.hi.val,.int .i64 b0.b.lo.val,.int .i64 b0.b.hi.val,.int .i64 b0.o.lo.val,.int .i64 b0.o.hi.val,.int .i64 b0.n.lo.val,.int .i64 b0.n.hi.val,.int .i64 b0.g.lo.val,.int .i64 b0.g.hi.val],145)] #[.pointer (some ⟨0,0,none⟩),Af a0] (Af (I2 b0 a0)) [(#[.int .i64 b0.p.kind.val,.int .i64 b0.p.lat0.val,.int .i64 b0.p.lon0.val,.int .i64 b0.p.lat1.val,.int .i64 b0.p.lat2.val,.int .i64 b0.a.lo.val,.int .i64 b0.a.hi.val,.int .i64 b0.b.lo.val,.int .i64 b0.b.hi.val,.int .i64 b0.o.lo.val,.int .i64 b0.o.hi.val,.int .i64 b0.n.lo.val,.int .i64 b0.n.hi.val,.int .i64 b0.g.lo.val,.int .i64 b0.g.hi.val],145)]:=by
 refine Br.ofH 400 Az mixed Tryz.func191 (by kernel_rfl) (by kernel_rfl) ?_
 unfold I2
 refine Ac.y (gv:=Af) (fun _=>?_) (fun _=>?_)
 ·refine Ac.q (e:=Af) (gv:=Af) (jB _ _) fun r1 _=>?_
  refine Ac.q (e:=Af) (gv:=Af) (La _) fun r2 _=>?_
  refine Ac.q (e:=Af) (gv:=Af) (Bk _ _) fun r3 _=>?_
  refine Ac.q (e:=Af) (gv:=Af) (D1 _ _) fun r4 _=>?_
  refine Ac.q (e:=Af) (gv:=Af) (X2 _) fun r5 _=>?_
  refine Ac.q (e:=Af) (gv:=Af) (Cf _ _) fun r6 _=>?_
  exact Ac.x 1
 ·refine Ac.y (gv:=Af) (fun _=>?_) (fun _=>?_)
  ·refine Ac.q (e:=Af) (gv:=Af) (K9 _) fun r7 _=>?_
   refine Ac.q (e:=Af) (gv:=Af) (Bk _ _) fun r8 _=>?_
   refine Ac.q (e:=Af) (gv:=Af) (Sb _) fun r9 _=>?_
   refine Ac.q (e:=Af) (gv:=Af) (xZ _) fun r10 _=>?_
   refine Ac.q (e:=Af) (gv:=Af) (Bk _ _) fun r11 _=>?_
   exact Ac.x 1
  ·refine Ac.q (e:=Af) (gv:=Af) (D1 _ _) fun r12 _=>?_
   exact Ac.x 1
theorem Zo (b0 : Cn) (a0 : Iv) : Br Tryz.prog 114 [(#[.int .i64 b0.p.kind.val,.int .i64 b0.p.lat0.val,.int .i64 b0.p.lon0.val,.int .i64 b0.p.lat1.val,.int .i64 b0.p.lat2.val,.int .i64 b0.a.lo.val,.int .i64 b0.a.hi.val,.int .i64 b0.b.lo.val,.int .i64 b0.b.hi.val,.int .i64 b0.o.lo.val,.int .i64 b0.o.hi.val,.int .i64 b0.n.lo.val,.int .i64 b0.n.hi.val,.int .i64 b0.g.lo.val,.int .i64 b0.g.hi.val],145)] #[.pointer (some ⟨0,0,none⟩),Af a0] (Af (Jr b0 a0)) [(#[.int .i64 b0.p.kind.val,.int .i64 b0.p.lat0.val,.int .i64 b0.p.lon0.val,.int .i64 b0.p.lat1.val,.int .i64 b0.p.lat2.val,.int .i64 b0.a.lo.val,.int .i64 b0.a.hi.val,.int .i64 b0.b.lo.val,.int .i64 b0.b.hi.val,.int .i64 b0.o.lo.val,.int .i64 b0.o.hi.val,.int .i64 b0.n.lo.val,.int .i64 b0.n.hi.val,.int .i64 b0.g.lo.val,.int .i64 b0.g.hi.val],145)]:=by
 refine Br.ofH 400 Az mixed Tryz.func114 (by kernel_rfl) (by kernel_rfl) ?_
 unfold Jr
 refine Ac.w (e:=Af) (gv:=Af) [0] (X1 _ _) fun r1 _=>?_
 refine Ac.q (e:=Af) (gv:=Af) (Bk _ _) fun r2 _=>?_
 refine Ac.q (e:=Af) (gv:=Af) (Fx _) fun r3 _=>?_
 refine Ac.q (e:=Af) (gv:=Af) (Cf _ _) fun r4 _=>?_
 exact Ac.x 1
theorem jL (a0 : Pj) (a1 : Pt) : Br Tryz.prog 45 [] #[L8 a0,E6 a1] (Au (N8 a0 a1)) []:=by
 refine Br.ofH 400 Az mixed Tryz.func45 (by kernel_rfl) (by kernel_rfl) ?_
 unfold N8
 refine Ac.bmb (nn:=fun r : Cn × Aq=>(r.2.val != 0)) (cl:=fun r : Cn × Aq=>(vCn r.1).cells) (gv:=Au) (by kernel_rfl) (by kernel_rfl) (rU _) (by kernel_rfl) (fun _=>rfl) (fun r1 hr1=>?_) (fun r1 hr1=>?_)
 ·refine Ac.z [true,true,true,true,true] ?_
  exact Ac.x 0
 ·refine Ac.z [false,false] ?_
  refine Ac.q (e:=vB) (gv:=Au) (F9 _) fun r2 hr2=>?_
  refine Ac.z [false,false] ?_
  refine Ac.y (gv:=Au) (fun h3=>?_) (fun h3=>?_)
  ·exact Ac.x 0
  ·refine Ac.q (e:=vB) (gv:=Au) (eE _) fun r4 hr4=>?_
   refine Ac.y (gv:=Au) (fun h5=>?_) (fun h5=>?_)
   ·exact Ac.x 0
   ·refine Ac.q (e:=Af) (gv:=Au) (Re _) fun r6 hr6=>?_
    refine Ac.w (e:=Af) (gv:=Au) [4] (Zo _ _) fun r7 hr7=>?_
    refine Ac.y (gv:=Au) (fun h8=>?_) (fun h8=>?_)
    ·refine Ac.q (e:=Af) (gv:=Au) (Av _) fun r9 hr9=>?_
     refine Ac.q (e:=Af) (gv:=Au) (Cf _ _) fun r10 hr10=>?_
     refine Ac.q (e:=Au) (gv:=Au) (Ue _ _) fun r11 hr11=>?_
     exact Ac.x 0
    ·refine Ac.y (gv:=Au) (fun h12=>?_) (fun h12=>?_)
     ·refine Ac.q (e:=Au) (gv:=Au) (Ue _ _) fun r13 hr13=>?_
      exact Ac.x 0
     ·refine Ac.q (e:=Af) (gv:=Au) (Av _) fun r14 hr14=>?_
      refine Ac.q (e:=Au) (gv:=Au) (Ue _ _) fun r15 hr15=>?_
      exact Ac.x 0
theorem g8 (a0 : Pj) : Br Tryz.prog 192 [] #[L8 a0] (vB (Ml a0)) []:=by
 refine Br.ofH 400 Az mixed Tryz.func192 (by kernel_rfl) (by kernel_rfl) ?_
 unfold Ml
 refine Ac.q (e:=vB) (gv:=vB) (Hu _) fun r1 _=>?_
 refine Ac.y (gv:=vB) (fun _=>?_) (fun _=>?_)
 ·refine Ac.z [true,true,true] ?_
  exact Ac.x 0
 ·refine Ac.z [false,false,false] ?_
  exact Ac.x 0
theorem jH (a0 : Pj) (a1 : Pt) : Br Tryz.prog 194 [] #[L8 a0,E6 a1] (Af (Ss a0 a1)) []:=by
 refine Br.ofH 400 Az mixed Tryz.func194 (by kernel_rfl) (by kernel_rfl) ?_
 unfold Ss
 refine Ac.q (e:=vB) (gv:=Af) (Hu _) fun r1 _=>?_
 refine Ac.y (gv:=Af) (fun _=>?_) (fun _=>?_)
 ·refine Ac.z [true,true,true,true] ?_
  refine Ac.q (e:=Af) (gv:=Af) (Bs) fun r2 _=>?_
  exact Ac.x 0
 ·refine Ac.z [false] ?_
  refine Ac.q (e:=vB) (gv:=Af) (F9 _) fun r3 _=>?_
  refine Ac.z [false,false] ?_
  refine Ac.y (gv:=Af) (fun _=>?_) (fun _=>?_)
  ·refine Ac.q (e:=Af) (gv:=Af) (Bs) fun r4 _=>?_
   exact Ac.x 0
  ·refine Ac.q (e:=vI) (gv:=Af) (Wc _) fun r5 _=>?_
   refine Ac.q (e:=Af) (gv:=Af) (J6 _) fun r6 _=>?_
   exact Ac.x 0
theorem lO (a0 : Pj) (a1 : Pt) : Br Tryz.prog 115 [] #[L8 a0,E6 a1] (Di (P6 a0 a1)) []:=by
 refine Br.ofH 400 Az mixed Tryz.func115 (by kernel_rfl) (by kernel_rfl) ?_
 unfold P6
 refine Ac.q (e:=vB) (gv:=Di) (g8 _) fun r1 _=>?_
 refine Ac.y (gv:=Di) (fun _=>?_) (fun _=>?_)
 ·refine Ac.z [true,true,true,true] ?_
  exact Ac.x 0
 ·refine Ac.z [false] ?_
  refine Ac.q (e:=vB) (gv:=Di) (F9 _) fun r2 _=>?_
  refine Ac.z [false,false] ?_
  refine Ac.y (gv:=Di) (fun _=>?_) (fun _=>?_)
  ·exact Ac.x 0
  ·refine Ac.y (gv:=Di) (fun _=>?_) (fun _=>?_)
   ·refine Ac.z [true,true,true,true,true] ?_
    refine Ac.q (e:=vI) (gv:=Di) (Wc _) fun r3 _=>?_
    refine Ac.z [true] ?_
    refine Ac.q (e:=vI) (gv:=Di) (Es _) fun r4 _=>?_
    refine Ac.z [true,true] ?_
    refine Ac.y (gv:=Di) (fun _=>?_) (fun _=>?_)
    ·exact Ac.x 0
    ·refine Ac.q (e:=Af) (gv:=Di) (Re _) fun r5 _=>?_
     refine Ac.q (e:=Af) (gv:=Di) (jH _ _) fun r6 _=>?_
     refine Ac.q (e:=Af) (gv:=Di) (Fx _) fun r7 _=>?_
     refine Ac.q (e:=Af) (gv:=Di) (La _) fun r8 _=>?_
     refine Ac.q (e:=Af) (gv:=Di) (Bk _ _) fun r9 _=>?_
     exact Ac.x 0
   ·refine Ac.z [false,false,false,false,false,false,false,false,false] ?_
    refine Ac.q (e:=Af) (gv:=Di) (Re _) fun r10 _=>?_
    refine Ac.q (e:=Af) (gv:=Di) (jH _ _) fun r11 _=>?_
    refine Ac.q (e:=Af) (gv:=Di) (Fx _) fun r12 _=>?_
    refine Ac.q (e:=Af) (gv:=Di) (La _) fun r13 _=>?_
    refine Ac.q (e:=Af) (gv:=Di) (Bk _ _) fun r14 _=>?_
    exact Ac.x 0
theorem vT (a0 : Iv) : Br Tryz.prog 117 [] #[Af a0] (Af (Vx a0)) []:=by
 refine Br.ofH 400 Az mixed Tryz.func117 (by kernel_rfl) (by kernel_rfl) ?_
 unfold Vx
 refine Ac.q (e:=Af) (gv:=Af) (Av _) fun r1 _=>?_
 refine Ac.q (e:=Af) (gv:=Af) (D1 _ _) fun r2 _=>?_
 exact Ac.x 0
theorem aO (a0 : Pj) (a1 : Pt) : Br Tryz.prog 46 [] #[L8 a0,E6 a1] (By (Kg a0 a1)) []:=by
 refine Br.ofH 400 Az mixed Tryz.func46 (by kernel_rfl) (by kernel_rfl) ?_
 unfold Kg
 refine Ac.q (e:=Di) (gv:=By) (lO _ _) fun r1 _=>?_
 refine Ac.y (gv:=By) (fun _=>?_) (fun _=>?_)
 ·exact Ac.x 0
 ·refine Ac.q (e:=Af) (gv:=By) (Av _) fun r2 _=>?_
  refine Ac.q (e:=Af) (gv:=By) (Py _) fun r3 _=>?_
  refine Ac.q (e:=Af) (gv:=By) (vT _) fun r4 _=>?_
  refine Ac.q (e:=Af) (gv:=By) (X2 _) fun r5 _=>?_
  refine Ac.q (e:=Af) (gv:=By) (Cf _ _) fun r6 _=>?_
  refine Ac.q (e:=By) (gv:=By) (Y3 _) fun r7 _=>?_
  exact Ac.x 0
theorem K3 (a0 : Pj) (a1 : Pt) : Br Tryz.prog 11 [] #[L8 a0,E6 a1] (Au (Kn a0 a1)) []:=by
 refine Br.ofH 400 Az mixed Tryz.func11 (by kernel_rfl) (by kernel_rfl) ?_
 unfold Kn
 refine Ac.q (e:=vB) (gv:=Au) (Hu _) fun r1 _=>?_
 refine Ac.y (gv:=Au) (fun _=>?_) (fun _=>?_)
 ·refine Ac.z [true,true,true,true] ?_
  exact Ac.x 0
 ·refine Ac.z [false] ?_
  refine Ac.q (e:=vB) (gv:=Au) (F9 _) fun r2 _=>?_
  refine Ac.z [false,false] ?_
  refine Ac.y (gv:=Au) (fun _=>?_) (fun _=>?_)
  ·exact Ac.x 0
  ·refine Ac.q (e:=vI) (gv:=Au) (Md _) fun r3 _=>?_
   refine Ac.y (gv:=Au) (fun _=>?_) (fun _=>?_)
   ·refine Ac.q (e:=Au) (gv:=Au) (cQ _ _) fun r4 _=>?_
    exact Ac.x 0
   ·refine Ac.y (gv:=Au) (fun _=>?_) (fun _=>?_)
    ·refine Ac.q (e:=Au) (gv:=Au) (gA _ _) fun r5 _=>?_
     exact Ac.x 0
    ·refine Ac.y (gv:=Au) (fun _=>?_) (fun _=>?_)
     ·refine Ac.q (e:=Au) (gv:=Au) (jL _ _) fun r6 _=>?_
      exact Ac.x 0
     ·refine Ac.y (gv:=Au) (fun _=>?_) (fun _=>?_)
      ·refine Ac.q (e:=By) (gv:=Au) (aO _ _) fun r7 _=>?_
       exact Ac.x 0
      ·exact Ac.x 0
theorem cU (a0 : Pj) (a1 : Pt) : Br Tryz.prog 7 [] #[L8 a0,E6 a1] (By (Ru a0 a1)) []:=by
 refine Br.ofH 400 Az mixed Tryz.func7 (by kernel_rfl) (by kernel_rfl) ?_
 unfold Ru
 refine Ac.q (e:=Au) (gv:=By) (K3 _ _) fun r1 _=>?_
 refine Ac.y (gv:=By) (fun _=>?_) (fun _=>?_)
 ·refine Ac.q (e:=Af) (gv:=By) (Av _) fun r2 _=>?_
  exact Ac.x 0
 ·refine Ac.y (gv:=By) (fun _=>?_) (fun _=>?_)
  ·exact Ac.x 0
  ·refine Ac.q (e:=Af) (gv:=By) (Bk _ _) fun r3 _=>?_
   refine Ac.q (e:=By) (gv:=By) (Y3 _) fun r4 _=>?_
   exact Ac.x 0
theorem A6 (a0 : Aq) : Br Tryz.prog 8 [] #[vI a0] (vB (Ar a0)) []:=by
 refine Br.ofH 400 Az mixed Tryz.func8 (by kernel_rfl) (by kernel_rfl) ?_
 unfold Ar
 refine Ac.w (e:=vB) (gv:=vB) [0] (Oj _ _ _ _ _ _ _) fun r1 _=>?_
 exact Ac.x 0
theorem Ap (a0 : Aq) : Br Tryz.prog 13 [] #[vI a0] (vB (Al a0)) []:=by
 refine Br.ofH 400 Az mixed Tryz.func13 (by kernel_rfl) (by kernel_rfl) ?_
 unfold Al
 refine Ac.w (e:=vB) (gv:=vB) [0] (Ok _ _ _ _ _) fun r1 _=>?_
 exact Ac.x 0
theorem s7 (a0 : Aq) : Br Tryz.prog 203 [] #[vI a0] (Af (T3 a0)) []:=by
 refine Br.ofH 400 Az mixed Tryz.func203 (by kernel_rfl) (by kernel_rfl) ?_
 unfold T3
 refine Ac.q (e:=vB) (gv:=Af) (Gr _ _ _) fun r1 _=>?_
 refine Ac.y (gv:=Af) (fun _=>?_) (fun _=>?_)
 ·refine Ac.q (e:=Af) (gv:=Af) (Bs) fun r2 _=>?_
  exact Ac.x 0
 ·refine Ac.q (e:=Ax) (gv:=Af) (cL _ _) fun r3 _=>?_
  refine Ac.q (e:=Qa) (gv:=Af) (It _ _) fun r4 _=>?_
  refine Ac.q (e:=Qa) (gv:=Af) (It _ _) fun r5 _=>?_
  refine Ac.y (gv:=Af) (fun _=>?_) (fun _=>?_)
  ·refine Ac.q (e:=Af) (gv:=Af) (Mb _) fun r6 _=>?_
   exact Ac.x 0
  ·exact Ac.x 0
theorem mR (a0 : Aq) : Br Tryz.prog 125 [] #[vI a0] (Af (V1 a0)) []:=by
 refine Br.ofH 400 Az mixed Tryz.func125 (by kernel_rfl) (by kernel_rfl) ?_
 unfold V1
 refine Ac.q (e:=vB) (gv:=Af) (Gr _ _ _) fun r1 _=>?_
 refine Ac.y (gv:=Af) (fun _=>?_) (fun _=>?_)
 ·refine Ac.q (e:=Af) (gv:=Af) (Bs) fun r2 _=>?_
  exact Ac.x 0
 ·refine Ac.q (e:=Af) (gv:=Af) (Mb _) fun r3 _=>?_
  refine Ac.q (e:=Af) (gv:=Af) (Av _) fun r4 _=>?_
  refine Ac.q (e:=Af) (gv:=Af) (s7 _) fun r5 _=>?_
  refine Ac.q (e:=Af) (gv:=Af) (Cx _ _) fun r6 _=>?_
  refine Ac.q (e:=Af) (gv:=Af) (Cf _ _) fun r7 _=>?_
  refine Ac.q (e:=Af) (gv:=Af) (S8 _) fun r8 _=>?_
  refine Ac.q (e:=Af) (gv:=Af) (Wf _) fun r9 _=>?_
  refine Ac.q (e:=Af) (gv:=Af) (Uz) fun r10 _=>?_
  refine Ac.q (e:=Dz) (gv:=Af) (cO _ _) fun r11 _=>?_
  exact Ac.x 0
theorem Adl (a0 : Iv) : Br Tryz.prog 57 [] #[Af a0] (Af (dN a0)) []:=by
 refine Br.ofH 400 Az mixed Tryz.func57 (by kernel_rfl) (by kernel_rfl) ?_
 unfold dN
 refine Ac.q (e:=Af) (gv:=Af) (Y1) fun r1 _=>?_
 refine Ac.q (e:=Dz) (gv:=Af) (cO _ _) fun r2 _=>?_
 refine Ac.y (gv:=Af) (fun _=>?_) (fun _=>?_)
 ·refine Ac.q (e:=Af) (gv:=Af) (Bs) fun r3 _=>?_
  exact Ac.x 0
 ·refine Ac.q (e:=Af) (gv:=Af) (mR _) fun r4 _=>?_
  refine Ac.q (e:=Af) (gv:=Af) (mR _) fun r5 _=>?_
  refine Ac.q (e:=Af) (gv:=Af) (E2 _ _) fun r6 _=>?_
  exact Ac.x 0
theorem Bu (a0 : Pj) (a1 : Pt) : Br Tryz.prog 15 [] #[L8 a0,E6 a1] (By (A5 a0 a1)) []:=by
 refine Br.ofH 400 Az mixed Tryz.func15 (by kernel_rfl) (by kernel_rfl) ?_
 unfold A5
 refine Ac.q (e:=Au) (gv:=By) (K3 _ _) fun r1 _=>?_
 refine Ac.y (gv:=By) (fun _=>?_) (fun _=>?_)
 ·exact Ac.x 0
 ·refine Ac.q (e:=Af) (gv:=By) (D1 _ _) fun r2 _=>?_
  refine Ac.q (e:=Af) (gv:=By) (cV _) fun r3 _=>?_
  refine Ac.q (e:=Af) (gv:=By) (Cx _ _) fun r4 _=>?_
  refine Ac.q (e:=Af) (gv:=By) (Cf _ _) fun r5 _=>?_
  refine Ac.q (e:=Af) (gv:=By) (Adl _) fun r6 _=>?_
  refine Ac.q (e:=Af) (gv:=By) (jB _ _) fun r7 _=>?_
  refine Ac.q (e:=By) (gv:=By) (Y3 _) fun r8 _=>?_
  exact Ac.x 0
end Go.Proofs.YtfhnlkinjbakgaaGreat.Abs
