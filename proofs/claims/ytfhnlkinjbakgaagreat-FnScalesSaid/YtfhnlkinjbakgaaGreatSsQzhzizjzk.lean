/- Plain laws of the functions on numbers: what the program computes is what the reference computes. -/
import Derived.Test.YtfhnlkinjbakgaaGreatSsReal
import Derived.Test.YtfhnlkinjbakgaaGreatSsQzdzezfzg
import Derived.Test.YtfhnlkinjbakgaaGreatSsFx
set_option linter.unusedVariables false
set_option linter.unusedSimpArgs false
namespace Go.Proofs.YtfhnlkinjbakgaaGreat.Abs
open Go
theorem Afj {a b : Aq} (ha : 0 ≤ a.val) (hb : 0 ≤ b.val) : ∃ r : Aq,I8 a b = (r,true) ∧ 0 ≤ r.val ∧ r.val ≤ 9223372036854775807 ∧ r.val * r.val ≤ a.val * b.val ∧ a.val * b.val < (r.val + 1) * (r.val + 1):=by
  have hz:=Jh a b
  have ah : a.val ≤ 9223372036854775807:=a.hi
  have bh : b.val ≤ 9223372036854775807:=b.hi
  have top : a.val * b.val ≤ 9223372036854775807 * 9223372036854775807:=Int.mul_le_mul ah bh hb (by decide)
  have bot : 0 ≤ a.val * b.val:=Int.mul_nonneg ha hb
  have hq:=qX (A3 a b) (aR a b ha hb) 64 65 (Eu 0) (Ah 63) (by rw [A8]; rfl) (by omega) (by omega) ⟨0,by decide⟩ (by rw [hz]; exact bot) (by
    rw [hz]
    show _ < ((0 : Int) + 2 ^ 64) * (0 + 2 ^ 64)
    rw [show ((0 : Int) + 2 ^ 64) * (0 + 2 ^ 64) = 340282366920938463463374607431768211456 by decide]
    omega)
  rw [hz] at hq
  have q1:=hq.1
  have q2:=hq.2
  change (Cc (A3 a b)).val * (Cc (A3 a b)).val ≤ _ at q1
  change _ < ((Cc (A3 a b)).val + 1) * ((Cc (A3 a b)).val + 1) at q2
  have hx0 : 0 ≤ (Cc (A3 a b)).val:=(Cc (A3 a b)).lo
  have hx1 : (Cc (A3 a b)).val ≤ 9223372036854775807:=(Qp (Int.le_trans q1 top) (by decide)).1
  have e : (An (Cc (A3 a b)).val).val = (Cc (A3 a b)).val:=by rw [Ad]; omega
  refine ⟨An (Cc (A3 a b)).val,?_,by omega,by omega,by rw [e]; exact q1,by rw [e]; exact q2⟩
  unfold I8
  simp only [Ag,decide_eq_false (show ¬ a.val < 0 by omega),decide_eq_false (show ¬ b.val < 0 by omega),Ae]
theorem bD (n : Int) (r : Int) (v : Rl.R) (h0 : 0 ≤ r) (hv : Rl.q 0 ≤ v) (e : v * v + Rl.fx n * Rl.fx n = Rl.q 1) : (r * r ≤ (4294967296 - n) * (4294967296 + n) → Rl.fx r ≤ v) ∧ ((4294967296 - n) * (4294967296 + n) ≤ r * r → v ≤ Rl.fx r):=by
  have e2 : v * v = Rl.q (((4294967296 - n) * (4294967296 + n) : Int) / (4294967296 * 4294967296)):=by
    have e3:=congrArg (fun z=>z - Rl.fx n * Rl.fx n) e
    simp only [Rl.add_sub_cancel] at e3
    rw [e3,Rl.Ld,← Rl.Ac3]
    congr 1
    push_cast
    grind
  have fr : Rl.q 0 ≤ Rl.fx r:=by rw [← Rl.Fy]; exact Rl.Df.2 h0
  constructor
  · intro h
    refine Rl.Hg ?_ hv
    rw [e2,Rl.Ld]
    refine Rl.Dd.2 ?_
    have:=Rl.E3 h
    push_cast at this ⊢
    grind
  · intro h
    refine Rl.Hg ?_ fr
    rw [e2,Rl.Ld]
    refine Rl.Dd.2 ?_
    have:=Rl.E3 h
    push_cast at this ⊢
    grind
theorem Acj {n : Aq} {v : Rl.R} (hv : Rl.q 0 ≤ v) (e : v * v + Rl.fx n.val * Rl.fx n.val = Rl.q 1) : Tr (Tn n) v:=by
  unfold Tn Cr Zi
  simp only [Ag]
  cases hi : Bz n (Ah (-4294967296)) (Ah 4294967296) with
  | false=>simp only [Bool.not_false,Ai]; exact Jf _
  | true=>
    simp only [Bool.not_true,Ae]
    rw [Gk] at hi
    simp only [A8,Bool.and_eq_true,decide_eq_true_eq] at hi
    have w1 : (An (4294967296 - n.val)).val = 4294967296 - n.val:=by rw [Ad]; omega
    have w2 : (An (4294967296 + n.val)).val = 4294967296 + n.val:=by rw [Ad]; omega
    obtain ⟨r,hr,r0,r1,r2,r3⟩:=Afj (a:=An (4294967296 - n.val)) (b:=An (4294967296 + n.val)) (by omega) (by omega)
    rw [hr]
    rw [w1,w2] at r2 r3
    have top : (4294967296 - n.val) * (4294967296 + n.val) ≤ 8589934592 * 8589934592:=Int.mul_le_mul (by omega) (by omega) (by omega) (by decide)
    have rb : r.val ≤ 8589934592:=(Qp (Int.le_trans r2 top) (by decide)).1
    have wr : (An (r.val + 1)).val = r.val + 1:=by rw [Ad]; omega
    have z1:=Jh r r
    have z2:=Jh (An (4294967296 - n.val)) (An (4294967296 + n.val))
    rw [w1,w2] at z2
    have lo:=(bD n.val r.val v r0 hv e).1 r2
    have up:=(bD n.val (r.val + 1) v (by omega) hv e).2 (by omega)
    simp only []
    generalize A3 r r = a at *
    generalize A3 (An (4294967296 - n.val)) (An (4294967296 + n.val)) = b at *
    cases hc : (a.hi.val == b.hi.val && a.lo.val == b.lo.val) with
    | false=>
      simp only [Bool.not_false,Ai]
      exact fun _=>⟨lo,by show v ≤ Rl.fx (An (r.val + 1)).val; rw [wr]; exact up⟩
    | true=>
      simp only [Bool.not_true,Ae]
      simp only [Bool.and_eq_true,beq_iff_eq] at hc
      have ez : a.z = b.z:=by
        show a.hi.val * 18446744073709551616 + a.lo.val = b.hi.val * 18446744073709551616 + b.lo.val
        rw [hc.1,hc.2]
      exact fun _=>⟨lo,(bD n.val r.val v r0 hv e).2 (by omega)⟩
theorem zV (r : Rat) (n : Aq) (h : r * (n.val : Rat) = 1) : Rl.q r * Rl.q n.val = Rl.q (Ah 1).val:=by
  rw [← Rl.Ez,h,A8]
  congr 1
theorem Rd (n : Aq) (r : Rat) (h0 : 0 < n.val) (h : r * (n.val : Rat) = 1) : Tr (C9 (Ah 1) n) (Rl.q r):=
  Acf (by decide) h0 (zV r n h)
theorem qO {a : Iv} {x t : Rl.R} (ha : Tr a x) (h1 : -Rl.hp < t) (h2 : t < Rl.hp) (e : Rl.sn t = x * Rl.cn t) : Tr (Ro a) t:=by
  unfold Ro Cr
  simp only [Ag]
  cases hi : Jc a (⟨Ah (-1073741824),Ah 1073741824⟩ : Iv) with
  | false=>simp only [Bool.not_false,Ai]; exact Jf _
  | true=>
    simp only [Bool.not_true,Ae]
    have hb : Am a = true ∧ -1073741824 ≤ a.lo.val ∧ a.hi.val ≤ 1073741824:=by
      unfold Jc at hi
      have o : Am (⟨Ah (-1073741824),Ah 1073741824⟩ : Iv) = true:=by decide
      simp only [Ag,o,Bool.not_true,Ae] at hi
      cases hk : Am a with
      | false=>rw [hk] at hi; cases hi
      | true=>
        rw [hk] at hi
        simp only [Ai,A8] at hi
        by_cases c : -1073741824 ≤ a.lo.val
        · rw [decide_eq_true c] at hi
          simp only [Ai,decide_eq_true_eq] at hi
          exact ⟨rfl,c,hi⟩
        · rw [decide_eq_false c] at hi; cases hi
    obtain ⟨h3,h4,h5⟩:=hb
    have A:=ha h3
    have hx : Rl.Ab x (Rl.q (1/4)):=by
      have k1:=Rl.le_trans (Rl.Df.2 h4) A.1
      have k2:=Rl.le_trans A.2 (Rl.Df.2 h5)
      rw [show Rl.fx (-1073741824) = -Rl.q (1/4) from by rw [← Rl.Ii,Rl.Zr]; congr 1; decide +kernel] at k1
      rw [show Rl.fx 1073741824 = Rl.q (1/4) from by rw [Rl.Zr]; congr 1; decide +kernel] at k2
      exact ⟨k1,k2⟩
    have hy:=bL ha
    have S:=Fk ha (Jg (Rd (Ah 1) 1 (by decide) (by decide +kernel)) (Fk hy (Jg (Rd (Ah 3) (1/3) (by decide) (by decide +kernel)) (Fk hy (Jg (Rd (Ah 5) (1/5) (by decide) (by decide +kernel)) (Fk hy (Jg (Rd (Ah 7) (1/7) (by decide) (by decide +kernel)) (Fk hy (Jg (Rd (Ah 9) (1/9) (by decide) (by decide +kernel)) (Fk hy (Jg (Rd (Ah 11) (1/11) (by decide) (by decide +kernel)) (Fk hy (Jg (Rd (Ah 13) (1/13) (by decide) (by decide +kernel)) (Fk hy (Jg (Rd (Ah 15) (1/15) (by decide) (by decide +kernel)) (Fk hy (Jg (Rd (Ah 17) (1/17) (by decide) (by decide +kernel)) (Fk hy (Jg (Rd (Ah 19) (1/19) (by decide) (by decide +kernel)) (Fk hy (Rd (Ah 21) (1/21) (by decide) (by decide +kernel))))))))))))))))))))))
    have S2:=Kp S (Acc (d:=t - Rl.U7 Rl.aC x) (by
      have:=(Rl.tU h1 h2 e hx).neg
      rwa [Rl.J9] at this))
    have e2:=Rl.Ag9 x
    change x * (Rl.q 1 - x * x * (Rl.q (1/3) - x * x * (Rl.q (1/5) - x * x * (Rl.q (1/7) - x * x * (Rl.q (1/9) - x * x * (Rl.q (1/11) - x * x * (Rl.q (1/13) - x * x * (Rl.q (1/15) - x * x * (Rl.q (1/17) - x * x * (Rl.q (1/19) - x * x * Rl.q (1/21))))))))))) = _ at e2
    rw [e2,Lf] at S2
    exact S2
theorem xJ {a : Iv} {x s z : Rl.R} (ha : Tr a x) (hs : Rl.q 0 ≤ s) (es : s * s = Rl.q 1 + x * x) (ez : z * (Rl.q 1 + s) = x) : Tr (Qt a) z:=by
  unfold Qt
  simp only [Ag]
  exact Ig ha (Kp Ks (uV (Kp Ks (bL ha)) hs es)) ez
theorem Aci {a : Iv} {x t : Rl.R} (ha : Tr a x) (h1 : -Rl.hp < t) (h2 : t < Rl.hp) (e : Rl.sn t = x * Rl.cn t) : Tr (So a) t:=by
  unfold So
  simp only [Ag]
  obtain ⟨s,z,s0,es,ez⟩:=Rl.Acx x
  obtain ⟨b1,b2⟩:=Rl.k9 h1 h2
  have e2:=Rl.qI h1 h2 e s0 es ez
  have Z:=xJ ha s0 es ez
  obtain ⟨s',z',s0',es',ez'⟩:=Rl.Acx z
  obtain ⟨c1,c2⟩:=Rl.k9 b1 b2
  have e3:=Rl.qI b1 b2 e2 s0' es' ez'
  have Z':=xJ Z s0' es' ez'
  have D:=hI (hI (qO Z' c1 c2 e3))
  rwa [Rl.Hr,Rl.Hr] at D
theorem W4 {t : Rl.R} (h1 : -Rl.hp ≤ t) (h2 : t ≤ Rl.hp) : Tr Kc t:=by
  intro _
  have p1 : (Rl.hp ≤ Rl.fx (G9 (Ah 1)).hi.val):=by
    obtain ⟨z,e1,e2,e3,_⟩:=zB (Ah 1) (by decide)
    have e4 : C5 (Ah 1) = G9 (Ah 1):=by
      unfold C5
      have : Bz (Ah 1) (Ah (-4096)) (Ah 4096) = true:=by decide
      simp only [Ag,this,Bool.not_true,Ae]
    rw [← e4,e1]
    have:=e3.2
    rwa [A8,Rl.Kx] at this
  have e : Kc = ⟨An (0 - (G9 (Ah 1)).hi.val),(G9 (Ah 1)).hi⟩:=by
    unfold Kc
    simp only [Ag]
  rw [e]
  have v:=Aff
  constructor
  · show Rl.fx (An (0 - (G9 (Ah 1)).hi.val)).val ≤ t
    rw [show (An (0 - (G9 (Ah 1)).hi.val)).val = -(G9 (Ah 1)).hi.val from by rw [Ad,v]; decide,Rl.Nr]
    exact Rl.le_trans (Rl.Bw p1) h1
  · exact Rl.le_trans h2 p1
theorem qL {n : Aq} (hn : 0 ≤ n.val) (fu : Nat) {t : Rl.R} (h1 : -Rl.hp < t) (h2 : t < Rl.hp) (e : Rl.sn t = Rl.fx n.val * Rl.cn t) : Tr (Ot (fu + 1) n) t:=by
  unfold Ot To
  simp only [Ag]
  cases hf : G8 n with
  | false=>simp only [Bool.not_false,Ai]; exact W4 (Rl.le_of_lt h1) (Rl.le_of_lt h2)
  | true=>
    simp only [Bool.not_true,Ae,decide_eq_false (show ¬ n.val < 0 by omega)]
    by_cases hg : n.val > 4294967296
    · simp only [decide_eq_true hg,Ai]
      have np : Rl.q 0 < Rl.fx n.val:=Rl.Ol (by omega)
      have tp:=Rl.Agd h1 h2 e np
      obtain ⟨i,hi,i0⟩:=Rl.Td np
      have D : Tr (A4 (Ao (Ah 1)) (Bm n)) i:=Ig Ks (bM n) (by rw [Rl.mul_comm]; exact hi)
      have k1 : -Rl.hp < Rl.hp - t:=by
        refine Rl.jR Rl.Qn ?_
        intro k
        refine h2 ?_
        have:=Rl.Bc k (Rl.le_refl t)
        rwa [Rl.C7,Rl.zero_add] at this
      have k2 : Rl.hp - t < Rl.hp:=by
        intro k
        refine tp ?_
        have:=Rl.Du (Rl.le_refl Rl.hp) k
        rwa [Rl.sub_self,show Rl.hp - (Rl.hp - t) = t from Rl.Ge _ _] at this
      have e3 : Rl.sn (Rl.hp - t) = i * Rl.cn (Rl.hp - t):=by
        rw [Rl.Sj,Rl.Ze,e,← Rl.mul_assoc,Rl.mul_comm i,hi,Rl.one_mul]
      have C:=Jg (Xr (Ah 1)) (Aci D k1 k2 e3)
      rwa [A8,Rl.Kx,Rl.Ge] at C
    · simp only [decide_eq_false hg,Ae]
      exact Aci (bM n) h1 h2 e
theorem Aaq {t : Rl.R} (h1 : -Rl.hp < t) (h2 : t < Rl.hp) : -Rl.hp < -t ∧ -t < Rl.hp:=⟨Rl.Gv h2,by have:=Rl.Gv h1; rwa [Rl.neg_neg] at this⟩
theorem qM {n : Aq} {t : Rl.R} (h1 : -Rl.hp < t) (h2 : t < Rl.hp) (e : Rl.sn t = Rl.fx n.val * Rl.cn t) : Tr (Vs n) t:=by
  unfold Vs
  by_cases hn : 0 ≤ n.val
  · exact qL hn 1 h1 h2 e
  · unfold Ot To
    simp only [Ag]
    cases hf : G8 n with
    | false=>simp only [Bool.not_false,Ai]; exact W4 (Rl.le_of_lt h1) (Rl.le_of_lt h2)
    | true=>
      obtain ⟨o1,o2⟩:=U9 hf
      simp only [Bool.not_true,Ae,decide_eq_true (show n.val < 0 by omega),Ai]
      have w : (An (0 - n.val)).val = -n.val:=by rw [Ad]; omega
      obtain ⟨k1,k2⟩:=Aaq h1 h2
      have P:=mA (qL (n:=An (0 - n.val)) (by omega) 0 k1 k2 (by rw [Rl.L1,Rl.Mf,w,Rl.Nr,e,Rl.neg_mul]))
      rwa [Rl.neg_neg] at P
theorem aA {a : Iv} {x t : Rl.R} (ha : Tr a x) (h1 : -Rl.hp < t) (h2 : t < Rl.hp) (e : Rl.sn t = x * Rl.cn t) : Tr (De a) t:=by
  unfold De Dt
  simp only [Ag]
  cases ho : Am a with
  | false=>simp only [Bool.not_false,Ai]; exact W4 (Rl.le_of_lt h1) (Rl.le_of_lt h2)
  | true=>
    simp only [Bool.not_true,Ae]
    have A:=ha ho
    obtain ⟨u,u1,u2,ue⟩:=Rl.Acb (Rl.fx a.lo.val)
    obtain ⟨v,v1,v2,ve⟩:=Rl.Acb (Rl.fx a.hi.val)
    exact uW (qM u1 u2 ue) (qM v1 v2 ve) (.inl (Rl.gY u1 u2 ue h1 h2 e A.1)) (.inr (Rl.gY h1 h2 e v1 v2 ve A.2))
theorem qN {n : Aq} {t : Rl.R} (h1 : -Rl.hp ≤ t) (h2 : t ≤ Rl.hp) (e : Rl.sn t = Rl.fx n.val) : Tr (Vt n) t:=by
  unfold Vt Cr
  simp only [Ag]
  cases hi : Bz n (Ah (-4294967296)) (Ah 4294967296) with
  | false=>simp only [Bool.not_false,Ai]; exact Jf _
  | true=>
    simp only [Bool.not_true,Ae]
    obtain ⟨c,z,c0,ec,ez⟩:=Rl.Ae0 (Rl.Zv t)
    rw [e] at ec ez
    have e2:=Rl.Acs h1 h2 e c0 ec ez
    obtain ⟨b1,b2⟩:=Rl.yN h1 h2
    have D:=hI (aA (Ig (bM n) (Kp Ks (Acj c0 ec)) ez) b1 b2 e2)
    rw [Rl.Hr] at D
    exact (dL D (W4 h1 h2)).2
theorem Ack {a : Iv} {t : Rl.R} (ha : Tr a (Rl.sn t)) (h1 : -Rl.hp ≤ t) (h2 : t ≤ Rl.hp) : Tr (Zj a) t:=by
  obtain ⟨m1,m2⟩:=dL ha (xH (Rl.Zv t))
  unfold Zj Cr
  simp only [Ag,m1,Bool.not_true,Ae]
  have mo : Am (Io a Co).1 = true ∧ -4294967296 ≤ (Io a Co).1.lo.val ∧ (Io a Co).1.lo.val ≤ 4294967296 ∧ -4294967296 ≤ (Io a Co).1.hi.val ∧ (Io a Co).1.hi.val ≤ 4294967296:=by
    unfold Io at m1 ⊢
    have o : Am Co = true:=by decide
    have r1 : Co.lo.val = -4294967296:=by decide
    have r2 : Co.hi.val = 4294967296:=by decide
    simp only [Ag,o,Bool.not_true,Ae] at m1 ⊢
    cases ho : Am a with
    | false=>simp only [Bool.not_false,Ai]; rw [r1,r2,o]; decide
    | true=>
      rw [ho] at m1
      simp only [Bool.not_true,Ae] at m1 ⊢
      by_cases c : (Cg a.lo Co.lo).val > (Cq a.hi Co.hi).val
      · rw [decide_eq_true c,Ai] at m1; cases m1
      · rw [decide_eq_false c,Ae]
        have x1:=L5 a.lo Co.lo
        have x2:=Oe a.hi Co.hi
        simp only []
        generalize Cg a.lo Co.lo = p at *
        generalize Cq a.hi Co.hi = r at *
        refine ⟨I7 ?_,by omega,by omega,by omega,by omega⟩
        show -1152921504606846976 < p.val ∧ p.val ≤ r.val ∧ r.val < 1152921504606846976
        omega
  obtain ⟨mo,b1,b2,b3,b4⟩:=mo
  have M:=m2 mo
  generalize (Io a Co).1 = y at *
  have f : ∀ n : Int,-4294967296 ≤ n → n ≤ 4294967296 → ∃ u,-Rl.hp ≤ u ∧ u ≤ Rl.hp ∧ Rl.sn u = Rl.fx n:=fun n h h'=>Rl.pV (by rw [← Rl.kA,← Rl.Nr]; exact Rl.Df.2 h) (by rw [← Rl.kA]; exact Rl.Df.2 h')
  obtain ⟨u,u1,u2,ue⟩:=f _ b1 b2
  obtain ⟨v,v1,v2,ve⟩:=f _ b3 b4
  refine uW (qN u1 u2 ue) (qN v1 v2 ve) (.inl ((Rl.Qi u1 h2 u2 h1).1 (by rw [ue]; exact M.1))) (.inr ((Rl.Qi h1 v2 h2 v1).1 (by rw [ve]; exact M.2)))
theorem Alr (n : Aq) (k : Rat) (h : (n.val : Rat) = k) : Tr (Ao n) (Rl.q k):=by
  have:=Yw n
  rwa [h] at this
theorem m9 : Tr (Ao (Ah 2)) (Rl.q 2):=Alr _ 2 (by rw [A8]; decide)
theorem eV {p : Pt} (h : B4 p = true) : -900000000 ≤ p.lat.val ∧ p.lat.val ≤ 900000000 ∧ -1800000000 < p.lon.val ∧ p.lon.val ≤ 1800000000:=by
  unfold B4 at h
  simp only [Ag,Gk,A8] at h
  by_cases c : -900000000 ≤ p.lat.val ∧ p.lat.val ≤ 900000000
  · rw [decide_eq_true c.1,decide_eq_true c.2] at h
    simp only [Bool.and_self,Ai,Bool.and_eq_true,decide_eq_true_eq] at h
    omega
  · exfalso
    have : (decide (-900000000 ≤ p.lat.val) && decide (p.lat.val ≤ 900000000)) = false:=by
      simp only [Bool.and_eq_false_iff,decide_eq_false_iff_not]
      omega
    rw [this,Ae] at h
    cases h
theorem Acg {p : Pt} (h : B4 p = true) : Tr (Rb p) (rad p.lat.val):=by
  unfold Rb
  simp only [Ag,h,Bool.not_true,Ae]
  exact J4 _
theorem Abp (a : Aq) (h : -3600000000 ≤ a.val ∧ a.val ≤ 3600000000) : ∃ k : Int,-1 ≤ k ∧ k ≤ 1 ∧ (D4 a).val = a.val + 3600000000 * k:=by
  have b:=Yt a
  have m : (D4 a).val % 3600000000 = a.val % 3600000000:=by
    unfold D4
    have hm : (Jl a 3600000000).val = Int.tmod a.val 3600000000:=by rw [Ll]
    have h1:=Int.tmod_add_mul_tdiv a.val 3600000000
    generalize (Jl a 3600000000) = r at *
    rw [hm.symm] at h1
    have rb : -3600000000 < r.val ∧ r.val < 3600000000:=by
      rw [hm]
      exact ⟨by have:=Int.lt_tmod_of_pos a.val (by decide : (0 : Int) < 3600000000); omega,Int.tmod_lt_of_pos a.val (by decide)⟩
    generalize Int.tdiv a.val 3600000000 = t at *
    cases c1 : decide (r.val > 1800000000) with
    | true=>
      simp only [Ai]
      cases c2 : decide ((An (r.val - 3600000000)).val ≤ -1800000000) with
      | true=>simp only [Ai,Ad]; omega
      | false=>simp only [Ae,Ad]; omega
    | false=>
      simp only [Ae]
      cases c2 : decide (r.val ≤ -1800000000) with
      | true=>simp only [Ai,Ad]; omega
      | false=>simp only [Ae]; omega
  generalize (D4 a).val = w at *
  exact ⟨(w - a.val) / 3600000000,by omega,by omega,by omega⟩
def Gd (z : Iv) : Prop:=Am z = true ∨ z = Aw
theorem Gd.whole : Gd Aw:=.inr rfl
theorem Gd.cond (b : Bool) {x y : Iv} (hx : Gd x) (hy : Gd y) : Gd (bif b then x else y):=by cases b <;> assumption
theorem Gd.make (a b : Aq) : Gd (C0 a b):=by
  by_cases c : -1152921504606846976 < a.val ∧ a.val ≤ b.val ∧ b.val < 1152921504606846976
  · rw [Fc c]; exact .inl (I7 c)
  · exact .inr (Ts c)
theorem Ake (a b : Iv) : Gd (Bj a b):=by
  unfold Bj
  simp only [Ag]
  repeat' first | with_reducible exact Gd.make _ _ | with_reducible exact Gd.whole | with_reducible apply Gd.cond
end Go.Proofs.YtfhnlkinjbakgaaGreat.Abs
