/- Plain laws of the functions on numbers: what the program computes is what the reference computes. -/
import Derived.Test.YtfhnlkinjbakgaaGreatSsReal
import Derived.Test.YtfhnlkinjbakgaaGreatSsQztzuzvzw
import Derived.Test.YtfhnlkinjbakgaaGreatSsFx
set_option linter.unusedVariables false
set_option linter.unusedSimpArgs false
namespace Go.Proofs.YtfhnlkinjbakgaaGreat.Abs
open Go
theorem mB (f : Aq → Iv) {n : Aq} {t : Rl.R} (h0 : 0 ≤ n.val) (h : Rl.Ash (Rl.fx n.val) t) : Tr (Kb f n) t:=by
  unfold Kb
  simp only [Ag,decide_eq_false (show ¬ n.val < 0 by omega),Ae]
  by_cases h1 : n.val ≤ 35184372088832
  · rw [decide_eq_true h1,Ai]
    obtain ⟨s0,es⟩:=Rl.Ae7 h
    have A:=Kp (Ai8 n) (uV (Kp (bL (Ai8 n)) Akm) s0 es)
    rw [Lf] at A
    exact xI A rfl
  · rw [decide_eq_false h1,Ae]
    obtain ⟨l,el⟩:=Rl.U0 (Rl.Ol (show 0 < n.val by omega))
    obtain ⟨d0,d1⟩:=Rl.Ahu h el (by
      rw [Rl.Zr]
      refine Rl.Dd.2 ?_
      have:=Rl.E3 (show (35184372088832 : Int) ≤ n.val by omega)
      rw [show ((35184372088832 : Int) : Rat) = 35184372088832 from by decide +kernel] at this
      grind)
    have two:=gZ (Ah 1)
    rw [show Rl.q ((Ah 1).val : Rat) * Rl.dQ = Rl.dQ from by rw [A8,show Rl.q (((1 : Int)) : Rat) = Rl.q 1 from rfl,Rl.one_mul]] at two
    have D : Tr (⟨Ah 0,Ah 16⟩ : Iv) (t - (Rl.dQ + l)):=fun _=>⟨by show Rl.fx (Ah 0).val ≤ _; rw [A8,Rl.Fy]; exact d0,by show _ ≤ Rl.fx (Ah 16).val; rw [A8]; exact d1⟩
    have A:=Kp (Kp two (nR el)) D
    rwa [Lf] at A
theorem mD {n : Aq} {t : Rl.R} (hb : -1152921504606846976 < n.val) (h : Rl.Ash (Rl.fx n.val) t) : Tr (Oq n) t:=by
  unfold Oq Hz
  by_cases h0 : 0 ≤ n.val
  · exact mB _ h0 h
  · rw [Kb,decide_eq_true (show n.val < 0 by omega),Ai,Ag,Ag]
    have w : (An (0 - n.val)).val = -n.val:=by rw [Ad]; omega
    unfold Hz
    have P:=mA (mB (Hz 0) (n:=An (0 - n.val)) (t:=-t) (by omega) (by rw [w,Rl.Nr]; exact Rl.Aht h))
    rwa [Rl.neg_neg] at P
theorem Agj {a : Iv} {y t : Rl.R} (ha : Tr a y) (h : Rl.Ash y t) : Tr (Yj a) t:=by
  unfold Yj
  simp only [Ag]
  cases ho : Am a with
  | false=>simp only [Bool.not_false,Ai]; exact Jf _
  | true=>
    simp only [Bool.not_true,Ae]
    have A:=ha ho
    have p:=Vu ho
    obtain ⟨u,eu⟩:=Rl.nI (Rl.fx a.lo.val)
    obtain ⟨v,ev⟩:=Rl.nI (Rl.fx a.hi.val)
    exact xK (mD (by omega) eu) (mD (by omega) ev) (Rl.tW eu h A.1) (Rl.tW h ev A.2)
theorem Ach {a : Iv} {x t : Rl.R} (ha : Tr a x) (x1 : -Rl.hp < x) (x2 : x < Rl.hp) (e : Rl.ex t * Rl.cn x = Rl.q 1 + Rl.sn x) : Tr (N6 a) t:=by
  unfold N6
  simp only [Ag]
  have cp:=Rl.Hx x1 x2
  obtain ⟨y,ey⟩:=Ns (x:=Rl.sn x) cp
  refine Agj (Akk ha x1 x2 ey.symm) ?_
  have py:=Rl.Xw x
  have n:=Rl.R4 t
  have p:=Rl.Qr t
  have e2 : Rl.ex (-t) * Rl.cn x = Rl.q 1 - Rl.sn x:=by
    refine Rl.Kz (z:=Rl.ex t * Rl.cn x) ?_ (Rl.mul_pos p cp)
    have l : Rl.ex (-t) * Rl.cn x * (Rl.ex t * Rl.cn x) = Rl.ex t * Rl.ex (-t) * (Rl.cn x * Rl.cn x):=Rl.Mw (P:=fun u v c=>v * c * (u * c) = u * v * (c * c)) (fun a b c=>Rl.pt fun n=>by simp only [Rl.Ct]; grind) _ _ _
    rw [l,n,Rl.one_mul,e]
    have r : (Rl.q 1 - Rl.sn x) * (Rl.q 1 + Rl.sn x) = Rl.q 1 - Rl.sn x * Rl.sn x:=Rl.Dm (P:=fun s=>(Rl.q 1 - s) * (Rl.q 1 + s) = Rl.q 1 - s * s) (fun a=>Rl.pt fun n=>by simp only [Rl.Cu,Rl.C1,Rl.Ct,Rl.Jx]; grind) _
    rw [r,← py,Rl.add_sub_cancel]
  show Rl.ex t - Rl.ex (-t) = y + y
  refine Rl.Kz (z:=Rl.cn x) ?_ cp
  rw [Rl.sub_mul,e,e2,Rl.add_mul,ey]
  exact Rl.Dm (P:=fun s=>Rl.q 1 + s - (Rl.q 1 - s) = s + s) (fun a=>Rl.pt fun n=>by simp only [Rl.Cu,Rl.C1,Rl.Jx]; grind) _
theorem O1 {u : Int} (h1 : -900000000 < u) (h2 : u < 900000000) : -Rl.hp < rad u ∧ rad u < Rl.hp:=by
  have a:=Xv h1
  have b:=Xv h2
  rw [show (-900000000 : Int) = (-1) * 900000000 from by decide,vJ,Rl.Tb,Rl.Kx] at a
  rw [show (900000000 : Int) = 1 * 900000000 from by decide,vJ,Rl.Kx] at b
  exact ⟨a,b⟩
theorem V3 {p : Pj} (h : M2 p = true) : (p.kind.val = 10 ∨ p.kind.val = 11 ∨ p.kind.val = 12) ∧ A7 p = true ∧ (-890000000 ≤ p.lat1.val ∧ p.lat1.val ≤ 890000000) ∧ (-890000000 ≤ p.lat2.val ∧ p.lat2.val ≤ 890000000) ∧ (10000000 ≤ p.lat1.val + p.lat2.val ∨ p.lat1.val + p.lat2.val ≤ -10000000):=by
  unfold M2 at h
  simp only [Ag,Gk,A8] at h
  cases hk : (decide (10 ≤ p.kind.val) && decide (p.kind.val ≤ 12)) with
  | false=>rw [hk,Ae] at h; cases h
  | true=>
    rw [hk,Ai] at h
    have hv : A7 p = true:=by unfold A7; simp only [Ag]; exact h
    simp only [Bool.and_eq_true,decide_eq_true_eq] at hk
    have k3 : p.kind.val = 10 ∨ p.kind.val = 11 ∨ p.kind.val = 12:=by omega
    refine ⟨k3,hv,?_⟩
    unfold Hc G2 at h
    simp only [Ag,Gk,A8] at h
    cases h1 : B4 (⟨p.lat0,p.lon0⟩ : Pt) with
    | false=>rw [h1] at h; simp only [Bool.not_false,Ai] at h; cases h
    | true=>
      rw [h1] at h
      simp only [Bool.not_true,Ae] at h
      cases h2 : (decide (-890000000 ≤ p.lat1.val) && decide (p.lat1.val ≤ 890000000)) with
      | false=>rw [h2] at h; simp only [Bool.not_false,Ai] at h; cases h
      | true=>
        rw [h2] at h
        simp only [Bool.not_true,Ae] at h
        cases h3 : (decide (-890000000 ≤ p.lat2.val) && decide (p.lat2.val ≤ 890000000)) with
        | false=>rw [h3] at h; simp only [Bool.not_false,Ai] at h; cases h
        | true=>
          rw [h3] at h
          simp only [Bool.not_true,Ae] at h
          simp only [Bool.and_eq_true,decide_eq_true_eq] at h2 h3
          refine ⟨h2,h3,?_⟩
          have e : (An (p.lat1.val + p.lat2.val)).val = p.lat1.val + p.lat2.val:=by rw [Ad]; omega
          rw [e] at h
          cases hm : decide (p.lat1.val + p.lat2.val ≥ 10000000) with
          | true=>exact .inl (of_decide_eq_true hm)
          | false=>
            cases hn : decide (p.lat1.val + p.lat2.val ≤ -10000000) with
            | true=>exact .inr (of_decide_eq_true hn)
            | false=>
              rw [hm,hn] at h
              rcases k3 with k | k | k
              · rw [k] at h; simp at h
              · rw [k] at h; simp at h
              · rw [k] at h; simp at h
def Ah6 (p : Pj) : Prop:=∃ n g : Rl.R,Tr (Gf p) n ∧ Tr (Gz p (Gf p)) g ∧ Rl.Nf n (rad p.lat1.val) (rad p.lat2.val) ∧
  ∀ x,-Rl.hp ≤ x → x ≤ Rl.hp → (p.kind.val = 11 → -Rl.hp < x ∧ x < Rl.hp) → ∃ r,Rl.q 0 ≤ n * r ∧ (x = rad p.lat1.val → n * r = Rl.cn x) ∧ (x = rad p.lat2.val → n * r = Rl.cn x) ∧
    ∀ N G,Tr N n → Tr G g → (∀ X,Tr X x → Tr (Mh p.kind N G X) r) ∧ ∀ W,Tr W r →
      (p.kind.val = 10 → Tr (A4 (Cw G (I6 (Ay W N))) (Ay (Ao (Ah 2)) N)) (Rl.sn x)) ∧
      (p.kind.val = 11 → Tr (De (q7 (A4 (W2 (A4 G W)) N))) x) ∧
      (p.kind.val = 12 → Tr (Cw G W) x)
theorem p9 {p : Pj} {n : Rl.R} (h : M2 p = true) (hn : Rl.Nf n (rad p.lat1.val) (rad p.lat2.val)) : (0 ≤ p.lat1.val + p.lat2.val → Rl.q 0 < n) ∧ (p.lat1.val + p.lat2.val < 0 → n < Rl.q 0) ∧ (n < Rl.q 0 ∨ Rl.q 0 < n):=by
  obtain ⟨_,_,_,_,m⟩:=V3 h
  have a : 0 ≤ p.lat1.val + p.lat2.val → Rl.q 0 < n:=fun k=>hn.1 (by rw [← bY,← iO]; exact Xv (by omega))
  have b : p.lat1.val + p.lat2.val < 0 → n < Rl.q 0:=fun k=>hn.2.1 (by rw [← bY,← iO]; exact Xv (by omega))
  refine ⟨a,b,?_⟩
  by_cases k : 0 ≤ p.lat1.val + p.lat2.val
  · exact .inr (a k)
  · exact .inl (b (by omega))
theorem uM {p : Pj} (h : M2 p = true) (k : p.kind.val = 10) : Ah6 p:=by
  obtain ⟨_,hp,l1,l2,m⟩:=V3 h
  obtain ⟨a1,a2⟩:=O1 (u:=p.lat1.val) (by omega) (by omega)
  obtain ⟨b1,b2⟩:=O1 (u:=p.lat2.val) (by omega) (by omega)
  have d : (p.kind.val == 10) = true:=by rw [k]; decide
  have en : Rl.q (1/2) * (Rl.sn (rad p.lat1.val) + Rl.sn (rad p.lat2.val)) + Rl.q (1/2) * (Rl.sn (rad p.lat1.val) + Rl.sn (rad p.lat2.val)) = Rl.sn (rad p.lat1.val) + Rl.sn (rad p.lat2.val):=Rl.Hr _
  generalize Rl.q (1/2) * (Rl.sn (rad p.lat1.val) + Rl.sn (rad p.lat2.val)) = n at en
  have nf:=Rl.Aap a1 a2 b1 b2 en
  have hn:=(p9 h nf).2.2
  have TN : Tr (Gf p) n:=by
    unfold Gf
    simp only [Ag,d,Ai]
    exact uX (Kp (Xe (J4 _)) (Xe (J4 _))) en
  refine ⟨n,Rl.cn (rad p.lat1.val) * Rl.cn (rad p.lat1.val) + Rl.q 2 * n * Rl.sn (rad p.lat1.val),TN,?_,nf,fun x x1 x2 _=>?_⟩
  · unfold Gz
    simp only [Ag,d,Ai]
    exact Kp (bL (Pr (J4 _))) (Fk (Fk m9 TN) (Xe (J4 _)))
  · have eD:=Rl.Afa (x:=x) en
    have nn : Rl.q 0 ≤ Rl.cn (rad p.lat1.val) * Rl.cn (rad p.lat1.val) + Rl.q 2 * n * Rl.sn (rad p.lat1.val) - Rl.q 2 * n * Rl.sn x:=by rw [eD]; exact Rl.Abm
    obtain ⟨s,s0,es⟩:=Rl.V6 nn
    obtain ⟨r,er⟩:=Rl.Yz (x:=s) hn
    have er' : n * r = s:=by rw [Rl.mul_comm,er]
    refine ⟨r,by rw [er']; exact s0,fun e=>?_,fun e=>?_,fun N G hN hG=>⟨fun X hX=>?_,fun W hW=>⟨fun _=>?_,fun e=>absurd e (by omega),fun e=>absurd e (by omega)⟩⟩⟩
    · rw [er']
      refine Rl.qS s0 (by rw [e]; exact Rl.le_of_lt (Rl.Hx a1 a2)) ?_
      rw [es,e,Rl.add_sub_cancel]
    · rw [er']
      refine Rl.qS s0 (by rw [e]; exact Rl.le_of_lt (Rl.Hx b1 b2)) ?_
      have py:=Rl.Xw x
      rw [es,eD,show Rl.cn x * Rl.cn x = Rl.q 1 - Rl.sn x * Rl.sn x from by rw [← py,Rl.add_sub_cancel],e]
      exact (Rl.Gw (P:=fun a b=>Rl.q 1 + a * b - (a + b) * b = Rl.q 1 - b * b) (fun a b=>Rl.pt fun n__=>by simp only [Rl.Cu,Rl.C1,Rl.C4,Rl.Ct,Rl.Jx]; grind) (Rl.sn (rad p.lat1.val)) (Rl.sn (rad p.lat2.val)))
    · unfold Mh
      simp only [Ag,d,Ai]
      exact Ig (uV (Jg hG (Fk (Fk m9 hN) (Xe hX))) s0 es) hN er
    · refine Ig (Jg hG (bL (Fk hW hN))) (Fk m9 hN) ?_
      rw [er,es,Rl.Ge,Rl.mul_comm]
theorem Abz {p : Pj} (h : M2 p = true) (k : p.kind.val = 12) : Ah6 p:=by
  obtain ⟨_,hp,l1,l2,m⟩:=V3 h
  obtain ⟨a1,a2⟩:=O1 (u:=p.lat1.val) (by omega) (by omega)
  obtain ⟨b1,b2⟩:=O1 (u:=p.lat2.val) (by omega) (by omega)
  have d : (p.kind.val == 10) = false:=by rw [k]; decide
  have d1 : (p.kind.val == 11) = false:=by rw [k]; decide
  obtain ⟨n,TN,hc⟩ : ∃ n,Tr (Gf p) n ∧ Rl.lZ n (rad p.lat1.val) (rad p.lat2.val):=by
    unfold Gf
    simp only [Ag,d,d1,Ae]
    by_cases e : p.lat1.val = p.lat2.val
    · have de : (p.lat1.val == p.lat2.val) = true:=by rw [e]; exact beq_self_eq_true _
      simp only [de,Ai]
      exact ⟨_,Xe (J4 _),.inl ⟨by rw [e],rfl⟩⟩
    · have de : (p.lat1.val == p.lat2.val) = false:=by simp only [beq_eq_false_iff_ne,ne_eq]; exact e
      simp only [de,Ae]
      have o : rad p.lat1.val < rad p.lat2.val ∨ rad p.lat2.val < rad p.lat1.val:=by
        rcases Int.lt_or_gt_of_ne e with c | c
        · exact .inl (Xv c)
        · exact .inr (Xv c)
      obtain ⟨n,en⟩:=Rl.Yz (x:=Rl.cn (rad p.lat1.val) - Rl.cn (rad p.lat2.val)) (y:=rad p.lat2.val - rad p.lat1.val) (o.elim (fun c=>.inr (Rl.Jt c)) (fun c=>.inl (by
        have:=Rl.jO (Rl.Jt c)
        rwa [Rl.J9] at this)))
      exact ⟨n,Ig (Jg (Pr (J4 _)) (Pr (J4 _))) (Jg (J4 _) (J4 _)) en,.inr ⟨o,en⟩⟩
  have nf:=hc.nf a1 a2 b1 b2
  have hn:=(p9 h nf).2.2
  obtain ⟨c,ec⟩:=Rl.Yz (x:=Rl.cn (rad p.lat1.val)) hn
  refine ⟨n,c + rad p.lat1.val,TN,?_,nf,fun x x1 x2 _=>⟨c + rad p.lat1.val - x,hc.rad a1 a2 b1 b2 x1 x2 ec hn.symm,fun e=>?_,fun e=>?_,fun N G hN hG=>⟨fun X hX=>?_,fun W hW=>⟨fun e=>absurd e (by omega),fun e=>absurd e (by omega),fun _=>?_⟩⟩⟩⟩
  · unfold Gz
    simp only [Ag,d,d1,Ae]
    exact Kp (Ig (Pr (J4 _)) TN ec) (J4 _)
  · rw [e,Rl.add_sub_cancel,Rl.mul_comm,ec]
  · have : n * (c + rad p.lat1.val - x) = c * n - n * (x - rad p.lat1.val):=(Rl.Mv (P:=fun n c a x=>n * (c + a - x) = c * n - n * (x - a)) (fun n c a x=>Rl.pt fun n__=>by simp only [Rl.Cu,Rl.C1,Rl.C4,Rl.Ct,Rl.Jx]; grind) n c (rad p.lat1.val) x)
    rw [this,ec,e]
    rcases hc with ⟨e1,e2⟩ | ⟨_,e2⟩
    · rw [← e1,Rl.sub_self,Rl.mul_zero,Rl.sub_zero]
    · rw [e2,Rl.Ge]
  · unfold Mh
    simp only [Ag,d,d1,Ae]
    exact Jg hG hX
  · have:=Jg hG hW
    rwa [Rl.Ge] at this
theorem qC {p : Pj} (h : M2 p = true) (k : p.kind.val = 11) : Ah6 p:=by
  obtain ⟨_,hp,l1,l2,m⟩:=V3 h
  obtain ⟨a1,a2⟩:=O1 (u:=p.lat1.val) (by omega) (by omega)
  obtain ⟨b1,b2⟩:=O1 (u:=p.lat2.val) (by omega) (by omega)
  have d : (p.kind.val == 10) = false:=by rw [k]; decide
  have d1 : (p.kind.val == 11) = true:=by rw [k]; decide
  have ca:=Rl.Hx a1 a2
  have cb:=Rl.Hx b1 b2
  obtain ⟨s,hs⟩:=Rl.wB a1 a2
  obtain ⟨t,ht⟩:=Rl.wB b1 b2
  obtain ⟨la,ea⟩:=Rl.U0 ca
  obtain ⟨lb,eb⟩:=Rl.U0 cb
  have tS : Tr (N6 (B8 p.lat1)) s:=Ach (J4 _) a1 a2 hs
  have tT : Tr (N6 (B8 p.lat2)) t:=Ach (J4 _) b1 b2 ht
  obtain ⟨n,TN,nf,hc⟩ : ∃ n,Tr (Gf p) n ∧ Rl.Nf n (rad p.lat1.val) (rad p.lat2.val) ∧ (rad p.lat1.val = rad p.lat2.val ∨ n * (t - s) = la - lb):=by
    unfold Gf
    simp only [Ag,d,d1,Ae,Ai]
    by_cases e : p.lat1.val = p.lat2.val
    · have de : (p.lat1.val == p.lat2.val) = true:=by rw [e]; exact beq_self_eq_true _
      simp only [de,Ai]
      exact ⟨_,Xe (J4 _),by rw [← e]; exact Rl.Ado a1 a2,.inl (by rw [e])⟩
    · have de : (p.lat1.val == p.lat2.val) = false:=by simp only [beq_eq_false_iff_ne,ne_eq]; exact e
      simp only [de,Ae]
      obtain ⟨n,en,nf⟩ : ∃ n,n * (t - s) = la - lb ∧ Rl.Nf n (rad p.lat1.val) (rad p.lat2.val):=by
        rcases Int.lt_or_gt_of_ne e with c | c
        · have c:=Xv c
          obtain ⟨n,en⟩:=Rl.Yz (x:=la - lb) (y:=t - s) (.inr (Rl.Jt (Rl.wA a1 a2 b1 b2 c hs ht)))
          exact ⟨n,en,Rl.jM a1 a2 b1 b2 c hs ht ea eb en⟩
        · have c:=Xv c
          obtain ⟨n,en⟩:=Rl.Yz (x:=lb - la) (y:=s - t) (.inr (Rl.Jt (Rl.wA b1 b2 a1 a2 c ht hs)))
          refine ⟨n,?_,Rl.y6 (Rl.jM b1 b2 a1 a2 c ht hs eb ea en)⟩
          rw [← Rl.J9 s t,Rl.mul_neg,en,Rl.J9]
      exact ⟨n,Ig (Jg (xI (Pr (J4 _)) ea) (xI (Pr (J4 _)) eb)) (Jg tT tS) en,nf,.inr en⟩
  have hn:=(p9 h nf).2.2
  obtain ⟨g,eg⟩:=Rl.Yz (x:=Rl.cn (rad p.lat1.val) * Rl.ex (n * s)) hn
  refine ⟨n,g,TN,?_,nf,fun x _ _ x3=>?_⟩
  · unfold Gz
    simp only [Ag,d,d1,Ae,Ai]
    exact Ig (Fk (Pr (J4 _)) (Aib (Fk TN tS))) TN eg
  · obtain ⟨x1,x2⟩:=x3 k
    have cx:=Rl.Hx x1 x2
    obtain ⟨u,hu⟩:=Rl.wB x1 x2
    have e1 : n * (g * Rl.ex (-(n * u))) = Rl.cn (rad p.lat1.val) * (Rl.ex (n * s) * Rl.ex (-(n * u))):=by rw [← Rl.mul_assoc,Rl.mul_comm n,eg,Rl.mul_assoc]
    have ux : ∀ v,Rl.Iso x v → u = v:=fun v hv=>Rl.yI hu hv cx
    refine ⟨g * Rl.ex (-(n * u)),?_,fun e=>?_,fun e=>?_,fun N G hN hG=>⟨fun X hX=>?_,fun W hW=>⟨fun e=>absurd e (by omega),fun _=>?_,fun e=>absurd e (by omega)⟩⟩⟩
    · rw [e1]
      exact Rl.le_of_lt (Rl.mul_pos ca (Rl.mul_pos (Rl.Qr _) (Rl.Qr _)))
    · rw [e1,ux s (by rw [e]; exact hs),Rl.R4,Rl.mul_one,e]
    · rw [e1,ux t (by rw [e]; exact ht)]
      rcases hc with c | c
      · have : s = t:=Rl.yI hs (by rw [c]; exact ht) ca
        rw [this,Rl.R4,Rl.mul_one,e,c]
      · rw [← Rl.Om,show n * s + -(n * t) = -(n * (t - s)) from (Rl.Mw (P:=fun n s t=>n * s + -(n * t) = -(n * (t - s))) (fun n s t=>Rl.pt fun n__=>by simp only [Rl.Cu,Rl.C1,Rl.C4,Rl.Ct,Rl.Jx]; grind) n s t),c,Rl.J9,← ea,← Rl.Om,Rl.add_comm,Rl.C7,eb,e]
    · unfold Mh
      simp only [Ag,d,d1,Ae,Ai]
      exact Fk hG (Aib (mA (Fk hN (Ach hX x1 x2 hu))))
    · have q : Tr (A4 G W) (Rl.ex (n * u)):=Ig hG hW (by rw [Rl.Ga,Rl.R4,Rl.mul_one])
      have y : Tr (A4 (W2 (A4 G W)) N) u:=Ig (xI q rfl) hN (Rl.mul_comm _ _)
      refine aA (Ai5 y) x1 x2 ?_
      have i1 : Rl.ex u * Rl.cn x = Rl.q 1 + Rl.sn x:=hu
      have i2:=Rl.pC hu cx
      rw [Rl.mul_assoc,Rl.sub_mul,i1,i2]
      exact (Rl.Dm (P:=fun s=>s = Rl.q (1/2) * (Rl.q 1 + s - (Rl.q 1 - s))) (fun s=>Rl.pt fun n__=>by simp only [Rl.Cu,Rl.C1,Rl.C4,Rl.Ct,Rl.Jx]; grind) (Rl.sn x))
theorem Ah5 {p : Pj} (h : M2 p = true) : Ah6 p:=by
  rcases (V3 h).1 with k | k | k
  · exact uM h k
  · exact qC h k
  · exact Abz h k
theorem z8 (x : IK .u64) : 0 ≤ (Eo .u64 x.val 255).val ∧ (Eo .u64 x.val 255).val ≤ 255:=by
  have e : (BitVec.ofInt 64 x.val &&& BitVec.ofInt 64 255).toNat ≤ 255:=by
    have e2 : BitVec.ofInt 64 255 = BitVec.ofNat 64 255:=by decide
    rw [e2,BitVec.toNat_and,BitVec.toNat_ofNat]
    exact Nat.and_le_right
  show 0 ≤ IntKind.u64.wrap ((BitVec.ofInt 64 x.val &&& BitVec.ofInt 64 255).toNat : Int) ∧ IntKind.u64.wrap ((BitVec.ofInt 64 x.val &&& BitVec.ofInt 64 255).toNat : Int) ≤ 255
  rw [IntKind.wrap_u64]
  omega
theorem Agy (C : Cd) (b : Je) : 0 ≤ (Be C b).1.val ∧ (Be C b).1.val ≤ 255:=by
  have hb : ∀ i,0 ≤ (Wx C.L i).val ∧ (Wx C.L i).val ≤ 255:=fun i=>by
    exact (Wx C.L i).ok
  have hw : ∀ x : Int,0 ≤ x ∧ x ≤ 255 → 0 ≤ (An x).val ∧ (An x).val ≤ 255:=fun x h=>by rw [Ad]; omega
  unfold Be
  refine Gt (p:=fun r : Aq × Je=>0 ≤ r.1.val ∧ r.1.val ≤ 255) (Gt (p:=fun r : Aq × Je=>0 ≤ r.1.val ∧ r.1.val ≤ 255) (hw _ (hb _)) (hw _ (z8 _))) (Gt (p:=fun r : Aq × Je=>0 ≤ r.1.val ∧ r.1.val ≤ 255) ?_ (hw _ (z8 _)))
  show 0 ≤ (Ah 0).val ∧ (Ah 0).val ≤ 255
  rw [A8]; omega
theorem Agt (C : Cd) (b : Je) (n : Aq) (h : 1 ≤ n.val ∧ n.val ≤ 200) : 0 ≤ (A9 C b n).1.val ∧ (A9 C b n).1.val < n.val:=by
  unfold A9
  by_cases h1 : n.val ≤ 1
  · rw [decide_eq_true h1,Ai,A8]; omega
  · rw [decide_eq_false h1,Ae,Ag,decide_eq_false (show ¬ n.val > 200 by omega),Ae]
    have:=Agy C b
    generalize Be C b = r at *
    show 0 ≤ (Jl r.1 n.val).val ∧ (Jl r.1 n.val).val < n.val
    rw [Ll,Int.tmod_eq_emod_of_nonneg this.1]
    exact ⟨Int.emod_nonneg _ (by omega),Int.emod_lt_of_pos _ (by omega)⟩
theorem Abf (C : Cd) (b : Je) (k : Aq) : (G3 C b k).1.kind = k:=by
  unfold G3
  simp only [Ag]
  refine Gt (p:=fun r : Pj × Je=>r.1.kind = k) rfl (Gt (p:=fun r : Pj × Je=>r.1.kind = k) rfl (Gt (p:=fun r : Pj × Je=>r.1.kind = k) rfl (Gt (p:=fun r : Pj × Je=>r.1.kind = k) rfl (Gt (p:=fun r : Pj × Je=>r.1.kind = k) ?_ rfl))))
  refine Gt (p:=fun r : Pj × Je=>r.1.kind = k) (Gt (p:=fun r : Pj × Je=>r.1.kind = k) rfl rfl) (Gt (p:=fun r : Pj × Je=>r.1.kind = k) rfl rfl)
theorem Alj (C : Cd) (lo hi : Aq) (h : 1 ≤ lo.val ∧ lo.val ≤ hi.val ∧ hi.val ≤ 16) : A7 (Ff C lo hi).1 = true ∧ B4 (Ff C lo hi).2 = true ∧
    ((Ff C lo hi).1.kind.val = 1 ∨ (lo.val ≤ (Ff C lo hi).1.kind.val ∧ (Ff C lo hi).1.kind.val ≤ hi.val)):=by
  have plate : A7 (⟨Ah 1,Ah 0,Ah 0,Ah 0,Ah 0⟩ : Pj) = true:=by decide
  have en : (An ((An (hi.val - lo.val)).val + 1)).val = hi.val - lo.val + 1:=by rw [Ad,Ad]; omega
  have hpick:=Agt C (⟨Ah 0,Eu 0⟩ : Je) (An ((An (hi.val - lo.val)).val + 1)) (by rw [en]; omega)
  unfold Ff
  simp only [Ag]
  generalize A9 C (⟨Ah 0,Eu 0⟩ : Je) (An ((An (hi.val - lo.val)).val + 1)) = r1 at *
  rw [en] at hpick
  have ek : (An (lo.val + r1.1.val)).val = lo.val + r1.1.val:=by rw [Ad]; omega
  have hk:=Abf C r1.2 (An (lo.val + r1.1.val))
  generalize G3 C r1.2 (An (lo.val + r1.1.val)) = r2 at *
  cases hv : Hc r2.1 with
  | false=>
    simp only [Bool.not_false,Ai]
    generalize Gy C r2.2 (⟨Ah 1,Ah 0,Ah 0,Ah 0,Ah 0⟩ : Pj) = r5
    cases ho : B4 r5.1 with
    | false=>simp only [Bool.not_false,Ai]; exact ⟨plate,kR C _,.inl (A8 _ _)⟩
    | true=>simp only [Bool.not_true,Ae]; exact ⟨plate,ho,.inl (A8 _ _)⟩
  | true=>
    simp only [Bool.not_true,Ae]
    have hv' : A7 r2.1 = true:=by unfold A7; rw [Ag]; exact hv
    have kk : lo.val ≤ r2.1.kind.val ∧ r2.1.kind.val ≤ hi.val:=by rw [hk,ek]; omega
    generalize Gy C r2.2 r2.1 = r9
    cases ho : B4 r9.1 with
    | false=>simp only [Bool.not_false,Ai]; exact ⟨hv',kR C _,.inr kk⟩
    | true=>simp only [Bool.not_true,Ae]; exact ⟨hv',ho,.inr kk⟩
theorem sA {p : Pt} (h : B4 p = true) (k : Lv p = false) : -Rl.hp < rad p.lat.val ∧ rad p.lat.val < Rl.hp:=by
  obtain ⟨b1,b2,_,_⟩:=eV h
  unfold Lv at k
  cases k1 : (p.lat.val == 900000000) with
  | true=>rw [k1] at k; cases k
  | false=>
    rw [k1,Ae] at k
    simp only [beq_eq_false_iff_ne,ne_eq] at k k1
    exact O1 (by omega) (by omega)
end Go.Proofs.YtfhnlkinjbakgaaGreat.Abs
