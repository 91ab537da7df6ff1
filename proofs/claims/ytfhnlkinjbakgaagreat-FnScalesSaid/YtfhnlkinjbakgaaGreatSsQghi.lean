/- Plain laws of the functions on numbers: what the program computes is what the reference computes. -/
import Derived.Test.YtfhnlkinjbakgaaGreatSsQabcdef
import Derived.Test.YtfhnlkinjbakgaaGreatSsFx
set_option linter.unusedVariables false
set_option linter.unusedSimpArgs false
namespace Go.Proofs.YtfhnlkinjbakgaaGreat.Abs
open Go
theorem x6 (a b : Wd) : ∃ k : Int,(Fw a b).z = a.z + b.z + k * 340282366920938463463374607431768211456:=by
  have h1:=a.lo.lo
  have h2:=a.lo.hi
  have h3:=b.lo.lo
  have h4:=b.lo.hi
  unfold Fw
  by_cases h : (Ak (a.lo.val + b.lo.val)).val < a.lo.val
  · simp only [h,decide_true,cond_true]
    simp only [At] at h
    simp only [Wd.z,Ad,At]
    refine ⟨((((a.hi.val + b.hi.val + 9223372036854775808) % 18446744073709551616 - 9223372036854775808 + 1 + 9223372036854775808) % 18446744073709551616 - 9223372036854775808) - (a.hi.val + b.hi.val + 1)) / 18446744073709551616,?_⟩
    omega
  · simp only [h,decide_false,cond_false]
    simp only [At] at h
    simp only [Wd.z,Ad,At]
    refine ⟨(((a.hi.val + b.hi.val + 9223372036854775808) % 18446744073709551616 - 9223372036854775808) - (a.hi.val + b.hi.val)) / 18446744073709551616,?_⟩
    omega
theorem uF : (I5 (Ah (-1))).z = -1:=by decide
theorem Ak6 (h l : Dp) : ∃ k : Int,Wd.z ⟨An (Ak (h.val + (Lg l (Eu 1) (Eu 0)).val)).val,L2 l (Eu 1) (Eu 0)⟩ = Wd.z ⟨An h.val,l⟩ + 1 + k * 340282366920938463463374607431768211456:=by
  have h1:=l.lo
  have h2:=l.hi
  have h3:=h.lo
  have h4:=h.hi
  simp only [Wd.z,Ad,At,bF,kY,Bt]
  refine ⟨((((h.val + (l.val + 1 + 0) / 18446744073709551616) % 18446744073709551616 + 9223372036854775808) % 18446744073709551616 - 9223372036854775808) - ((h.val + 9223372036854775808) % 18446744073709551616 - 9223372036854775808) - (l.val + 1 + 0) / 18446744073709551616) / 18446744073709551616,?_⟩
  omega
theorem kH (w : Wd) (d : Aq) (hd : 0 < d.val) : Pg w d = ((Ha w d).1,(Ha w d).2,true):=by
  have hdh:=d.hi
  have hwd : 0 < (Ak d.val).val:=by rw [At]; omega
  have hn : ¬ d.val ≤ 0:=by omega
  unfold Pg Ha
  simp only [hn,decide_false,cond_false,Bp,t7]
  rw [kG _ _ _ hwd,kG _ _ _ hwd]
  by_cases h : w.hi.val ≥ 0
  · simp only [h,decide_true,cond_true]
  · simp only [h,decide_false,cond_false]
    generalize O8 (Ak (Db w).hi.val) (Db w).lo (Ak d.val) = p
    obtain ⟨qh,q,r⟩:=p
    simp only
    cases hr : (r.val == 0) with
    | true=>rfl
    | false=>
      simp only [cond_false]
      have e : Db ⟨An (Ak (qh.val + (Lg q (Eu 1) (Eu 0)).val)).val,L2 q (Eu 1) (Eu 0)⟩ = Fw (Db ⟨An qh.val,q⟩) (I5 (Ah (-1))):=by
        refine Wd.z_mod ?_
        obtain ⟨k1,e1⟩:=Zk ⟨An (Ak (qh.val + (Lg q (Eu 1) (Eu 0)).val)).val,L2 q (Eu 1) (Eu 0)⟩
        obtain ⟨k2,e2⟩:=Ak6 qh q
        obtain ⟨k3,e3⟩:=x6 (Db ⟨An qh.val,q⟩) (I5 (Ah (-1)))
        obtain ⟨k4,e4⟩:=Zk ⟨An qh.val,q⟩
        refine ⟨k1 - k2 - k3 - k4,?_⟩
        rw [e1,e2,e3,e4,uF]
        omega
      rw [e]
theorem fU (w : Wd) (d : Aq) (hd : d.val ≤ 0) : Pg w d = (⟨Ah 0,Eu 0⟩,Ah 0,false):=by
  unfold Pg
  simp only [hd,decide_true,cond_true]
theorem P4 (a b d : Aq) : H8 a b d = Ds a b d:=by
  unfold H8 Ds
  simp only [Bp,On,aX]
  by_cases h : d.val ≤ 0
  · rw [fU _ _ h]
    simp only [h,decide_true,cond_true]
    rfl
  · rw [kH _ _ (by omega)]
    simp only [h,decide_false,cond_false]
    rfl
theorem nS (w : Wd) (d : Aq) (hd : 0 < d.val) (h1 : -85070591730234615865843651857942052864 ≤ w.z) (h2 : w.z ≤ 85070591730234615865843651857942052864) :
    (Ha w d).1.z * d.val + (Ha w d).2.val = w.z ∧ 0 ≤ (Ha w d).2.val ∧ (Ha w d).2.val < d.val:=by
  have hdh:=d.hi
  have hwd : (Ak d.val).val = d.val:=by rw [At]; omega
  have key : ∀ v : Wd,v.hi.val ≥ 0 → ∃ q r : Dp,O8 (Ak v.hi.val) v.lo (Ak d.val) = (Ak (Int.tdiv (Ak v.hi.val).val (Ak d.val).val),q,r) ∧ Wd.z ⟨An (Ak (Int.tdiv (Ak v.hi.val).val (Ak d.val).val)).val,q⟩ * d.val + r.val = v.z ∧ r.val < d.val ∧ 0 ≤ Wd.z ⟨An (Ak (Int.tdiv (Ak v.hi.val).val (Ak d.val).val)).val,q⟩:=fun v hv=>by
    have hvh:=v.hi.hi
    obtain ⟨q,r,e1,e2,e3⟩:=mE (Ak v.hi.val) v.lo (Ak d.val) (by omega)
    have hvv : (Ak v.hi.val).val = v.hi.val:=by rw [At]; omega
    rw [hvv,hwd] at e2
    rw [hwd] at e3
    have e4:=Int.emod_add_mul_ediv v.hi.val d.val
    have q0 : 0 ≤ v.hi.val / d.val:=Int.ediv_nonneg hv (by omega)
    have q1 : v.hi.val / d.val ≤ v.hi.val:=Int.ediv_le_self _ hv
    have eq1 : (Ak (Int.tdiv (Ak v.hi.val).val (Ak d.val).val)).val = v.hi.val / d.val:=by
      rw [hvv,hwd,Int.tdiv_eq_ediv_of_nonneg hv,At]
      omega
    have eq2 : (An (Ak (Int.tdiv (Ak v.hi.val).val (Ak d.val).val)).val).val = v.hi.val / d.val:=by
      rw [eq1,Ad]
      omega
    refine ⟨q,r,e1,?_,e3,?_⟩
    · simp only [Wd.z,eq2]
      rw [Int.add_mul]
      have : v.hi.val / d.val * 18446744073709551616 * d.val = d.val * (v.hi.val / d.val) * 18446744073709551616:=by rw [Int.mul_assoc,Int.mul_comm 18446744073709551616,← Int.mul_assoc,Int.mul_comm (v.hi.val / d.val)]
      rw [this]
      omega
    · simp only [Wd.z,eq2]
      have:=q.lo
      omega
  unfold Ha
  simp only [Bp]
  by_cases h : w.hi.val ≥ 0
  · simp only [h,decide_true,cond_true]
    obtain ⟨q,r,e1,e2,e3,_⟩:=key w h
    rw [e1]
    have r0:=r.lo
    have er : (An r.val).val = r.val:=by rw [Ad]; omega
    rw [er]
    exact ⟨e2,r0,e3⟩
  · simp only [h,decide_false,cond_false]
    obtain ⟨k,hk⟩:=Zk w
    have mz : (Db w).z = -w.z ∧ (Db w).hi.val ≥ 0:=by
      have a1:=(Db w).lo.lo
      have a2:=(Db w).lo.hi
      have a3:=(Db w).hi.lo
      have a4:=(Db w).hi.hi
      have b1:=w.lo.lo
      have b2:=w.lo.hi
      simp only [Wd.z] at hk h1 h2 ⊢
      omega
    obtain ⟨q,r,e1,e2,e3,e4⟩:=key _ mz.2
    rw [e1]
    have r0:=r.lo
    have er : (An r.val).val = r.val:=by rw [Ad]; omega
    simp only [er]
    generalize hX : (⟨An (Ak (Int.tdiv (Ak (Db w).hi.val).val (Ak d.val).val)).val,q⟩ : Wd) = X at *
    have Xle : X.z ≤ 85070591730234615865843651857942052864:=by
      have:=Int.mul_le_mul_of_nonneg_left (by omega : (1 : Int) ≤ d.val) e4
      omega
    have nz : (Db X).z = -X.z:=by
      obtain ⟨k2,hk2⟩:=Zk X
      have a1:=(Db X).lo.lo
      have a2:=(Db X).lo.hi
      have a3:=(Db X).hi.lo
      have a4:=(Db X).hi.hi
      generalize Db X = Y at *
      have : Y.z = Y.hi.val * 18446744073709551616 + Y.lo.val:=rfl
      omega
    cases hr : (r.val == 0) with
    | true=>
      have hr' : r.val = 0:=by simpa using hr
      simp only [cond_true,Aj]
      rw [nz,Int.neg_mul]
      omega
    | false=>
      have hr' : r.val ≠ 0:=by simpa using hr
      simp only [cond_false]
      have dz : (An (d.val - r.val)).val = d.val - r.val:=by rw [Ad]; omega
      have pz : (Fw (Db X) (I5 (Ah (-1)))).z = -X.z - 1:=by
        obtain ⟨k3,hk3⟩:=x6 (Db X) (I5 (Ah (-1)))
        rw [nz,uF] at hk3
        generalize Fw (Db X) (I5 (Ah (-1))) = Y at *
        have a1:=Y.lo.lo
        have a2:=Y.lo.hi
        have a3:=Y.hi.lo
        have a4:=Y.hi.hi
        have : Y.z = Y.hi.val * 18446744073709551616 + Y.lo.val:=rfl
        omega
      rw [dz,pz,Int.sub_mul,Int.neg_mul,Int.one_mul]
      omega
theorem Ajb (w : Wd) : (∃ n : Aq,n.val = w.z ∧ Ke w = (n,true)) ∨ Ke w = (Ah 0,false):=by
  have h1:=w.lo.lo
  have h2:=w.lo.hi
  unfold Ke
  simp only [Bp]
  by_cases h : ((I5 (An w.lo.val)).hi.val == w.hi.val && (I5 (An w.lo.val)).lo.val == w.lo.val) = true
  · left
    refine ⟨An w.lo.val,?_,by rw [h]; rfl⟩
    simp only [Bool.and_eq_true,beq_iff_eq] at h
    have e:=h.1
    unfold I5 at e
    simp only [Wd.z,Ad]
    by_cases hn : (An w.lo.val).val < 0
    · simp only [hn,decide_true,cond_true,Aj] at e
      rw [Ad] at hn
      omega
    · simp only [hn,decide_false,cond_false,Aj] at e
      rw [Ad] at hn
      omega
  · right
    have : ((I5 (An w.lo.val)).hi.val == w.hi.val && (I5 (An w.lo.val)).lo.val == w.lo.val) = false:=by simpa using h
    rw [this]
    rfl
theorem Ah4 (a : Aq) (h : a.val < -1152921504606846976 ∨ 1152921504606846976 < a.val) : Fu a true = (Ah 0,false):=by
  unfold Fu
  have : B7 a = false:=by
    rw [V7]
    simp
    omega
  simp [Bp,this]
theorem Xj (a b d : Aq) (h : d.val ≤ 0) : Ds a b d = (Ah 0,false):=by
  unfold Ds
  simp only [h,decide_true,cond_true]
theorem tJ (a d : Aq) : Q4 a d = Mj a d:=by
  unfold Q4 Mj
  simp only [Bp,P4,Vm]
  by_cases h : d.val ≤ 0
  · simp only [h,decide_true,cond_true]
    rw [Xj _ _ _ h]
    rfl
  · simp only [h,decide_false,cond_false]
theorem wO (a d : Aq) : Su a d = O7 a d:=by
  unfold Su O7 Sg
  simp only [Bp,Vm,On,aX]
  by_cases h : d.val ≤ 0
  · rw [fU _ _ h]
    simp only [h,decide_true,cond_true]
    rfl
  · have hd : 0 < d.val:=by omega
    have dh:=d.hi
    have ah:=a.hi
    have al:=a.lo
    rw [kH _ _ hd]
    simp only [h,decide_false,cond_false,Bool.not_true]
    unfold Ds
    simp only [h,decide_false,cond_false,Bp]
    have hz:=Jh a (Ah 4294967296)
    rw [Aj] at hz
    obtain ⟨e1,e2,e3⟩:=nS (A3 a (Ah 4294967296)) d hd (by rw [hz]; omega) (by rw [hz]; omega)
    rw [hz] at e1
    generalize Ha (A3 a (Ah 4294967296)) d = p at *
    obtain ⟨q,r⟩:=p
    simp only at *
    rcases Ajb q with ⟨n,hn,hq⟩ | hq
    · rw [hq]
      rw [← hn] at e1
      simp only [Bool.not_true,cond_false]
      have nl:=n.lo
      have nh:=n.hi
      by_cases hr : r.val = 0
      · have hb : decide (r.val > 0) = false:=by simp [hr]
        have hne : ((An (n.val * d.val)).val != (An (a.val * 4294967296)).val) = false:=by
          have : n.val * d.val = a.val * 4294967296:=by omega
          simp [this]
        simp only [hb,hne,cond_false]
      · have hb : decide (r.val > 0) = true:=by simp; omega
        have hne : ((An (n.val * d.val)).val != (An (a.val * 4294967296)).val) = true:=by
          have : n.val * d.val = a.val * 4294967296 - r.val:=by omega
          rw [this]
          simp only [Ad,bne_iff_ne,ne_eq]
          omega
        simp only [hb,hne,cond_true]
        by_cases hx : n.val = 9223372036854775807
        · have hx' : (n.val == 9223372036854775807) = true:=by simpa using hx
          rw [hx',cond_true]
          have ev : (An (n.val + 1)).val = -9223372036854775808:=by rw [Ad]; omega
          rw [Ah4 (An (n.val + 1)) (by rw [ev]; omega)]
          rfl
        · have hx' : (n.val == 9223372036854775807) = false:=by simpa using hx
          rw [hx',cond_false]
    · rw [hq]
      rfl
theorem mW (p q : Aq × Bool) : (bif p.2 then Ej p.1 q.1 q.2 else Ej p.1 q.1 false) = (bif (!p.2) then Aw else (bif (!q.2) then Aw else C0 p.1 q.1)):=by
  obtain ⟨a,b⟩:=p
  obtain ⟨c,d⟩:=q
  cases b with
  | false=>rfl
  | true=>
    cases d with
    | false=>rfl
    | true=>exact Kj a c
theorem Yb (a b : Aq) : Dh a b = C9 a b:=by
  unfold Dh C9
  simp only [Bp,tJ,wO,mW,Dv]
  have al:=a.lo
  have ah:=a.hi
  have bl:=b.lo
  have bh:=b.hi
  by_cases h : b.val < 0
  · simp only [h,decide_true,cond_true]
    by_cases h1 : a.val = -9223372036854775808
    · have e1 : (a.val == -9223372036854775808) = true:=by simpa using h1
      have e2 : ((An (0 - a.val)).val == -9223372036854775808) = true:=by
        have : (An (0 - a.val)).val = -9223372036854775808:=by rw [Ad]; omega
        simpa using this
      rw [e1,e2]
      simp only [cond_true]
      cases decide ((An (0 - b.val)).val < 0) <;> rfl
    · have e1 : (a.val == -9223372036854775808) = false:=by simpa using h1
      have e2 : ((An (0 - a.val)).val == -9223372036854775808) = false:=by
        have : (An (0 - a.val)).val ≠ -9223372036854775808:=by rw [Ad]; omega
        simpa using this
      rw [e1,e2]
      simp only [cond_false]
      by_cases h2 : b.val = -9223372036854775808
      · have e3 : (b.val == -9223372036854775808) = true:=by simpa using h2
        have e4 : decide ((An (0 - b.val)).val < 0) = true:=by
          have : (An (0 - b.val)).val < 0:=by rw [Ad]; omega
          simpa using this
        simp only [e3,e4,cond_true,cond_false]
      · have e3 : (b.val == -9223372036854775808) = false:=by simpa using h2
        have e4 : decide ((An (0 - b.val)).val < 0) = false:=by
          have : ¬ (An (0 - b.val)).val < 0:=by rw [Ad]; omega
          simpa using this
        simp only [e3,e4,cond_true,cond_false]
  · simp only [h,decide_false,cond_false]
theorem Xi {a : Iv} (h : Am a = true) : -1152921504606846976 < a.lo.val ∧ a.lo.val ≤ a.hi.val ∧ a.hi.val < 1152921504606846976:=by
  unfold Am at h
  by_cases q : -1152921504606846976 < a.lo.val
  · by_cases q2 : a.lo.val ≤ a.hi.val
    · by_cases q3 : a.hi.val < 1152921504606846976
      · exact ⟨q,q2,q3⟩
      · simp [q3] at h
    · simp [q2] at h
  · simp [q] at h
theorem I7 {a : Iv} (h : -1152921504606846976 < a.lo.val ∧ a.lo.val ≤ a.hi.val ∧ a.hi.val < 1152921504606846976) : Am a = true:=by
  unfold Am
  simp only [h.1,h.2.1,h.2.2,decide_true,cond_true]
theorem Fc {a b : Aq} (h : -1152921504606846976 < a.val ∧ a.val ≤ b.val ∧ b.val < 1152921504606846976) : C0 a b = ⟨a,b⟩:=by
  unfold C0
  have : Am ⟨a,b⟩ = true:=I7 h
  simp only [Bp,this,Bool.not_true,cond_false]
theorem Uh (a : Iv) : Q2 a = Kl a:=by
  unfold Q2 Kl Dk
  simp only [Bp,N5,Dv]
  cases h : Am a with
  | false=>rfl
  | true=>
    obtain ⟨h1,h2,h3⟩:=Xi h
    simp only [Bool.not_true,cond_false]
    rw [Fc (by simp only [Ad]; omega)]
theorem Le (a b : Iv) : Em a b = Cw a b:=by
  unfold Em Cw
  simp only [Bp,Uh,I4]
  unfold Bj Kl
  simp only [Bp]
  cases ha : Am a with
  | false=>rfl
  | true=>
    cases hb : Am b with
    | false=>rfl
    | true=>
      obtain ⟨h1,h2,h3⟩:=Xi hb
      simp only [Bool.not_true,cond_false]
      rw [Fc (by simp only [Ad]; omega)]
      have ho : Am ⟨An (0 - b.hi.val),An (0 - b.lo.val)⟩ = true:=I7 (by simp only [Ad]; omega)
      simp only [ho,Bool.not_true,cond_false]
      have e1 : An (a.lo.val + (An (0 - b.hi.val)).val) = An (a.lo.val - b.hi.val):=IK.eq (by simp only [Ad]; omega)
      have e2 : An (a.hi.val + (An (0 - b.lo.val)).val) = An (a.hi.val - b.lo.val):=IK.eq (by simp only [Ad]; omega)
      rw [e1,e2]
theorem Abb (a b : Vc) : Yq a b = Tm a b:=by
  unfold Yq Tm
  simp only [Il,Le]
theorem Ahj (a : Iv) (n : Aq) : U4 a n = Dx a n:=by
  unfold U4 Dx Dk I1
  simp only [Bp,N5,O5]
theorem kM (a b : Aq) : Ng a b = Bl a b:=by
  unfold Ng Bl
  simp only [Bp,Me,P4,Vm]
  by_cases h : b.val = 0
  · have hb : (b.val == 0) = true:=by simpa using h
    have hn : decide (b.val < 0) = false:=by simp [h]
    simp only [hb,hn,cond_true,cond_false]
    rw [Xj _ _ _ (by omega)]
    rfl
  · have hb : (b.val == 0) = false:=by simpa using h
    simp only [hb,cond_false]
theorem qD : An (0 - (Ah 0).val) = Ah 0:=IK.eq (by decide)
theorem Aft (a : Aq) (b : Bool) : ((Fu a b).2 = true ∧ -1152921504606846976 ≤ (Fu a b).1.val ∧ (Fu a b).1.val ≤ 1152921504606846976) ∨ Fu a b = (Ah 0,false):=by
  unfold Fu
  simp only [Bp]
  cases b with
  | false=>exact .inr rfl
  | true=>
    cases h : B7 a with
    | false=>exact .inr rfl
    | true=>
      left
      rw [V7,Bool.and_eq_true] at h
      exact ⟨rfl,of_decide_eq_true h.1,of_decide_eq_true h.2⟩
theorem lG (a b : Aq) : ((Bl a b).2 = true ∧ -1152921504606846976 ≤ (Bl a b).1.val ∧ (Bl a b).1.val ≤ 1152921504606846976) ∨ Bl a b = (Ah 0,false):=by
  unfold Bl
  simp only [Bp]
  cases B7 a with
  | false=>exact .inr rfl
  | true=>
    cases B7 b with
    | false=>exact .inr rfl
    | true=>
      cases (b.val == 0) with
      | true=>exact .inr rfl
      | false=>
        cases decide (b.val < 0) with
        | true=>exact Aft _ _
        | false=>exact Aft _ _
theorem uK {a b : Aq} (h : B7 b = false) : Bl a b = (Ah 0,false):=by
  unfold Bl
  simp only [Bp,h]
  cases B7 a <;> rfl
theorem Aem (a b : Aq) : Us a b = Cj a b:=by
  unfold Us Cj
  simp only [Bp,Me,kM]
  cases B7 a with
  | false=>rfl
  | true=>
    cases hb : B7 b with
    | false=>
      rw [uK hb]
      simp only [qD]
      rfl
    | true=>rfl
theorem Afu (a b : Aq) : ((Cj a b).2 = true ∧ -1152921504606846976 ≤ (Cj a b).1.val ∧ (Cj a b).1.val ≤ 1152921504606846976) ∨ Cj a b = (Ah 0,false):=by
  unfold Cj
  simp only [Bp]
  cases B7 a with
  | false=>exact .inr rfl
  | true=>
    rcases lG (An (0 - a.val)) b with ⟨h,h1,h2⟩ | h
    · left
      simp only [Bool.not_true,cond_false,Ad] at *
      refine ⟨h,?_⟩
      omega
    · right
      rw [h]
      simp only [qD]
      rfl
theorem Im (a b : Iv) : C2 a b = A4 a b:=by
  unfold C2 A4 E5 U4 Dk
  simp only [Bp,Hd,Dv,kM,Aem,Kj,Z8,Z7,N5]
  cases Am a with
  | false=>rfl
  | true=>
    cases Am b with
    | false=>rfl
    | true=>
      unfold I1
      simp only [Bp,O5,Bool.and_self,Bool.not_true,cond_false]
      cases Bz (Ah 0) b.lo b.hi with
      | true=>rfl
      | false=>
        simp only [cond_false]
        rcases lG a.lo b.lo with ⟨h1,h2,h3⟩ | h1
        · rcases Afu a.lo b.lo with ⟨k1,k2,k3⟩ | k1
          · simp only [Ads _ h3,Adq _ k2,yC,y9]
          · simp [k1]
        · simp [h1]
end Go.Proofs.YtfhnlkinjbakgaaGreat.Abs
