/- Plain laws of the functions on numbers: what the program computes is what the reference computes. -/
import Derived.Test.YtfhnlkinjbakgaaGreatSsReal
import Derived.Test.YtfhnlkinjbakgaaGreatSsQzazbzc
import Derived.Test.YtfhnlkinjbakgaaGreatSsFx
set_option linter.unusedVariables false
set_option linter.unusedSimpArgs false
namespace Go.Proofs.YtfhnlkinjbakgaaGreat.Abs
open Go
def Tr (I : Iv) (x : Rl.R) : Prop:=Am I = true → Rl.In I.lo.val I.hi.val x
theorem Jf (x : Rl.R) : Tr Aw x:=fun h=>absurd h (by decide)
theorem Kp {a b : Iv} {x y : Rl.R} (ha : Tr a x) (hb : Tr b y) : Tr (Bj a b) (x + y):=fun h=>by
  obtain ⟨h1,h2,h3,h4⟩:=Afv h
  rw [h3,h4]
  exact (ha h1).add (hb h2)
theorem Jg {a b : Iv} {x y : Rl.R} (ha : Tr a x) (hb : Tr b y) : Tr (Cw a b) (x - y):=fun h=>by
  obtain ⟨h1,h2,h3,h4⟩:=Afh h
  rw [h3,h4]
  exact (ha h1).sub (hb h2)
theorem Fk {a b : Iv} {x y : Rl.R} (ha : Tr a x) (hb : Tr b y) : Tr (Ay a b) (x * y):=fun h=>by
  obtain ⟨h1,h2,a1,a2,b1,b2,c1,c2,d1,d2⟩:=l9 h
  exact (ha h1).mul (hb h2) ⟨a1,a2⟩ ⟨b1,b2⟩ ⟨c1,c2⟩ ⟨d1,d2⟩
theorem Ig {a b : Iv} {x y z : Rl.R} (ha : Tr a x) (hb : Tr b y) (hz : z * y = x) : Tr (A4 a b) z:=fun h=>by
  obtain ⟨h1,h2,h0,hc⟩:=lF h
  have A:=ha h1
  have B:=hb h2
  have ob:=B.ord
  rcases h0 with h0 | h0
  · have c1:=(hc _ _ (.inl rfl) (.inl rfl)).1 h0
    have c2:=(hc _ _ (.inl rfl) (.inr rfl)).1 (by omega)
    have c3:=(hc _ _ (.inr rfl) (.inl rfl)).1 h0
    have c4:=(hc _ _ (.inr rfl) (.inr rfl)).1 (by omega)
    exact A.div_pos B h0 hz c1.1 c2.1 c3.2 c4.2
  · have c1:=(hc _ _ (.inl rfl) (.inl rfl)).2 (by omega)
    have c2:=(hc _ _ (.inl rfl) (.inr rfl)).2 h0
    have c3:=(hc _ _ (.inr rfl) (.inl rfl)).2 (by omega)
    have c4:=(hc _ _ (.inr rfl) (.inr rfl)).2 h0
    have A':=A.neg
    have B':=B.neg
    have hz' : z * -y = -x:=by rw [Rl.mul_neg,hz]
    refine A'.div_pos B' (by omega) hz' ?_ ?_ ?_ ?_
    · rw [Int.mul_neg,Int.neg_mul]; omega
    · rw [Int.mul_neg,Int.neg_mul]; omega
    · rw [Int.mul_neg,Int.neg_mul]; omega
    · rw [Int.mul_neg,Int.neg_mul]; omega
theorem bL {a : Iv} {x : Rl.R} (ha : Tr a x) : Tr (I6 a) (x * x):=fun h=>by
  obtain ⟨h1,_,hu⟩:=Afk h
  have A:=ha h1
  have o:=A.ord
  have k1:=hu _ (Int.le_refl _) o
  have k2:=hu _ o (Int.le_refl _)
  refine A.sqr k1.2 k2.2 (fun _=>k1.1) (fun _=>k2.1) (fun h2 h3=>?_)
  have:=(hu 0 h2 h3).1
  omega
theorem uV {a : Iv} {x s : Rl.R} (ha : Tr a x) (hs : Rl.q 0 ≤ s) (e : s * s = x) : Tr (Jw a) s:=fun h=>by
  obtain ⟨h1,h2,h3,h4,h5⟩:=Abr h
  have A:=ha h1
  have h6 : 0 ≤ (Jw a).hi.val:=by
    have:=Vu h
    omega
  exact A.sqrt hs e h3 h6 h4 h5
theorem mA {a : Iv} {x : Rl.R} (ha : Tr a x) : Tr (Kl a) (-x):=fun h=>by
  unfold Kl at h ⊢
  simp only [Ag] at h ⊢
  cases h1 : Am a with
  | false=>rw [h1] at h; simp only [Bool.not_false,Ai] at h; exact absurd h (by decide)
  | true=>
    rw [h1] at h
    simp only [Bool.not_true,Ae] at h ⊢
    rw [Ic h]
    have A:=(ha h1).neg
    have p:=Vu h1
    show Rl.In (An (0 - a.hi.val)).val (An (0 - a.lo.val)).val _
    rw [Ad,Ad]
    refine A.mono ?_ ?_ <;> omega
theorem Ni {a b : Iv} (ha : Am (Cm a b) = true) : Am a = true ∧ Am b = true ∧ (Cm a b).lo.val ≤ a.lo.val ∧ (Cm a b).lo.val ≤ b.lo.val ∧ a.hi.val ≤ (Cm a b).hi.val ∧ b.hi.val ≤ (Cm a b).hi.val:=by
  unfold Cm at ha ⊢
  simp only [Ag] at ha ⊢
  cases h1 : Am a with
  | false=>rw [h1] at ha; simp only [Bool.not_false,Ai] at ha; exact absurd ha (by decide)
  | true=>
  cases h2 : Am b with
  | false=>rw [h1,h2] at ha; simp only [Bool.not_false,Bool.not_true,Ai,Ae] at ha; exact absurd ha (by decide)
  | true=>
    rw [h1,h2] at ha
    simp only [Bool.not_true,Ae] at ha ⊢
    rw [Ic ha]
    exact ⟨trivial,trivial,(Oe _ _).1,(Oe _ _).2,(L5 _ _).1,(L5 _ _).2⟩
theorem lA {a b d : Aq} (hd : 0 < d.val) (h1 : -85070591730234615865843651857942052864 ≤ a.val * b.val) (h2 : a.val * b.val ≤ 85070591730234615865843651857942052864) (k1 : -9223372036854775808 ≤ a.val * b.val / d.val) (k2 : a.val * b.val / d.val ≤ 9223372036854775807) :
    ∃ r : Aq,Ds a b d = (r,true) ∧ r.val = a.val * b.val / d.val:=by
  have hm : (A3 a b).z = a.val * b.val:=Jh a b
  obtain ⟨s1,s2,s3⟩:=nS (A3 a b) d hd (by rw [hm]; exact h1) (by rw [hm]; exact h2)
  rw [hm] at s1
  have hq : (Ha (A3 a b) d).1.z = a.val * b.val / d.val:=by
    generalize (Ha (A3 a b) d).1.z = q at *
    generalize (Ha (A3 a b) d).2.val = r at *
    rw [← s1,Int.mul_comm q,Int.add_comm,Int.add_mul_ediv_left _ _ (by omega),Int.ediv_eq_zero_of_lt s2 s3,Int.zero_add]
  obtain ⟨n,hn,hi⟩:=Yn _ (by rw [hq]; exact k1) (by rw [hq]; exact k2)
  refine ⟨n,?_,by rw [hn,hq]⟩
  unfold Ds
  have e5 : decide (d.val ≤ 0) = false:=decide_eq_false (by omega)
  simp only [Ag,e5,Ae,hi]
theorem Ajt (c : Int) : Rl.fx (c * 4294967296) = Rl.q c:=by
  unfold Rl.fx
  congr 1
  push_cast
  grind
theorem Yw (c : Aq) : Tr (Ao c) (Rl.q c.val):=fun h=>by
  by_cases hc : -268435455 ≤ c.val ∧ c.val ≤ 268435455
  · obtain ⟨z,hz,_,h1,h2⟩:=I9 c hc.1 hc.2
    rw [hz,h1,h2,← Ajt]
    exact Rl.In.fix _
  · exfalso
    unfold Ao at h
    simp only [Ag] at h
    have : Bz c (Ah (-268435455)) (Ah 268435455) = false:=by
      rw [Gk]
      simp only [A8,Bool.and_eq_false_iff,decide_eq_false_iff_not]
      omega
    rw [this] at h
    simp only [Bool.not_false,Ai] at h
    exact absurd h (by decide)
theorem bM (n : Aq) : Tr (Bm n) (Rl.fx n.val):=fun _=>Rl.In.fix _
noncomputable def rad (u : Int) : Rl.R:=Rl.q (u / 900000000) * Rl.hp
theorem bY (a b : Int) : rad (a + b) = rad a + rad b:=by
  unfold rad
  rw [← Rl.add_mul,← Rl.L3]
  congr 2
  push_cast
  grind
theorem xV (a : Int) : rad (-a) = -rad a:=by
  unfold rad
  rw [← Rl.neg_mul,← Rl.Ii]
  congr 2
  push_cast
  grind
theorem iO : rad 0 = Rl.q 0:=by
  unfold rad
  rw [show ((0 : Int) : Rat) / 900000000 = 0 by decide +kernel,Rl.zero_mul]
theorem vJ (k : Int) : rad (k * 900000000) = Rl.kh k:=by
  unfold rad Rl.kh
  congr 2
  push_cast
  grind
theorem Xv {a b : Int} (h : a < b) : rad a < rad b:=fun k=>by
  have e : rad b = rad a + rad (b - a):=by rw [← bY]; congr 1; omega
  rw [e] at k
  have k2:=Rl.Du k (Rl.le_refl (rad a))
  rw [Rl.J2,Rl.sub_self] at k2
  refine Rl.mul_pos (x:=Rl.q ((b - a : Int) / 900000000)) (Rl.Qb.2 ?_) Rl.Fv k2
  have : (1 : Int) ≤ b - a:=by omega
  have:=Rl.E3 this
  have e1 : ((1 : Int) : Rat) = 1:=by decide
  grind
theorem Ajd {u f g : Int} (h0 : 0 ≤ u) (h1 : f * 966367641600000000 ≤ u * 7244019458077122842) (h2 : u * 7244019458077122843 ≤ g * 966367641600000000) : Rl.In f g (rad u):=by
  have up : (0 : Rat) ≤ (u : Rat) / 900000000:=by
    have:=Rl.E3 h0
    grind
  constructor
  · refine Rl.le_trans ?_ (Rl.Ba Rl.sS (Rl.Dd.2 up))
    rw [← Rl.Ez]
    refine Rl.Dd.2 ?_
    have:=Rl.E3 h1
    push_cast at this
    unfold Rl.X5
    grind
  · refine Rl.le_trans (Rl.Ba Rl.yL (Rl.Dd.2 up)) ?_
    rw [← Rl.Ez]
    refine Rl.Dd.2 ?_
    have:=Rl.E3 h2
    push_cast at this
    unfold Rl.hhi
    grind
theorem iP (fu : Nat) (a : Aq) (h0 : 0 < a.val) (h1 : a.val ≤ 36000000000) : ∃ z : Iv,He (fu + 1) a = z ∧ Am z = true ∧ Rl.In z.lo.val z.hi.val (rad a.val) ∧ 0 ≤ z.lo.val ∧ z.hi.val ≤ 300000000000:=by
  obtain ⟨r,hr,rv⟩:=lA (a:=a) (b:=Ah 7244019458077122842) (d:=Ah 966367641600000000) (by rw [A8]; decide) (by rw [A8]; omega) (by rw [A8]; omega) (by rw [A8,A8]; omega) (by rw [A8,A8]; omega)
  obtain ⟨s,hs,sv⟩:=lA (a:=a) (b:=Ah 7244019458077122843) (d:=Ah 966367641600000000) (by rw [A8]; decide) (by rw [A8]; omega) (by rw [A8]; omega) (by rw [A8,A8]; omega) (by rw [A8,A8]; omega)
  rw [A8,A8] at rv sv
  have hi : Bz a (Ah (-36000000000)) (Ah 36000000000) = true:=by
    rw [Gk]
    simp only [Bool.and_eq_true,decide_eq_true_eq,A8]
    omega
  have w1 : (An (s.val + 1)).val = s.val + 1:=by rw [Ad]; omega
  refine ⟨⟨r,An (s.val + 1)⟩,?_,I7 ?_,?_,?_,?_⟩
  · unfold He Kk
    have d1 : decide (a.val < 0) = false:=decide_eq_false (by omega)
    have d2 : (a.val == 0) = false:=by simp only [beq_eq_false_iff_ne,ne_eq]; omega
    simp only [Ag,hi,Bool.not_true,Ae,d1,d2,hr,hs]
  · show -1152921504606846976 < r.val ∧ r.val ≤ (An (s.val + 1)).val ∧ (An (s.val + 1)).val < 1152921504606846976
    rw [w1]
    omega
  · show Rl.In r.val (An (s.val + 1)).val _
    rw [w1]
    refine Ajd (by omega) ?_ ?_ <;> omega
  · show 0 ≤ r.val
    omega
  · show (An (s.val + 1)).val ≤ _
    rw [w1]
    omega
theorem Ah2 (a : Aq) (h : -36000000000 ≤ a.val ∧ a.val ≤ 36000000000) : ∃ z : Iv,B8 a = z ∧ Am z = true ∧ Rl.In z.lo.val z.hi.val (rad a.val) ∧ -300000000000 ≤ z.lo.val ∧ z.hi.val ≤ 300000000000:=by
  have hi : Bz a (Ah (-36000000000)) (Ah 36000000000) = true:=by
    rw [Gk]
    simp only [Bool.and_eq_true,decide_eq_true_eq,A8]
    omega
  by_cases h0 : 0 < a.val
  · obtain ⟨z,h1,h2,h3,h4,h5⟩:=iP 1 a h0 h.2
    exact ⟨z,h1,h2,h3,by omega,h5⟩
  · by_cases hz : a.val = 0
    · refine ⟨⟨Ah 0,Ah 0⟩,?_,by decide,?_,by decide,by decide⟩
      · unfold B8 He Kk
        have d2 : (a.val == 0) = true:=by simp only [beq_iff_eq]; exact hz
        simp only [Ag,hi,Bool.not_true,Ae,d2,Ai]
      · rw [hz,iO,← Rl.Fy]
        exact Rl.In.fix _
    · have en : (An (0 - a.val)).val = -a.val:=by rw [Ad]; omega
      obtain ⟨z,h1,h2,h3,h4,h5⟩:=iP 0 (An (0 - a.val)) (by omega) (by omega)
      have p:=Vu h2
      have n1 : (An (0 - z.hi.val)).val = -z.hi.val:=by rw [Ad]; omega
      have n2 : (An (0 - z.lo.val)).val = -z.lo.val:=by rw [Ad]; omega
      refine ⟨⟨An (0 - z.hi.val),An (0 - z.lo.val)⟩,?_,I7 ?_,?_,?_,?_⟩
      · unfold B8 He Kk
        have d1 : decide (a.val < 0) = true:=decide_eq_true (by omega)
        have d2 : (a.val == 0) = false:=by simp only [beq_eq_false_iff_ne,ne_eq]; exact hz
        simp only [Ag,hi,Bool.not_true,Ae,d1,d2,Ai,h1]
        unfold Kl
        simp only [Ag,h2,Bool.not_true,Ae]
        rw [Fc (by rw [n1,n2]; omega)]
      · show -1152921504606846976 < (An (0 - z.hi.val)).val ∧ (An (0 - z.hi.val)).val ≤ (An (0 - z.lo.val)).val ∧ (An (0 - z.lo.val)).val < 1152921504606846976
        rw [n1,n2]
        omega
      · show Rl.In (An (0 - z.hi.val)).val (An (0 - z.lo.val)).val _
        rw [n1,n2]
        have:=h3.neg
        rw [en,xV,Rl.neg_neg] at this
        exact this
      · show _ ≤ (An (0 - z.hi.val)).val
        rw [n1]; omega
      · show (An (0 - z.lo.val)).val ≤ _
        rw [n2]; omega
theorem J4 (a : Aq) : Tr (B8 a) (rad a.val):=fun h=>by
  by_cases hr : -36000000000 ≤ a.val ∧ a.val ≤ 36000000000
  · obtain ⟨z,h1,_,h3,_⟩:=Ah2 a hr
    rw [h1]; exact h3
  · exfalso
    have hi : Bz a (Ah (-36000000000)) (Ah 36000000000) = false:=by
      rw [Gk]
      simp only [A8,Bool.and_eq_false_iff,decide_eq_false_iff_not]
      omega
    unfold B8 He Kk Cr at h
    simp only [Ag,hi,Bool.not_false,Ai] at h
    exact absurd h (by decide)
theorem zB (k : Aq) (h : -4096 ≤ k.val ∧ k.val ≤ 4096) : ∃ z : Iv,C5 k = z ∧ Am z = true ∧ Rl.In z.lo.val z.hi.val (Rl.kh k.val) ∧ -30000000000000 ≤ z.lo.val ∧ z.hi.val ≤ 30000000000000 ∧ z.hi.val ≤ z.lo.val + 1:=by
  have hi : Bz k (Ah (-4096)) (Ah 4096) = true:=by
    rw [Gk]
    simp only [Bool.and_eq_true,decide_eq_true_eq,A8]
    omega
  have pos : ∀ (fu : Nat) (k : Aq),0 < k.val → k.val ≤ 4096 → ∃ z : Iv,Kd (fu + 1) k = z ∧ Am z = true ∧ Rl.In z.lo.val z.hi.val (Rl.kh k.val) ∧ 0 ≤ z.lo.val ∧ z.hi.val ≤ 30000000000000 ∧ z.hi.val ≤ z.lo.val + 1:=fun fu k h0 h1=>by
    obtain ⟨r,hr,rv⟩:=kZ k h0 h1
    have t:=Rl.Af9 h0 h1
    rw [← rv] at t
    have w1 : (An (r.val + 1)).val = r.val + 1:=by rw [Ad]; omega
    refine ⟨⟨r,An (r.val + 1)⟩,?_,I7 ?_,?_,?_,?_,?_⟩
    · unfold Kd
      have d1 : decide (k.val < 0) = false:=decide_eq_false (by omega)
      have d2 : (k.val == 0) = false:=by simp only [beq_eq_false_iff_ne,ne_eq]; omega
      simp only [Ag,d1,d2,Ae,hr]
    · show -1152921504606846976 < r.val ∧ r.val ≤ (An (r.val + 1)).val ∧ (An (r.val + 1)).val < 1152921504606846976
      rw [w1]
      omega
    · show Rl.In r.val (An (r.val + 1)).val _
      rw [w1]; exact t
    · show 0 ≤ r.val
      omega
    · show (An (r.val + 1)).val ≤ _
      rw [w1]; omega
    · show (An (r.val + 1)).val ≤ r.val + 1
      rw [w1]; exact Int.le_refl _
  by_cases h0 : 0 < k.val
  · obtain ⟨z,h1,h2,h3,h4,h5,h6⟩:=pos 1 k h0 h.2
    refine ⟨z,?_,h2,h3,by omega,h5,h6⟩
    unfold C5 G9
    simp only [Ag,hi,Bool.not_true,Ae]
    exact h1
  · by_cases hz : k.val = 0
    · refine ⟨⟨Ah 0,Ah 0⟩,?_,by decide,?_,by decide,by decide,by decide⟩
      · unfold C5 G9 Kd
        have d2 : (k.val == 0) = true:=by simp only [beq_iff_eq]; exact hz
        simp only [Ag,hi,Bool.not_true,Ae,d2,Ai]
      · rw [hz,Rl.cY,← Rl.Fy]
        exact Rl.In.fix _
    · have en : (An (0 - k.val)).val = -k.val:=by rw [Ad]; omega
      obtain ⟨z,h1,h2,h3,h4,h5,h6⟩:=pos 0 (An (0 - k.val)) (by omega) (by omega)
      have p:=Vu h2
      have n1 : (An (0 - z.hi.val)).val = -z.hi.val:=by rw [Ad]; omega
      have n2 : (An (0 - z.lo.val)).val = -z.lo.val:=by rw [Ad]; omega
      refine ⟨⟨An (0 - z.hi.val),An (0 - z.lo.val)⟩,?_,I7 ?_,?_,?_,?_,?_⟩
      · unfold C5 G9
        simp only [Ag,hi,Bool.not_true,Ae]
        unfold Kd
        have d1 : decide (k.val < 0) = true:=decide_eq_true (by omega)
        have d2 : (k.val == 0) = false:=by simp only [beq_eq_false_iff_ne,ne_eq]; exact hz
        simp only [Ag,d1,d2,Ae,Ai,h1]
      · show -1152921504606846976 < (An (0 - z.hi.val)).val ∧ (An (0 - z.hi.val)).val ≤ (An (0 - z.lo.val)).val ∧ (An (0 - z.lo.val)).val < 1152921504606846976
        rw [n1,n2]
        omega
      · show Rl.In (An (0 - z.hi.val)).val (An (0 - z.lo.val)).val _
        rw [n1,n2]
        have:=h3.neg
        rw [en,Rl.Tb,Rl.neg_neg] at this
        exact this
      · show _ ≤ (An (0 - z.hi.val)).val
        rw [n1]; omega
      · show (An (0 - z.lo.val)).val ≤ _
        rw [n2]; omega
      · show (An (0 - z.lo.val)).val ≤ (An (0 - z.hi.val)).val + 1
        rw [n1,n2]; omega
theorem Xr (k : Aq) : Tr (C5 k) (Rl.kh k.val):=fun h=>by
  by_cases hr : -4096 ≤ k.val ∧ k.val ≤ 4096
  · obtain ⟨z,h1,_,h3,_⟩:=zB k hr
    rw [h1]; exact h3
  · exfalso
    have hi : Bz k (Ah (-4096)) (Ah 4096) = false:=by
      rw [Gk]
      simp only [A8,Bool.and_eq_false_iff,decide_eq_false_iff_not]
      omega
    unfold C5 Cr at h
    simp only [Ag,hi,Bool.not_false,Ai] at h
    exact absurd h (by decide)
theorem nK (x : Int) : (Eo .i64 (An x).val 3).val = x % 4:=by
  have e : (BitVec.ofInt 64 (An x).val &&& BitVec.ofInt 64 3).toNat = (x % 4).toNat:=by
    have e2 : BitVec.ofInt 64 3 = BitVec.ofNat 64 3:=by decide
    rw [e2,BitVec.toNat_and,BitVec.toNat_ofNat,BitVec.toNat_ofInt,Ad]
    have e3 : (3 : Nat) % 2 ^ 64 = 2 ^ 2 - 1:=by decide
    rw [e3,Nat.and_two_pow_sub_one_eq_mod]
    omega
  show IntKind.i64.wrap ((BitVec.ofInt 64 (An x).val &&& BitVec.ofInt 64 3).toNat : Int) = _
  rw [e,IntKind.wrap_i64]
  omega
theorem wZ {v : Rl.R} (h : Rl.Ab v (Rl.q 1)) : Rl.In (-4294967296) 4294967296 v:=by
  rw [← Rl.kA] at h
  exact ⟨by rw [Rl.Nr]; exact h.1,h.2⟩
theorem u5 {v : Rl.R} {a b : Int} (h : Rl.In a b v) (h1 : -4294967296 ≤ a) (h2 : b ≤ 4294967296) : Rl.Ab v (Rl.q 1):=by
  have k:=h.mono h1 h2
  rw [← Rl.kA]
  exact ⟨by rw [← Rl.Nr]; exact k.1,k.2⟩
theorem Acc {d : Rl.R} (h : Rl.Ab d (Rl.fx 1)) : Tr M4 d:=fun _=>⟨by
  show Rl.fx (-1) ≤ d
  rw [Rl.Nr]; exact h.1,h.2⟩
theorem xH {v : Rl.R} (h : Rl.Ab v (Rl.q 1)) : Tr Co v:=fun _=>wZ h
theorem Ks : Tr (Ao (Ah 1)) (Rl.q 1):=by
  have:=Yw (Ah 1)
  rw [show (((Ah 1).val : Int) : Rat) = 1 from by rw [A8]; decide] at this
  exact this
theorem R7 {y s : Iv} {yv sv : Rl.R} (hy : Tr y yv) (hs : Tr s sv) (n : Aq) (c : Rat) (hc : (n.val : Rat) = c) (h0 : 0 < c) :
    Tr (Cw (Ao (Ah 1)) (Ay (A4 y (Ao n)) s)) (Rl.qP c yv sv):=by
  have hn:=Yw n
  rw [hc] at hn
  refine Jg Ks (Fk (Ig hy hn ?_) hs)
  rw [Rl.mul_assoc,← Rl.Ez]
  have : 1 / c * c = 1:=Rat.div_mul_cancel (Rat.ne_of_gt h0)
  rw [this,Rl.mul_one]
theorem Ace {y : Iv} {yv : Rl.R} (hy : Tr y yv) : Tr (Gl y (Ah 0)) (Rl.mZ yv):=by
  unfold Gl
  simp only [Ag]
  exact R7 hy (R7 hy (R7 hy (R7 hy (R7 hy (R7 hy (R7 hy (R7 hy Ks _ 272 (by decide +kernel) (by decide)) _ 210 (by decide +kernel) (by decide)) _ 156 (by decide +kernel) (by decide)) _ 110 (by decide +kernel) (by decide)) _ 72 (by decide +kernel) (by decide)) _ 42 (by decide +kernel) (by decide)) _ 20 (by decide +kernel) (by decide)) _ 6 (by decide +kernel) (by decide)
theorem Acd {y : Iv} {yv : Rl.R} (hy : Tr y yv) : Tr (Gl y (Ah (-1))) (Rl.sU yv):=by
  unfold Gl
  simp only [Ag]
  exact R7 hy (R7 hy (R7 hy (R7 hy (R7 hy (R7 hy (R7 hy (R7 hy Ks _ 240 (by decide +kernel) (by decide)) _ 182 (by decide +kernel) (by decide)) _ 132 (by decide +kernel) (by decide)) _ 90 (by decide +kernel) (by decide)) _ 56 (by decide +kernel) (by decide)) _ 30 (by decide +kernel) (by decide)) _ 12 (by decide +kernel) (by decide)) _ 2 (by decide +kernel) (by decide)
theorem Lf (a b : Rl.R) : a + (b - a) = b:=by rw [Rl.add_comm,Rl.C7]
theorem f9 {a : Iv} {x : Rl.R} (ha : Tr a x) : Tr (K4 a) (Rl.sn x):=by
  unfold K4 Cr
  simp only [Ag]
  cases hi : Jc a Co with
  | false=>simp only [Bool.not_false,Ai]; exact Jf _
  | true=>
    simp only [Bool.not_true,Ae]
    obtain ⟨h1,h2,h3⟩:=Ug hi
    have hx:=u5 (ha h1) h2 h3
    have:=Kp (Fk ha (Ace (bL ha))) (Acc (Rl.Agn hx))
    rwa [Lf] at this
theorem fA {a : Iv} {x : Rl.R} (ha : Tr a x) : Tr (K5 a) (Rl.cn x):=by
  unfold K5 Cr
  simp only [Ag]
  cases hi : Jc a Co with
  | false=>simp only [Bool.not_false,Ai]; exact Jf _
  | true=>
    simp only [Bool.not_true,Ae]
    obtain ⟨h1,h2,h3⟩:=Ug hi
    have hx:=u5 (ha h1) h2 h3
    have:=Kp (Acd (bL ha)) (Acc (Rl.Aho hx))
    rwa [Lf] at this
theorem Aji {a b : Aq} {v : Rl.R} (h1 : Rl.fx a.val ≤ v) (h2 : Rl.fx b.val ≤ v) : Rl.fx (Cg a b).val ≤ v:=by
  rcases pA a b with e | e <;> rw [e] <;> assumption
theorem Ajg {a b : Aq} {v : Rl.R} (h1 : v ≤ Rl.fx a.val) (h2 : v ≤ Rl.fx b.val) : v ≤ Rl.fx (Cq a b).val:=by
  rcases Adt a b with e | e <;> rw [e] <;> assumption
theorem dL {a b : Iv} {v : Rl.R} (ha : Tr a v) (hb : Tr b v) : (Io a b).2 = true ∧ Tr (Io a b).1 v:=by
  unfold Io
  simp only [Ag]
  cases h1 : Am a with
  | false=>
    simp only [Bool.not_false,Ai]
    cases h2 : Am b with
    | false=>simp only [Bool.not_false,Ai]; exact ⟨trivial,Jf _⟩
    | true=>simp only [Bool.not_true,Ae]; exact ⟨trivial,hb⟩
  | true=>
    simp only [Bool.not_true,Ae]
    cases h2 : Am b with
    | false=>simp only [Bool.not_false,Ai]; exact ⟨trivial,ha⟩
    | true=>
      simp only [Bool.not_true,Ae]
      have A:=ha h1
      have B:=hb h2
      have k1:=Aji (a:=a.lo) (b:=b.lo) A.1 B.1
      have k2:=Ajg (a:=a.hi) (b:=b.hi) A.2 B.2
      have k3:=Rl.Df.1 (Rl.le_trans k1 k2)
      have d : decide ((Cg a.lo b.lo).val > (Cq a.hi b.hi).val) = false:=decide_eq_false (by omega)
      rw [d,Ae]
      exact ⟨rfl,fun _=>⟨k1,k2⟩⟩
theorem Pb {a b : Iv} {v : Rl.R} (ha : Tr a v) (hb : Tr b v) : Bx a b = true:=by
  unfold Bx
  simp only [Ag]
  exact (dL ha hb).1
theorem Yv {z : Iv} {v : Rl.R} (hz : Tr z v) (h : Rl.Ab v (Rl.q 1)) : Tr (O6 z) v:=by
  obtain ⟨m1,m2⟩:=dL hz (xH h)
  unfold O6
  simp only [Ag,m1,Bool.not_true,Ae]
  exact m2
theorem tAt (n t : Aq) (ht : -1000 ≤ t.val ∧ t.val ≤ 1000) : Tr (Q9 n t) (Rl.sn (Rl.fx n.val + Rl.kh t.val)):=by
  unfold Q9
  simp only [Ag]
  cases F5 n with
  | false=>simp only [Bool.not_false,Ai]; exact xH (Rl.Zv _)
  | true=>
    simp only [Bool.not_true,Ae]
    have qb:=Ef n
    generalize Cl n = k at *
    have e : Rl.fx n.val + Rl.kh t.val = (Rl.fx n.val - Rl.kh k.val) + Rl.kh (k.val + t.val):=by
      rw [Rl.Np,← Rl.add_assoc,Rl.C7]
    have hr:=Jg (bM n) (Xr k)
    have bnd:=Rl.Zv (Rl.fx n.val + Rl.kh t.val)
    rw [e] at bnd ⊢
    obtain ⟨q0,q1,q2,q3⟩:=Rl.Akr (Rl.fx n.val - Rl.kh k.val) (k.val + t.val)
    generalize Rl.fx n.val - Rl.kh k.val = r at *
    have a4:=nK (k.val + t.val)
    have hm : (k.val + t.val) % 4 = 0 ∨ (k.val + t.val) % 4 = 1 ∨ (k.val + t.val) % 4 = 2 ∨ (k.val + t.val) % 4 = 3:=by omega
    rcases hm with h | h | h | h
    · have d0 : ((Eo .i64 (An (k.val + t.val)).val 3).val == 0) = true:=by rw [a4,h]; rfl
      rw [q0 h] at bnd ⊢
      simp only [d0,Ai]
      exact Yv (f9 hr) bnd
    · have d0 : ((Eo .i64 (An (k.val + t.val)).val 3).val == 0) = false:=by rw [a4,h]; rfl
      have d1 : ((Eo .i64 (An (k.val + t.val)).val 3).val == 1) = true:=by rw [a4,h]; rfl
      rw [q1 h] at bnd ⊢
      simp only [d0,d1,Ai,Ae]
      exact Yv (fA hr) bnd
    · have d0 : ((Eo .i64 (An (k.val + t.val)).val 3).val == 0) = false:=by rw [a4,h]; rfl
      have d1 : ((Eo .i64 (An (k.val + t.val)).val 3).val == 1) = false:=by rw [a4,h]; rfl
      have d2 : ((Eo .i64 (An (k.val + t.val)).val 3).val == 2) = true:=by rw [a4,h]; rfl
      rw [q2 h] at bnd ⊢
      simp only [d0,d1,d2,Ai,Ae]
      exact Yv (mA (f9 hr)) bnd
    · have d0 : ((Eo .i64 (An (k.val + t.val)).val 3).val == 0) = false:=by rw [a4,h]; rfl
      have d1 : ((Eo .i64 (An (k.val + t.val)).val 3).val == 1) = false:=by rw [a4,h]; rfl
      have d2 : ((Eo .i64 (An (k.val + t.val)).val 3).val == 2) = false:=by rw [a4,h]; rfl
      rw [q3 h] at bnd ⊢
      simp only [d0,d1,d2,Ae]
      exact Yv (mA (fA hr)) bnd
theorem kh0 (x : Rl.R) : x + Rl.kh (Ah 0).val = x:=by rw [A8,Rl.cY,Rl.add_zero]
theorem kh1 (x : Rl.R) : Rl.sn (x + Rl.kh (Ah 1).val) = Rl.cn x:=by rw [A8,Rl.Kx,Rl.Oz]
theorem xG (n : Aq) : Tr (Uk n) (Rl.sn (Rl.fx n.val)):=by
  unfold Uk
  simp only [Ag]
  have:=tAt n (Ah 0) (by rw [A8]; decide)
  rwa [kh0] at this
theorem xL (n : Aq) : Tr (Ul n) (Rl.cn (Rl.fx n.val)):=by
  unfold Ul
  simp only [Ag]
  have:=tAt n (Ah 1) (by rw [A8]; decide)
  rwa [kh1] at this
theorem Um {n : Aq} (h : F5 n = true) : (Cl n).val = (n.val + 3373259426) / 6746518852:=by
  unfold Cl Wz
  have h':=h
  unfold F5 at h'
  simp only [Ag] at h'
  rw [Gk] at h'
  simp only [Bool.and_eq_true,decide_eq_true_eq,A8] at h'
  simp only [Ag,h,Bool.not_true,Ae]
  have e : (An (n.val + 3373259426)).val = n.val + 3373259426:=by rw [Ad]; omega
  generalize An (n.val + 3373259426) = a at *
  have em : (Jl a (Ah 6746518852).val).val = Int.tmod a.val 6746518852:=rfl
  have ed : Int.tdiv a.val (Ah 6746518852).val = Int.tdiv a.val 6746518852:=rfl
  rw [em,ed,← e]
  by_cases hs : 0 ≤ a.val
  · rw [Int.tmod_eq_emod_of_nonneg hs,Int.tdiv_eq_ediv_of_nonneg hs,decide_eq_false (by omega),Ae,Ad]
    omega
  · have e1 : Int.tmod a.val 6746518852 = -((-a.val) % 6746518852):=by
      rw [← Int.tmod_eq_emod_of_nonneg (by omega),Int.neg_tmod,Int.neg_neg]
    have e2 : Int.tdiv a.val 6746518852 = -((-a.val) / 6746518852):=by
      rw [← Int.tdiv_eq_ediv_of_nonneg (by omega),Int.neg_tdiv,Int.neg_neg]
    rw [e1,e2]
    by_cases hz : (-a.val) % 6746518852 = 0
    · rw [decide_eq_false (by omega),Ae,Ad]
      omega
    · rw [decide_eq_true (by omega),Ai,Ad,Ad]
      omega
theorem Aaa (t : Aq) (ht : -1000 ≤ t.val ∧ t.val ≤ 1000) (a : Iv) : ∀ (fu : Nat) (k : Aq) (y : Iv),-2000 ≤ k.val → k.val ≤ 2000 → (1002 - k.val).toNat < fu → Am (Ft fu t a k y) = true →
    Am y = true ∧ (Ft fu t a k y).lo.val ≤ y.lo.val ∧ y.hi.val ≤ (Ft fu t a k y).hi.val ∧
    ∀ K : Int,k.val ≤ K → K ≤ (Cl a.hi).val + 1 → Bx (C5 (An K)) a = true → ((K + t.val) % 4 = 1 → 4294967296 ≤ (Ft fu t a k y).hi.val) ∧ ((K + t.val) % 4 = 3 → (Ft fu t a k y).lo.val ≤ -4294967296):=by
  intro fu
  induction fu with
  | zero=>intro k y _ _ h; omega
  | succ fu ih=>
    intro k y hk hk2 hf hv
    have qb:=Ef a.hi
    unfold Ft at hv ⊢
    simp only [Ag] at hv ⊢
    generalize Cl a.hi = qq at *
    have eq1 : (An (qq.val + 1)).val = qq.val + 1:=by rw [Ad]; omega
    rw [eq1] at hv ⊢
    by_cases hc : k.val ≤ qq.val + 1
    · have d : decide (k.val ≤ qq.val + 1) = true:=decide_eq_true hc
      simp only [d,Ai] at hv ⊢
      have ek : (An (k.val + 1)).val = k.val + 1:=by rw [Ad]; omega
      have ih':=fun y=>ih (An (k.val + 1)) y (by omega) (by omega) (by omega)
      have split : ∀ K : Int,k.val ≤ K → K = k.val ∨ (An (k.val + 1)).val ≤ K:=fun K h=>by omega
      have wk : An k.val = k:=Ab4 k
      have a4:=nK (k.val + t.val)
      cases ho : Bx (C5 k) a with
      | false=>
        simp only [ho,Bool.not_false,Ai] at hv ⊢
        obtain ⟨i1,i2,i3,i4⟩:=ih' y hv
        refine ⟨i1,i2,i3,fun K hK hK2 hO=>?_⟩
        rcases split K hK with rfl | h
        · rw [wk,ho] at hO; cases hO
        · exact i4 K h hK2 hO
      | true=>
        simp only [ho,Bool.not_true,Ae] at hv ⊢
        by_cases m1 : (k.val + t.val) % 4 = 1
        · have d1 : ((Eo .i64 (An (k.val + t.val)).val 3).val == 1) = true:=by rw [a4,m1]; rfl
          simp only [d1,Ai] at hv ⊢
          obtain ⟨i1,i2,i3,i4⟩:=ih' _ hv
          obtain ⟨h1,h2,l1,l2,u1,u2⟩:=Ni i1
          have one : (Ao (Ah 1)).hi.val = 4294967296:=by decide +kernel
          refine ⟨h1,by omega,by omega,fun K hK hK2 hO=>?_⟩
          rcases split K hK with rfl | h
          · exact ⟨fun _=>by omega,fun h3=>by omega⟩
          · exact i4 K h hK2 hO
        · have d1 : ((Eo .i64 (An (k.val + t.val)).val 3).val == 1) = false:=by rw [a4]; simp only [beq_eq_false_iff_ne,ne_eq]; exact m1
          simp only [d1,Ae] at hv ⊢
          by_cases m3 : (k.val + t.val) % 4 = 3
          · have d3 : ((Eo .i64 (An (k.val + t.val)).val 3).val == 3) = true:=by rw [a4,m3]; rfl
            simp only [d3,Ai] at hv ⊢
            obtain ⟨i1,i2,i3,i4⟩:=ih' _ hv
            obtain ⟨h1,h2,l1,l2,u1,u2⟩:=Ni i1
            have one : (Ao (Ah (-1))).lo.val = -4294967296:=by decide +kernel
            refine ⟨h1,by omega,by omega,fun K hK hK2 hO=>?_⟩
            rcases split K hK with rfl | h
            · exact ⟨fun h3=>by omega,fun _=>by omega⟩
            · exact i4 K h hK2 hO
          · have d3 : ((Eo .i64 (An (k.val + t.val)).val 3).val == 3) = false:=by rw [a4]; simp only [beq_eq_false_iff_ne,ne_eq]; exact m3
            simp only [d3,Ae] at hv ⊢
            obtain ⟨i1,i2,i3,i4⟩:=ih' _ hv
            refine ⟨i1,i2,i3,fun K hK hK2 hO=>?_⟩
            rcases split K hK with rfl | h
            · exact ⟨fun h3=>by omega,fun h3=>by omega⟩
            · exact i4 K h hK2 hO
    · have d : decide (k.val ≤ qq.val + 1) = false:=decide_eq_false hc
      simp only [d,Ae] at hv ⊢
      exact ⟨hv,Int.le_refl _,Int.le_refl _,fun K h1 h2=>by omega⟩
theorem mX (K : Int) : (0 ≤ K → Rl.fx (K * 6746518852) ≤ Rl.kh K ∧ Rl.kh K ≤ Rl.fx (K * 6746518853)) ∧ (K ≤ 0 → Rl.fx (K * 6746518853) ≤ Rl.kh K ∧ Rl.kh K ≤ Rl.fx (K * 6746518852)):=by
  have pos : ∀ K : Int,0 ≤ K → Rl.fx (K * 6746518852) ≤ Rl.kh K ∧ Rl.kh K ≤ Rl.fx (K * 6746518853):=fun K h=>by
    have hk : (0 : Rat) ≤ (K : Rat):=Rl.E3 h
    constructor
    · refine Rl.le_trans ?_ (Rl.Ba Rl.sS (Rl.Dd.2 hk))
      rw [← Rl.Ez]
      refine Rl.Dd.2 ?_
      have : (6746518852 : Rat) / 4294967296 ≤ Rl.X5:=by decide +kernel
      have p:=Rat.mul_nonneg hk (show 0 ≤ Rl.X5 - 6746518852 / 4294967296 by grind)
      push_cast
      grind
    · refine Rl.le_trans (Rl.Ba Rl.yL (Rl.Dd.2 hk)) ?_
      rw [← Rl.Ez]
      refine Rl.Dd.2 ?_
      have : Rl.hhi ≤ (6746518853 : Rat) / 4294967296:=by decide +kernel
      have p:=Rat.mul_nonneg hk (show 0 ≤ 6746518853 / 4294967296 - Rl.hhi by grind)
      push_cast
      grind
  refine ⟨pos K,fun h=>?_⟩
  obtain ⟨h1,h2⟩:=pos (-K) (by omega)
  rw [Rl.Tb] at h1 h2
  have k1:=Rl.Bw h1
  have k2:=Rl.Bw h2
  rw [Rl.neg_neg,← Rl.Nr] at k1 k2
  rw [show -(-K * 6746518852) = K * 6746518852 by omega] at k1
  rw [show -(-K * 6746518853) = K * 6746518853 by omega] at k2
  exact ⟨k2,k1⟩
theorem Aia {a : Iv} {x : Rl.R} (t : Aq) (ht : -1000 ≤ t.val ∧ t.val ≤ 1000) (ha : Tr a x) : Tr (Sp a t) (Rl.sn (x + Rl.kh t.val)):=by
  unfold Sp
  simp only [Ag]
  cases hf : Lx a with
  | false=>simp only [Bool.not_false,Ai]; exact xH (Rl.Zv _)
  | true=>
    simp only [Bool.not_true,Ae]
    unfold Lx Of at hf
    simp only [Ag] at hf
    cases hok : Am a with
    | false=>rw [hok] at hf; cases hf
    | true=>
    rw [hok,Ai] at hf
    cases X5 : F5 a.lo with
    | false=>rw [X5] at hf; cases hf
    | true=>
    rw [X5,Ai] at hf
    have A:=ha hok
    have tl:=tAt a.lo t ht
    have th:=tAt a.hi t ht
    have q1:=Um X5
    have q2:=Um hf
    have qb1:=Ef a.lo
    have qb2:=Ef a.hi
    have ek : (An ((Cl a.lo).val - 1)).val = (Cl a.lo).val - 1:=by rw [Ad]; omega
    intro hv
    obtain ⟨i1,i2,i3,i4⟩:=Aaa t ht a _ (An ((Cl a.lo).val - 1)) _ (by omega) (by omega) (by omega) hv
    generalize Ft ((2000 - (An ((Cl a.lo).val - 1)).val).toNat + 1) t a (An ((Cl a.lo).val - 1)) (Cm (Q9 a.lo t) (Q9 a.hi t)) = Z at *
    obtain ⟨h1,h2,l1,l2,u1,u2⟩:=Ni i1
    have TL:=tl h1
    have TH:=th h2
    have listed : ∀ K : Int,Rl.fx a.lo.val ≤ Rl.kh K → Rl.kh K ≤ Rl.fx a.hi.val → (An ((Cl a.lo).val - 1)).val ≤ K ∧ K ≤ (Cl a.hi).val + 1 ∧ Bx (C5 (An K)) a = true:=fun K g1 g2=>by
      have kb:=mX K
      have b : a.lo.val ≤ K * 6746518852 + (if 0 ≤ K then K else 0) ∧ K * 6746518852 + (if 0 ≤ K then 0 else K) ≤ a.hi.val:=by
        by_cases hK : 0 ≤ K
        · obtain ⟨c1,c2⟩:=kb.1 hK
          have e1:=Rl.Df.1 (Rl.le_trans g1 c2)
          have e2:=Rl.Df.1 (Rl.le_trans c1 g2)
          rw [if_pos hK,if_pos hK]
          omega
        · obtain ⟨c1,c2⟩:=kb.2 (by omega)
          have e1:=Rl.Df.1 (Rl.le_trans g1 c2)
          have e2:=Rl.Df.1 (Rl.le_trans c1 g2)
          rw [if_neg hK,if_neg hK]
          omega
      have hr : -2000 ≤ K ∧ K ≤ 2000:=by
        have p1 : -1099511627776 ≤ a.lo.val ∧ a.hi.val ≤ 1099511627776:=by
          unfold F5 at X5 hf
          simp only [Ag] at X5 hf
          rw [Gk] at X5 hf
          simp only [Bool.and_eq_true,decide_eq_true_eq,A8] at X5 hf
          omega
        by_cases hK : 0 ≤ K
        · rw [if_pos hK,if_pos hK] at b; omega
        · rw [if_neg hK,if_neg hK] at b; omega
      have wK : (An K).val = K:=by rw [Ad]; omega
      refine ⟨?_,?_,Pb (v:=Rl.kh K) (by have:=Xr (An K); rwa [wK] at this) (fun _=>⟨g1,g2⟩)⟩
      · rw [ek,q1]
        by_cases hK : 0 ≤ K
        · rw [if_pos hK] at b; omega
        · rw [if_neg hK] at b; omega
      · rw [q2]
        by_cases hK : 0 ≤ K
        · rw [if_pos hK,if_pos hK] at b; omega
        · rw [if_neg hK,if_neg hK] at b; omega
    have back : ∀ K : Int,Rl.fx a.lo.val + Rl.kh t.val ≤ Rl.kh K ∧ Rl.kh K ≤ Rl.fx a.hi.val + Rl.kh t.val → Rl.fx a.lo.val ≤ Rl.kh (K - t.val) ∧ Rl.kh (K - t.val) ≤ Rl.fx a.hi.val:=fun K h=>by
      have e : Rl.kh (K - t.val) = Rl.kh K - Rl.kh t.val:=by rw [← Rl.Ev,← Rl.Tb,← Rl.Np]; congr 1
      rw [e]
      exact ⟨Rl.Qo h.1,Rl.Oy h.2⟩
    have inn : Rl.fx a.lo.val + Rl.kh t.val ≤ x + Rl.kh t.val ∧ x + Rl.kh t.val ≤ Rl.fx a.hi.val + Rl.kh t.val:=⟨Rl.Bc A.1 (Rl.le_refl _),Rl.Bc A.2 (Rl.le_refl _)⟩
    constructor
    · by_cases hex : ∃ K : Int,K % 4 = 3 ∧ Rl.fx a.lo.val + Rl.kh t.val ≤ Rl.kh K ∧ Rl.kh K ≤ Rl.fx a.hi.val + Rl.kh t.val
      · obtain ⟨K,hK,g⟩:=hex
        obtain ⟨g1,g2⟩:=back K g
        obtain ⟨r1,r2,r3⟩:=listed _ g1 g2
        have:=(i4 (K - t.val) r1 r2 r3).2 (by omega)
        refine Rl.le_trans (Rl.Df.2 this) ?_
        exact (wZ (Rl.Zv _)).1
      · rcases Rl.vA inn.1 inn.2 (fun K hK g=>hex ⟨K,hK,g⟩) with s | s
        · exact Rl.le_trans (Rl.Df.2 (by omega)) (Rl.le_trans TL.1 s)
        · exact Rl.le_trans (Rl.Df.2 (by omega)) (Rl.le_trans TH.1 s)
    · by_cases hex : ∃ K : Int,K % 4 = 1 ∧ Rl.fx a.lo.val + Rl.kh t.val ≤ Rl.kh K ∧ Rl.kh K ≤ Rl.fx a.hi.val + Rl.kh t.val
      · obtain ⟨K,hK,g⟩:=hex
        obtain ⟨g1,g2⟩:=back K g
        obtain ⟨r1,r2,r3⟩:=listed _ g1 g2
        have:=(i4 (K - t.val) r1 r2 r3).1 (by omega)
        refine Rl.le_trans ?_ (Rl.Df.2 this)
        exact (wZ (Rl.Zv _)).2
      · rcases Rl.iD inn.1 inn.2 (fun K hK g=>hex ⟨K,hK,g⟩) with s | s
        · exact Rl.le_trans s (Rl.le_trans TL.2 (Rl.Df.2 (by omega)))
        · exact Rl.le_trans s (Rl.le_trans TH.2 (Rl.Df.2 (by omega)))
theorem Xe {a : Iv} {x : Rl.R} (ha : Tr a x) : Tr (Lh a) (Rl.sn x):=by
  unfold Lh
  simp only [Ag]
  have:=Aia (Ah 0) (by rw [A8]; decide) ha
  rwa [kh0] at this
theorem Pr {a : Iv} {x : Rl.R} (ha : Tr a x) : Tr (Hp a) (Rl.cn x):=by
  unfold Hp
  simp only [Ag]
  have:=Aia (Ah 1) (by rw [A8]; decide) ha
  rwa [kh1] at this
theorem Aff : (G9 (Ah 1)).hi.val = 6746518853:=by
  obtain ⟨r,hr,rv⟩:=kZ (Ah 1) (by decide) (by decide)
  unfold G9 Kd
  have d1 : decide ((Ah 1).val < 0) = false:=by decide
  have d2 : ((Ah 1).val == 0) = false:=by decide
  simp only [Ag,d1,d2,Ae,hr]
  rw [Ad,rv,A8]
  decide
theorem uW {a b : Iv} {v va vb : Rl.R} (ha : Tr a va) (hb : Tr b vb) (h1 : va ≤ v ∨ vb ≤ v) (h2 : v ≤ va ∨ v ≤ vb) : Tr (Cm a b) v:=fun h=>by
  obtain ⟨k1,k2,k3,k4,k5,k6⟩:=Ni h
  have A:=ha k1
  have B:=hb k2
  constructor
  · rcases h1 with h1 | h1
    · exact Rl.le_trans (Rl.Df.2 k3) (Rl.le_trans A.1 h1)
    · exact Rl.le_trans (Rl.Df.2 k4) (Rl.le_trans B.1 h1)
  · rcases h2 with h2 | h2
    · exact Rl.le_trans (Rl.le_trans h2 A.2) (Rl.Df.2 k5)
    · exact Rl.le_trans (Rl.le_trans h2 B.2) (Rl.Df.2 k6)
theorem Ai7 {a b : Iv} {v : Rl.R} (ha : Tr a v) (hb : Am (Cm a b) = true → Am b = true) : Tr (Cm a b) v:=fun h=>by
  obtain ⟨k1,k2,k3,k4,k5,k6⟩:=Ni h
  exact (ha k1).mono k3 k5
theorem hI {a : Iv} {x : Rl.R} (ha : Tr a x) : Tr (Qu a) (x + x):=fun h=>by
  unfold Qu at h ⊢
  simp only [Ag] at h ⊢
  cases h1 : Am a with
  | false=>rw [h1] at h; simp only [Bool.not_false,Ai] at h; exact absurd h (by decide)
  | true=>
    rw [h1] at h
    simp only [Bool.not_true,Ae] at h ⊢
    rw [Ic h]
    have A:=(ha h1).add (ha h1)
    have p:=Vu h1
    show Rl.In (An (2 * a.lo.val)).val (An (2 * a.hi.val)).val _
    rw [Ad,Ad]
    refine A.mono ?_ ?_ <;> omega
theorem uX {a : Iv} {x y : Rl.R} (ha : Tr a x) (e : y + y = x) : Tr (W3 a) y:=fun h=>by
  unfold W3 at h ⊢
  simp only [Ag] at h ⊢
  cases h1 : Am a with
  | false=>rw [h1] at h; simp only [Bool.not_false,Ai] at h; exact absurd h (by decide)
  | true=>
    rw [h1] at h
    simp only [Bool.not_true,Ae] at h ⊢
    rw [Ic h]
    have A:=ha h1
    have p:=Vu h1
    have w : (An (a.hi.val + 1)).val = a.hi.val + 1:=by rw [Ad]; omega
    constructor
    · refine Rl.Sl ?_
      rw [e,← Rl.eL,bR]
      exact Rl.le_trans (Rl.Df.2 (by omega)) A.1
    · refine Rl.Sl ?_
      rw [e,← Rl.eL,bR,w]
      exact Rl.le_trans A.2 (Rl.Df.2 (by omega))
theorem Qp {a b : Int} (h : a * a ≤ b * b) (hb : 0 ≤ b) : a ≤ b ∧ -b ≤ a:=by
  constructor
  · refine Classical.byContradiction fun k=>?_
    have:=Int.mul_self_lt_mul_self hb (by omega : b < a)
    omega
  · refine Classical.byContradiction fun k=>?_
    have:=Int.mul_self_lt_mul_self hb (by omega : b < -a)
    rw [Int.neg_mul_neg] at this
    omega
theorem Acl {a : Iv} {x y : Rl.R} (ha : Tr a x) (hy : Rl.q 0 ≤ y) (e : y = x ∨ y = -x) : Tr (Yk a) y:=fun h=>by
  have h1 : Am a = true:=by
    cases h1 : Am a with
    | true=>rfl
    | false=>
      unfold Yk at h
      simp only [Ag,h1,Bool.not_false,Ai] at h
      exact absurd h (by decide)
  rw [R0 h1]
  have A:=ha h1
  obtain ⟨e1,e2,e3⟩:=uJ h1
  generalize (B9 a).1 = p at *
  generalize (B9 a).2 = r at *
  have o:=A.ord
  have u1:=e3 a.lo.val (Int.le_refl _) o
  have u2:=e3 a.hi.val o (Int.le_refl _)
  obtain ⟨a1,a2⟩:=Qp u1.2 e2
  obtain ⟨b1,b2⟩:=Qp u2.2 e2
  have N:=A.neg
  constructor
  · by_cases c1 : 0 ≤ a.lo.val
    · have:=(Qp u1.1 c1).1
      rcases e with e | e
      · rw [e]; exact Rl.le_trans (Rl.Df.2 this) A.1
      · have hx : Rl.q 0 ≤ x:=by rw [← Rl.Fy]; exact Rl.le_trans (Rl.Df.2 c1) A.1
        have : y ≤ x:=by rw [e]; exact Rl.le_trans (Rl.Iu hx) hx
        have e4 : x = y:=by
          have z : x = Rl.q 0:=Rl.Cs (by rw [e] at hy; have:=Rl.Bw hy; rwa [Rl.neg_neg,← Rl.Ii,show -(0 : Rat) = 0 from by decide] at this) hx
          rw [e,z,← Rl.Ii]; rfl
        rw [← e4]; exact Rl.le_trans (Rl.Df.2 ‹_›) A.1
    · by_cases c2 : a.hi.val ≤ 0
      · have k : p.val ≤ -a.hi.val:=(Qp (a:=p.val) (b:=-a.hi.val) (by rw [Int.neg_mul_neg]; exact u2.1) (by omega)).1
        rcases e with e | e
        · have hx : x ≤ Rl.q 0:=by rw [← Rl.Fy]; exact Rl.le_trans A.2 (Rl.Df.2 c2)
          have z : x = Rl.q 0:=Rl.Cs hx (by rw [← e]; exact hy)
          have : y = -x:=by rw [e,z,← Rl.Ii]; rfl
          rw [this]; exact Rl.le_trans (Rl.Df.2 k) N.1
        · rw [e]; exact Rl.le_trans (Rl.Df.2 k) N.1
      · have u0:=(e3 0 (by omega) (by omega)).1
        have:=(Qp u0 (Int.le_refl _)).1
        exact Rl.le_trans (Rl.Df.2 this) (by rw [Rl.Fy]; exact hy)
  · rcases e with e | e
    · rw [e]; exact Rl.le_trans A.2 (Rl.Df.2 b1)
    · rw [e]; exact Rl.le_trans N.2 (Rl.Df.2 (by show -a.lo.val ≤ r.val; omega))
theorem x7 {a d : Aq} (ha : B7 a = true) (h : (Mj a d).2 = true) : 0 < d.val ∧ (Mj a d).1.val * d.val ≤ a.val * 4294967296:=by
  unfold Mj at h ⊢
  by_cases k : d.val ≤ 0
  · rw [decide_eq_true k,Ai] at h; cases h
  · rw [decide_eq_false k,Ae] at h ⊢
    simp only [Ag] at h ⊢
    obtain ⟨h1,h2,h3⟩:=V2 h
    have v:=M7 ha (by omega) h1
    refine ⟨by omega,?_⟩
    rw [h3,v]
    exact Int.ediv_mul_le _ (by omega)
theorem Ab0 {a d : Aq} (ha : B7 a = true) (h : (O7 a d).2 = true) : 0 < d.val ∧ a.val * 4294967296 ≤ (O7 a d).1.val * d.val:=by
  unfold O7 at h ⊢
  by_cases k : d.val ≤ 0
  · rw [decide_eq_true k,Ai] at h; cases h
  · rw [decide_eq_false k,Ae] at h ⊢
    simp only [Ag] at h ⊢
    cases hm : (Ds a (Ah 4294967296) d).2 with
    | false=>rw [hm] at h; simp only [Bool.not_false,Ai] at h; cases h
    | true=>
      rw [hm] at h
      simp only [Bool.not_true,Ae] at h ⊢
      have v:=M7 ha (by omega) hm
      have pr:=dK ha
      generalize (Ds a (Ah 4294967296) d).1 = r at *
      refine ⟨by omega,?_⟩
      have d1:=Int.emod_nonneg (a.val * 4294967296) (by omega : d.val ≠ 0)
      have d2:=Int.emod_lt_of_pos (a.val * 4294967296) (by omega : 0 < d.val)
      have d3:=Int.mul_ediv_add_emod (a.val * 4294967296) d.val
      rw [← v,Int.mul_comm] at d3
      generalize hr : a.val * 4294967296 % d.val = m at *
      have dh:=d.hi
      have dh2 : d.val ≤ 9223372036854775807:=d.hi
      cases hb : (An (r.val * d.val)).val != (An (a.val * 4294967296)).val with
      | true=>
        rw [hb] at h
        simp only [Ai] at h ⊢
        obtain ⟨_,h2,h3⟩:=V2 h
        rw [h3]
        have rl:=r.lo
        have rh:=r.hi
        have rh2 : r.val ≤ 9223372036854775807:=r.hi
        have o:=dK h2
        have w : (An (r.val + 1)).val = r.val + 1:=by
          rw [Ad] at o ⊢
          by_cases c : r.val = 9223372036854775807
          · rw [c] at o; exact absurd o (by decide)
          · omega
        rw [w,Int.add_mul]
        omega
      | false=>
        rw [hb] at h
        simp only [Ae] at h ⊢
        obtain ⟨_,h2,h3⟩:=V2 h
        rw [h3]
        simp only [bne_eq_false_iff_eq,Ad] at hb
        generalize r.val * d.val = u at *
        generalize a.val * 4294967296 = v at *
        omega
theorem Acf {a b : Aq} {z : Rl.R} (ha : B7 a = true) (hb : 0 < b.val) (hz : z * Rl.q b.val = Rl.q a.val) : Tr (C9 a b) z:=fun h=>by
  unfold C9 at h ⊢
  rw [decide_eq_false (show ¬ b.val < 0 by omega),Ae] at h ⊢
  simp only [Ag] at h ⊢
  cases h1 : (Mj a b).2 with
  | false=>rw [h1] at h; simp only [Bool.not_false,Ai] at h; exact absurd h (by decide)
  | true=>
  cases h2 : (O7 a b).2 with
  | false=>rw [h1,h2] at h; simp only [Bool.not_false,Bool.not_true,Ai,Ae] at h; exact absurd h (by decide)
  | true=>
    rw [h1,h2] at h
    simp only [Bool.not_true,Ae] at h ⊢
    rw [Ic h]
    have F:=(x7 ha h1).2
    have C:=(Ab0 ha h2).2
    have bp : Rl.q 0 < Rl.q b.val:=Rl.Qb.2 (Rl.kV hb)
    constructor
    · refine Rl.Fa ?_ bp
      rw [hz,Rl.Zr,← Rl.Ez]
      refine Rl.Dd.2 ?_
      have:=Rl.E3 F
      push_cast at this
      grind
    · refine Rl.Fa ?_ bp
      rw [hz,Rl.Zr,← Rl.Ez]
      refine Rl.Dd.2 ?_
      have:=Rl.E3 C
      push_cast at this
      grind
end Go.Proofs.YtfhnlkinjbakgaaGreat.Abs
