/- Plain laws of the functions on numbers: what the program computes is what the reference computes. -/
import Derived.Test.YtfhnlkinjbakgaaGreatMsReal
import Derived.Test.YtfhnlkinjbakgaaGreatMsQzazbzc
import Derived.Test.YtfhnlkinjbakgaaGreatMsF4
set_option linter.unusedVariables false
set_option linter.unusedSimpArgs false
namespace Go.Proofs.YtfhnlkinjbakgaaGreat.Abs
open Go
def Tr (I : Iv) (x : Rl.R) : Prop:=S_l04Ok I = true → Rl.In I.lo.val I.hi.val x
theorem tWhole (x : Rl.R) : Tr S_l04Whole x:=fun h=>absurd h (by decide)
theorem tAddS {a b : Iv} {x y : Rl.R} (ha : Tr a x) (hb : Tr b y) : Tr (S_AddI a b) (x + y):=fun h=>by
  obtain ⟨h1,h2,h3,h4⟩:=AddI_out h
  rw [h3,h4]
  exact (ha h1).add (hb h2)
theorem tSubS {a b : Iv} {x y : Rl.R} (ha : Tr a x) (hb : Tr b y) : Tr (S_SubI a b) (x - y):=fun h=>by
  obtain ⟨h1,h2,h3,h4⟩:=SubI_out h
  rw [h3,h4]
  exact (ha h1).sub (hb h2)
theorem tMulS {a b : Iv} {x y : Rl.R} (ha : Tr a x) (hb : Tr b y) : Tr (S_MulI a b) (x * y):=fun h=>by
  obtain ⟨h1,h2,a1,a2,b1,b2,c1,c2,d1,d2⟩:=MulI_out h
  exact (ha h1).mul (hb h2) ⟨a1,a2⟩ ⟨b1,b2⟩ ⟨c1,c2⟩ ⟨d1,d2⟩
theorem tDivS {a b : Iv} {x y z : Rl.R} (ha : Tr a x) (hb : Tr b y) (hz : z * y = x) : Tr (S_DivI a b) z:=fun h=>by
  obtain ⟨h1,h2,h0,hc⟩:=DivI_out h
  have A:=ha h1
  have B:=hb h2
  have ob:=B.ord
  rcases h0 with h0 | h0
  · have c1:=(hc _ _ (.inl rfl) (.inl rfl)).1 h0
    have c2:=(hc _ _ (.inl rfl) (.inr rfl)).1 (by omega)
    have c3:=(hc _ _ (.inr rfl) (.inl rfl)).1 h0
    have c4:=(hc _ _ (.inr rfl) (.inr rfl)).1 (by omega)
    exact A.div_pos B h0 hz c1.1 c2.1 c3.2 c4.2
  · have c1:=(hc _ _ (.inl rfl) (.inl rfl)).2 (by omega)
    have c2:=(hc _ _ (.inl rfl) (.inr rfl)).2 h0
    have c3:=(hc _ _ (.inr rfl) (.inl rfl)).2 (by omega)
    have c4:=(hc _ _ (.inr rfl) (.inr rfl)).2 h0
    have A':=A.neg
    have B':=B.neg
    have hz' : z * -y = -x:=by rw [Rl.mul_neg,hz]
    refine A'.div_pos B' (by omega) hz' ?_ ?_ ?_ ?_
    · rw [Int.mul_neg,Int.neg_mul]; omega
    · rw [Int.mul_neg,Int.neg_mul]; omega
    · rw [Int.mul_neg,Int.neg_mul]; omega
    · rw [Int.mul_neg,Int.neg_mul]; omega
theorem tSqrS {a : Iv} {x : Rl.R} (ha : Tr a x) : Tr (S_SqrI a) (x * x):=fun h=>by
  obtain ⟨h1,_,hu⟩:=SqrI_out h
  have A:=ha h1
  have o:=A.ord
  have k1:=hu _ (Int.le_refl _) o
  have k2:=hu _ o (Int.le_refl _)
  refine A.sqr k1.2 k2.2 (fun _=>k1.1) (fun _=>k2.1) (fun h2 h3=>?_)
  have:=(hu 0 h2 h3).1
  omega
theorem tSqrtS {a : Iv} {x s : Rl.R} (ha : Tr a x) (hs : Rl.q 0 ≤ s) (e : s * s = x) : Tr (S_SqrtI a) s:=fun h=>by
  obtain ⟨h1,h2,h3,h4,h5⟩:=SqrtI_out h
  have A:=ha h1
  have h6 : 0 ≤ (S_SqrtI a).hi.val:=by
    have:=Ok4p h
    omega
  exact A.sqrt hs e h3 h6 h4 h5
theorem tNegS {a : Iv} {x : Rl.R} (ha : Tr a x) : Tr (S_NegI a) (-x):=fun h=>by
  unfold S_NegI at h ⊢
  simp only [bindP_e] at h ⊢
  cases h1 : S_l04Ok a with
  | false=>rw [h1] at h; simp only [Bool.not_false,cond_t] at h; exact absurd h (by decide)
  | true=>
    rw [h1] at h
    simp only [Bool.not_true,cond_f] at h ⊢
    rw [Make_out h]
    have A:=(ha h1).neg
    have p:=Ok4p h1
    show Rl.In (w64 (0 - a.hi.val)).val (w64 (0 - a.lo.val)).val _
    rw [w64_val,w64_val]
    refine A.mono ?_ ?_ <;> omega
theorem HullI_out {a b : Iv} (ha : S_l04Ok (S_HullI a b) = true) : S_l04Ok a = true ∧ S_l04Ok b = true ∧ (S_HullI a b).lo.val ≤ a.lo.val ∧ (S_HullI a b).lo.val ≤ b.lo.val ∧ a.hi.val ≤ (S_HullI a b).hi.val ∧ b.hi.val ≤ (S_HullI a b).hi.val:=by
  unfold S_HullI at ha ⊢
  simp only [bindP_e] at ha ⊢
  cases h1 : S_l04Ok a with
  | false=>rw [h1] at ha; simp only [Bool.not_false,cond_t] at ha; exact absurd ha (by decide)
  | true=>
  cases h2 : S_l04Ok b with
  | false=>rw [h1,h2] at ha; simp only [Bool.not_false,Bool.not_true,cond_t,cond_f] at ha; exact absurd ha (by decide)
  | true=>
    rw [h1,h2] at ha
    simp only [Bool.not_true,cond_f] at ha ⊢
    rw [Make_out ha]
    exact ⟨trivial,trivial,(min_out _ _).1,(min_out _ _).2,(max_out _ _).1,(max_out _ _).2⟩
theorem MulDiv_val {a b d : I64} (hd : 0 < d.val) (h1 : -85070591730234615865843651857942052864 ≤ a.val * b.val) (h2 : a.val * b.val ≤ 85070591730234615865843651857942052864) (k1 : -9223372036854775808 ≤ a.val * b.val / d.val) (k2 : a.val * b.val / d.val ≤ 9223372036854775807) :
    ∃ r : I64,S_MulDivFloor a b d = (r,true) ∧ r.val = a.val * b.val / d.val:=by
  have hm : (S_l02Mul a b).z = a.val * b.val:=sp_Mul a b
  obtain ⟨s1,s2,s3⟩:=sp_Div (S_l02Mul a b) d hd (by rw [hm]; exact h1) (by rw [hm]; exact h2)
  rw [hm] at s1
  have hq : (S_l02Div (S_l02Mul a b) d).1.z = a.val * b.val / d.val:=by
    generalize (S_l02Div (S_l02Mul a b) d).1.z = q at *
    generalize (S_l02Div (S_l02Mul a b) d).2.val = r at *
    rw [← s1,Int.mul_comm q,Int.add_comm,Int.add_mul_ediv_left _ _ (by omega),Int.ediv_eq_zero_of_lt s2 s3,Int.zero_add]
  obtain ⟨n,hn,hi⟩:=Int_in _ (by rw [hq]; exact k1) (by rw [hq]; exact k2)
  refine ⟨n,?_,by rw [hn,hq]⟩
  unfold S_MulDivFloor
  have e5 : decide (d.val ≤ 0) = false:=decide_eq_false (by omega)
  simp only [bindP_e,e5,cond_f,hi]
theorem fx_int (c : Int) : Rl.fx (c * 4294967296) = Rl.q c:=by
  unfold Rl.fx
  congr 1
  push_cast
  grind
theorem tIntegerS (c : I64) : Tr (S_Integer c) (Rl.q c.val):=fun h=>by
  by_cases hc : -268435455 ≤ c.val ∧ c.val ≤ 268435455
  · obtain ⟨z,hz,_,h1,h2⟩:=Integer_val c hc.1 hc.2
    rw [hz,h1,h2,← fx_int]
    exact Rl.In.fix _
  · exfalso
    unfold S_Integer at h
    simp only [bindP_e] at h
    have : S_l00In c (c64 (-268435455)) (c64 268435455) = false:=by
      rw [sp_in]
      simp only [c64_v,Bool.and_eq_false_iff,decide_eq_false_iff_not]
      omega
    rw [this] at h
    simp only [Bool.not_false,cond_t] at h
    exact absurd h (by decide)
theorem tAtS (n : I64) : Tr (S_l05At n) (Rl.fx n.val):=fun _=>Rl.In.fix _
noncomputable def rad (u : Int) : Rl.R:=Rl.q (u / 900000000) * Rl.hp
theorem rad_add (a b : Int) : rad (a + b) = rad a + rad b:=by
  unfold rad
  rw [← Rl.add_mul,← Rl.q_add]
  congr 2
  push_cast
  grind
theorem rad_neg (a : Int) : rad (-a) = -rad a:=by
  unfold rad
  rw [← Rl.neg_mul,← Rl.q_neg]
  congr 2
  push_cast
  grind
theorem rad_zero : rad 0 = Rl.q 0:=by
  unfold rad
  rw [show ((0 : Int) : Rat) / 900000000 = 0 by decide +kernel,Rl.zero_mul]
theorem rad_kh (k : Int) : rad (k * 900000000) = Rl.kh k:=by
  unfold rad Rl.kh
  congr 2
  push_cast
  grind
theorem rad_mono {a b : Int} (h : a ≤ b) : rad a ≤ rad b:=by
  refine Rl.mul_le_mul_r (Rl.q_le.2 ?_) (Rl.le_of_lt Rl.hp_pos)
  have:=Rl.cast_le h
  grind
theorem rad_lt {a b : Int} (h : a < b) : rad a < rad b:=fun k=>by
  have e : rad b = rad a + rad (b - a):=by rw [← rad_add]; congr 1; omega
  rw [e] at k
  have k2:=Rl.sub_le_sub k (Rl.le_refl (rad a))
  rw [Rl.add_sub_l,Rl.sub_self] at k2
  refine Rl.mul_pos (x:=Rl.q ((b - a : Int) / 900000000)) (Rl.q_lt.2 ?_) Rl.hp_pos k2
  have : (1 : Int) ≤ b - a:=by omega
  have:=Rl.cast_le this
  have e1 : ((1 : Int) : Rat) = 1:=by decide
  grind
theorem rad_in {u f g : Int} (h0 : 0 ≤ u) (h1 : f * 966367641600000000 ≤ u * 7244019458077122842) (h2 : u * 7244019458077122843 ≤ g * 966367641600000000) : Rl.In f g (rad u):=by
  have up : (0 : Rat) ≤ (u : Rat) / 900000000:=by
    have:=Rl.cast_le h0
    grind
  constructor
  · refine Rl.le_trans ?_ (Rl.mul_le_mul_l Rl.hp_lo (Rl.q_le.2 up))
    rw [← Rl.q_mul]
    refine Rl.q_le.2 ?_
    have:=Rl.cast_le h1
    push_cast at this
    unfold Rl.hlo
    grind
  · refine Rl.le_trans (Rl.mul_le_mul_l Rl.hp_hi (Rl.q_le.2 up)) ?_
    rw [← Rl.q_mul]
    refine Rl.q_le.2 ?_
    have:=Rl.cast_le h2
    push_cast at this
    unfold Rl.hhi
    grind
theorem rad_pos_in (fu : Nat) (a : I64) (h0 : 0 < a.val) (h1 : a.val ≤ 36000000000) : ∃ z : Iv,S_RadiansOf_r (fu + 1) a = z ∧ S_l04Ok z = true ∧ Rl.In z.lo.val z.hi.val (rad a.val) ∧ 0 ≤ z.lo.val ∧ z.hi.val ≤ 300000000000:=by
  obtain ⟨r,hr,rv⟩:=MulDiv_val (a:=a) (b:=c64 7244019458077122842) (d:=c64 966367641600000000) (by rw [c64_v]; decide) (by rw [c64_v]; omega) (by rw [c64_v]; omega) (by rw [c64_v,c64_v]; omega) (by rw [c64_v,c64_v]; omega)
  obtain ⟨s,hs,sv⟩:=MulDiv_val (a:=a) (b:=c64 7244019458077122843) (d:=c64 966367641600000000) (by rw [c64_v]; decide) (by rw [c64_v]; omega) (by rw [c64_v]; omega) (by rw [c64_v,c64_v]; omega) (by rw [c64_v,c64_v]; omega)
  rw [c64_v,c64_v] at rv sv
  have hi : S_l00In a (c64 (-36000000000)) (c64 36000000000) = true:=by
    rw [sp_in]
    simp only [Bool.and_eq_true,decide_eq_true_eq,c64_v]
    omega
  have w1 : (w64 (s.val + 1)).val = s.val + 1:=by rw [w64_val]; omega
  refine ⟨⟨r,w64 (s.val + 1)⟩,?_,Ok4_of ?_,?_,?_,?_⟩
  · unfold S_RadiansOf_r S_RadiansOf_b
    have d1 : decide (a.val < 0) = false:=decide_eq_false (by omega)
    have d2 : (a.val == 0) = false:=by simp only [beq_eq_false_iff_ne,ne_eq]; omega
    simp only [bindP_e,hi,Bool.not_true,cond_f,d1,d2,hr,hs]
  · show -1152921504606846976 < r.val ∧ r.val ≤ (w64 (s.val + 1)).val ∧ (w64 (s.val + 1)).val < 1152921504606846976
    rw [w1]
    omega
  · show Rl.In r.val (w64 (s.val + 1)).val _
    rw [w1]
    refine rad_in (by omega) ?_ ?_ <;> omega
  · show 0 ≤ r.val
    omega
  · show (w64 (s.val + 1)).val ≤ _
    rw [w1]
    omega
theorem Rad_val (a : I64) (h : -36000000000 ≤ a.val ∧ a.val ≤ 36000000000) : ∃ z : Iv,S_RadiansOf a = z ∧ S_l04Ok z = true ∧ Rl.In z.lo.val z.hi.val (rad a.val) ∧ -300000000000 ≤ z.lo.val ∧ z.hi.val ≤ 300000000000:=by
  have hi : S_l00In a (c64 (-36000000000)) (c64 36000000000) = true:=by
    rw [sp_in]
    simp only [Bool.and_eq_true,decide_eq_true_eq,c64_v]
    omega
  by_cases h0 : 0 < a.val
  · obtain ⟨z,h1,h2,h3,h4,h5⟩:=rad_pos_in 1 a h0 h.2
    exact ⟨z,h1,h2,h3,by omega,h5⟩
  · by_cases hz : a.val = 0
    · refine ⟨⟨c64 0,c64 0⟩,?_,by decide,?_,by decide,by decide⟩
      · unfold S_RadiansOf S_RadiansOf_r S_RadiansOf_b
        have d2 : (a.val == 0) = true:=by simp only [beq_iff_eq]; exact hz
        simp only [bindP_e,hi,Bool.not_true,cond_f,d2,cond_t]
      · rw [hz,rad_zero,← Rl.fx_zero]
        exact Rl.In.fix _
    · have en : (w64 (0 - a.val)).val = -a.val:=by rw [w64_val]; omega
      obtain ⟨z,h1,h2,h3,h4,h5⟩:=rad_pos_in 0 (w64 (0 - a.val)) (by omega) (by omega)
      have p:=Ok4p h2
      have n1 : (w64 (0 - z.hi.val)).val = -z.hi.val:=by rw [w64_val]; omega
      have n2 : (w64 (0 - z.lo.val)).val = -z.lo.val:=by rw [w64_val]; omega
      refine ⟨⟨w64 (0 - z.hi.val),w64 (0 - z.lo.val)⟩,?_,Ok4_of ?_,?_,?_,?_⟩
      · unfold S_RadiansOf S_RadiansOf_r S_RadiansOf_b
        have d1 : decide (a.val < 0) = true:=decide_eq_true (by omega)
        have d2 : (a.val == 0) = false:=by simp only [beq_eq_false_iff_ne,ne_eq]; exact hz
        simp only [bindP_e,hi,Bool.not_true,cond_f,d1,d2,cond_t,h1]
        unfold S_NegI
        simp only [bindP_e,h2,Bool.not_true,cond_f]
        rw [Make_ok (by rw [n1,n2]; omega)]
      · show -1152921504606846976 < (w64 (0 - z.hi.val)).val ∧ (w64 (0 - z.hi.val)).val ≤ (w64 (0 - z.lo.val)).val ∧ (w64 (0 - z.lo.val)).val < 1152921504606846976
        rw [n1,n2]
        omega
      · show Rl.In (w64 (0 - z.hi.val)).val (w64 (0 - z.lo.val)).val _
        rw [n1,n2]
        have:=h3.neg
        rw [en,rad_neg,Rl.neg_neg] at this
        exact this
      · show _ ≤ (w64 (0 - z.hi.val)).val
        rw [n1]; omega
      · show (w64 (0 - z.lo.val)).val ≤ _
        rw [n2]; omega
theorem tRadS (a : I64) : Tr (S_RadiansOf a) (rad a.val):=fun h=>by
  by_cases hr : -36000000000 ≤ a.val ∧ a.val ≤ 36000000000
  · obtain ⟨z,h1,_,h3,_⟩:=Rad_val a hr
    rw [h1]; exact h3
  · exfalso
    have hi : S_l00In a (c64 (-36000000000)) (c64 36000000000) = false:=by
      rw [sp_in]
      simp only [c64_v,Bool.and_eq_false_iff,decide_eq_false_iff_not]
      omega
    unfold S_RadiansOf S_RadiansOf_r S_RadiansOf_b S_Whole at h
    simp only [bindP_e,hi,Bool.not_false,cond_t] at h
    exact absurd h (by decide)
theorem Turn_in (k : I64) (h : -4096 ≤ k.val ∧ k.val ≤ 4096) : ∃ z : Iv,S_TurnI k = z ∧ S_l04Ok z = true ∧ Rl.In z.lo.val z.hi.val (Rl.kh k.val) ∧ -30000000000000 ≤ z.lo.val ∧ z.hi.val ≤ 30000000000000 ∧ z.hi.val ≤ z.lo.val + 1:=by
  have hi : S_l00In k (c64 (-4096)) (c64 4096) = true:=by
    rw [sp_in]
    simp only [Bool.and_eq_true,decide_eq_true_eq,c64_v]
    omega
  have pos : ∀ (fu : Nat) (k : I64),0 < k.val → k.val ≤ 4096 → ∃ z : Iv,S_l05Turn_r (fu + 1) k = z ∧ S_l04Ok z = true ∧ Rl.In z.lo.val z.hi.val (Rl.kh k.val) ∧ 0 ≤ z.lo.val ∧ z.hi.val ≤ 30000000000000 ∧ z.hi.val ≤ z.lo.val + 1:=fun fu k h0 h1=>by
    obtain ⟨r,hr,rv⟩:=Turn_val k h0 h1
    have t:=Rl.turn_in h0 h1
    rw [← rv] at t
    have w1 : (w64 (r.val + 1)).val = r.val + 1:=by rw [w64_val]; omega
    refine ⟨⟨r,w64 (r.val + 1)⟩,?_,Ok4_of ?_,?_,?_,?_,?_⟩
    · unfold S_l05Turn_r
      have d1 : decide (k.val < 0) = false:=decide_eq_false (by omega)
      have d2 : (k.val == 0) = false:=by simp only [beq_eq_false_iff_ne,ne_eq]; omega
      simp only [bindP_e,d1,d2,cond_f,hr]
    · show -1152921504606846976 < r.val ∧ r.val ≤ (w64 (r.val + 1)).val ∧ (w64 (r.val + 1)).val < 1152921504606846976
      rw [w1]
      omega
    · show Rl.In r.val (w64 (r.val + 1)).val _
      rw [w1]; exact t
    · show 0 ≤ r.val
      omega
    · show (w64 (r.val + 1)).val ≤ _
      rw [w1]; omega
    · show (w64 (r.val + 1)).val ≤ r.val + 1
      rw [w1]; exact Int.le_refl _
  by_cases h0 : 0 < k.val
  · obtain ⟨z,h1,h2,h3,h4,h5,h6⟩:=pos 1 k h0 h.2
    refine ⟨z,?_,h2,h3,by omega,h5,h6⟩
    unfold S_TurnI S_l05Turn
    simp only [bindP_e,hi,Bool.not_true,cond_f]
    exact h1
  · by_cases hz : k.val = 0
    · refine ⟨⟨c64 0,c64 0⟩,?_,by decide,?_,by decide,by decide,by decide⟩
      · unfold S_TurnI S_l05Turn S_l05Turn_r
        have d2 : (k.val == 0) = true:=by simp only [beq_iff_eq]; exact hz
        simp only [bindP_e,hi,Bool.not_true,cond_f,d2,cond_t]
      · rw [hz,Rl.kh_zero,← Rl.fx_zero]
        exact Rl.In.fix _
    · have en : (w64 (0 - k.val)).val = -k.val:=by rw [w64_val]; omega
      obtain ⟨z,h1,h2,h3,h4,h5,h6⟩:=pos 0 (w64 (0 - k.val)) (by omega) (by omega)
      have p:=Ok4p h2
      have n1 : (w64 (0 - z.hi.val)).val = -z.hi.val:=by rw [w64_val]; omega
      have n2 : (w64 (0 - z.lo.val)).val = -z.lo.val:=by rw [w64_val]; omega
      refine ⟨⟨w64 (0 - z.hi.val),w64 (0 - z.lo.val)⟩,?_,Ok4_of ?_,?_,?_,?_,?_⟩
      · unfold S_TurnI S_l05Turn
        simp only [bindP_e,hi,Bool.not_true,cond_f]
        unfold S_l05Turn_r
        have d1 : decide (k.val < 0) = true:=decide_eq_true (by omega)
        have d2 : (k.val == 0) = false:=by simp only [beq_eq_false_iff_ne,ne_eq]; exact hz
        simp only [bindP_e,d1,d2,cond_f,cond_t,h1]
      · show -1152921504606846976 < (w64 (0 - z.hi.val)).val ∧ (w64 (0 - z.hi.val)).val ≤ (w64 (0 - z.lo.val)).val ∧ (w64 (0 - z.lo.val)).val < 1152921504606846976
        rw [n1,n2]
        omega
      · show Rl.In (w64 (0 - z.hi.val)).val (w64 (0 - z.lo.val)).val _
        rw [n1,n2]
        have:=h3.neg
        rw [en,Rl.kh_neg,Rl.neg_neg] at this
        exact this
      · show _ ≤ (w64 (0 - z.hi.val)).val
        rw [n1]; omega
      · show (w64 (0 - z.lo.val)).val ≤ _
        rw [n2]; omega
      · show (w64 (0 - z.lo.val)).val ≤ (w64 (0 - z.hi.val)).val + 1
        rw [n1,n2]; omega
theorem tTurnS (k : I64) : Tr (S_TurnI k) (Rl.kh k.val):=fun h=>by
  by_cases hr : -4096 ≤ k.val ∧ k.val ≤ 4096
  · obtain ⟨z,h1,_,h3,_⟩:=Turn_in k hr
    rw [h1]; exact h3
  · exfalso
    have hi : S_l00In k (c64 (-4096)) (c64 4096) = false:=by
      rw [sp_in]
      simp only [c64_v,Bool.and_eq_false_iff,decide_eq_false_iff_not]
      omega
    unfold S_TurnI S_Whole at h
    simp only [bindP_e,hi,Bool.not_false,cond_t] at h
    exact absurd h (by decide)
theorem and_three (x : Int) : (iand .i64 (w64 x).val 3).val = x % 4:=by
  have e : (BitVec.ofInt 64 (w64 x).val &&& BitVec.ofInt 64 3).toNat = (x % 4).toNat:=by
    have e2 : BitVec.ofInt 64 3 = BitVec.ofNat 64 3:=by decide
    rw [e2,BitVec.toNat_and,BitVec.toNat_ofNat,BitVec.toNat_ofInt,w64_val]
    have e3 : (3 : Nat) % 2 ^ 64 = 2 ^ 2 - 1:=by decide
    rw [e3,Nat.and_two_pow_sub_one_eq_mod]
    omega
  show IntKind.i64.wrap ((BitVec.ofInt 64 (w64 x).val &&& BitVec.ofInt 64 3).toNat : Int) = _
  rw [e,IntKind.wrap_i64]
  omega
theorem ab_one {v : Rl.R} (h : Rl.Ab v (Rl.q 1)) : Rl.In (-4294967296) 4294967296 v:=by
  rw [← Rl.fx_one] at h
  exact ⟨by rw [Rl.fx_neg]; exact h.1,h.2⟩
theorem ab_of_in {v : Rl.R} {a b : Int} (h : Rl.In a b v) (h1 : -4294967296 ≤ a) (h2 : b ≤ 4294967296) : Rl.Ab v (Rl.q 1):=by
  have k:=h.mono h1 h2
  rw [← Rl.fx_one]
  exact ⟨by rw [← Rl.fx_neg]; exact k.1,k.2⟩
theorem tTiny {d : Rl.R} (h : Rl.Ab d (Rl.fx 1)) : Tr S_l06Tiny d:=fun _=>⟨by
  show Rl.fx (-1) ≤ d
  rw [Rl.fx_neg]; exact h.1,h.2⟩
theorem tRing {v : Rl.R} (h : Rl.Ab v (Rl.q 1)) : Tr S_l06Ring v:=fun _=>ab_one h
theorem tOneS : Tr (S_Integer (c64 1)) (Rl.q 1):=by
  have:=tIntegerS (c64 1)
  rw [show (((c64 1).val : Int) : Rat) = 1 from by rw [c64_v]; decide] at this
  exact this
theorem tStep {y s : Iv} {yv sv : Rl.R} (hy : Tr y yv) (hs : Tr s sv) (n : I64) (c : Rat) (hc : (n.val : Rat) = c) (h0 : 0 < c) :
    Tr (S_SubI (S_Integer (c64 1)) (S_MulI (S_DivI y (S_Integer n)) s)) (Rl.stp c yv sv):=by
  have hn:=tIntegerS n
  rw [hc] at hn
  refine tSubS tOneS (tMulS (tDivS hy hn ?_) hs)
  rw [Rl.mul_assoc,← Rl.q_mul]
  have : 1 / c * c = 1:=Rat.div_mul_cancel (Rat.ne_of_gt h0)
  rw [this,Rl.mul_one]
theorem tSeries0 {y : Iv} {yv : Rl.R} (hy : Tr y yv) : Tr (S_l06Series y (c64 0)) (Rl.hsn yv):=by
  unfold S_l06Series
  simp only [bindP_e]
  exact tStep hy (tStep hy (tStep hy (tStep hy (tStep hy (tStep hy (tStep hy (tStep hy tOneS _ 272 (by decide +kernel) (by decide)) _ 210 (by decide +kernel) (by decide)) _ 156 (by decide +kernel) (by decide)) _ 110 (by decide +kernel) (by decide)) _ 72 (by decide +kernel) (by decide)) _ 42 (by decide +kernel) (by decide)) _ 20 (by decide +kernel) (by decide)) _ 6 (by decide +kernel) (by decide)
theorem tSeries1 {y : Iv} {yv : Rl.R} (hy : Tr y yv) : Tr (S_l06Series y (c64 (-1))) (Rl.hcn yv):=by
  unfold S_l06Series
  simp only [bindP_e]
  exact tStep hy (tStep hy (tStep hy (tStep hy (tStep hy (tStep hy (tStep hy (tStep hy tOneS _ 240 (by decide +kernel) (by decide)) _ 182 (by decide +kernel) (by decide)) _ 132 (by decide +kernel) (by decide)) _ 90 (by decide +kernel) (by decide)) _ 56 (by decide +kernel) (by decide)) _ 30 (by decide +kernel) (by decide)) _ 12 (by decide +kernel) (by decide)) _ 2 (by decide +kernel) (by decide)
theorem add_sub_self (a b : Rl.R) : a + (b - a) = b:=by rw [Rl.add_comm,Rl.sub_add_cancel]
theorem tSinSeriesS {a : Iv} {x : Rl.R} (ha : Tr a x) : Tr (S_SinSeries a) (Rl.sn x):=by
  unfold S_SinSeries S_Whole
  simp only [bindP_e]
  cases hi : S_InsideI a S_l06Ring with
  | false=>simp only [Bool.not_false,cond_t]; exact tWhole _
  | true=>
    simp only [Bool.not_true,cond_f]
    obtain ⟨h1,h2,h3⟩:=inside_ring hi
    have hx:=ab_of_in (ha h1) h2 h3
    have:=tAddS (tMulS ha (tSeries0 (tSqrS ha))) (tTiny (Rl.sn_poly hx))
    rwa [add_sub_self] at this
theorem tCosSeriesS {a : Iv} {x : Rl.R} (ha : Tr a x) : Tr (S_CosSeries a) (Rl.cn x):=by
  unfold S_CosSeries S_Whole
  simp only [bindP_e]
  cases hi : S_InsideI a S_l06Ring with
  | false=>simp only [Bool.not_false,cond_t]; exact tWhole _
  | true=>
    simp only [Bool.not_true,cond_f]
    obtain ⟨h1,h2,h3⟩:=inside_ring hi
    have hx:=ab_of_in (ha h1) h2 h3
    have:=tAddS (tSeries1 (tSqrS ha)) (tTiny (Rl.cn_poly hx))
    rwa [add_sub_self] at this
theorem max_of {a b : I64} {v : Rl.R} (h1 : Rl.fx a.val ≤ v) (h2 : Rl.fx b.val ≤ v) : Rl.fx (S_l00Max a b).val ≤ v:=by
  rcases max_is a b with e | e <;> rw [e] <;> assumption
theorem min_of {a b : I64} {v : Rl.R} (h1 : v ≤ Rl.fx a.val) (h2 : v ≤ Rl.fx b.val) : v ≤ Rl.fx (S_l00Min a b).val:=by
  rcases min_is a b with e | e <;> rw [e] <;> assumption
theorem MeetI_tr {a b : Iv} {v : Rl.R} (ha : Tr a v) (hb : Tr b v) : (S_MeetI a b).2 = true ∧ Tr (S_MeetI a b).1 v:=by
  unfold S_MeetI
  simp only [bindP_e]
  cases h1 : S_l04Ok a with
  | false=>
    simp only [Bool.not_false,cond_t]
    cases h2 : S_l04Ok b with
    | false=>simp only [Bool.not_false,cond_t]; exact ⟨trivial,tWhole _⟩
    | true=>simp only [Bool.not_true,cond_f]; exact ⟨trivial,hb⟩
  | true=>
    simp only [Bool.not_true,cond_f]
    cases h2 : S_l04Ok b with
    | false=>simp only [Bool.not_false,cond_t]; exact ⟨trivial,ha⟩
    | true=>
      simp only [Bool.not_true,cond_f]
      have A:=ha h1
      have B:=hb h2
      have k1:=max_of (a:=a.lo) (b:=b.lo) A.1 B.1
      have k2:=min_of (a:=a.hi) (b:=b.hi) A.2 B.2
      have k3:=Rl.fx_le.1 (Rl.le_trans k1 k2)
      have d : decide ((S_l00Max a.lo b.lo).val > (S_l00Min a.hi b.hi).val) = false:=decide_eq_false (by omega)
      rw [d,cond_f]
      exact ⟨rfl,fun _=>⟨k1,k2⟩⟩
theorem OverlapI_tr {a b : Iv} {v : Rl.R} (ha : Tr a v) (hb : Tr b v) : S_OverlapI a b = true:=by
  unfold S_OverlapI
  simp only [bindP_e]
  exact (MeetI_tr ha hb).1
theorem tMeetRing {z : Iv} {v : Rl.R} (hz : Tr z v) (h : Rl.Ab v (Rl.q 1)) : Tr (S_l06Meet z) v:=by
  obtain ⟨m1,m2⟩:=MeetI_tr hz (tRing h)
  unfold S_l06Meet
  simp only [bindP_e,m1,Bool.not_true,cond_f]
  exact m2
theorem tAt (n t : I64) (ht : -1000 ≤ t.val ∧ t.val ≤ 1000) : Tr (S_l06At n t) (Rl.sn (Rl.fx n.val + Rl.kh t.val)):=by
  unfold S_l06At
  simp only [bindP_e]
  cases S_l06Angle n with
  | false=>simp only [Bool.not_false,cond_t]; exact tRing (Rl.sn_le _)
  | true=>
    simp only [Bool.not_true,cond_f]
    have qb:=spec_quarter_bounds n
    generalize S_QuarterOf n = k at *
    have e : Rl.fx n.val + Rl.kh t.val = (Rl.fx n.val - Rl.kh k.val) + Rl.kh (k.val + t.val):=by
      rw [Rl.kh_add,← Rl.add_assoc,Rl.sub_add_cancel]
    have hr:=tSubS (tAtS n) (tTurnS k)
    have bnd:=Rl.sn_le (Rl.fx n.val + Rl.kh t.val)
    rw [e] at bnd ⊢
    obtain ⟨q0,q1,q2,q3⟩:=Rl.quad (Rl.fx n.val - Rl.kh k.val) (k.val + t.val)
    generalize Rl.fx n.val - Rl.kh k.val = r at *
    have a4:=and_three (k.val + t.val)
    have hm : (k.val + t.val) % 4 = 0 ∨ (k.val + t.val) % 4 = 1 ∨ (k.val + t.val) % 4 = 2 ∨ (k.val + t.val) % 4 = 3:=by omega
    rcases hm with h | h | h | h
    · have d0 : ((iand .i64 (w64 (k.val + t.val)).val 3).val == 0) = true:=by rw [a4,h]; rfl
      rw [q0 h] at bnd ⊢
      simp only [d0,cond_t]
      exact tMeetRing (tSinSeriesS hr) bnd
    · have d0 : ((iand .i64 (w64 (k.val + t.val)).val 3).val == 0) = false:=by rw [a4,h]; rfl
      have d1 : ((iand .i64 (w64 (k.val + t.val)).val 3).val == 1) = true:=by rw [a4,h]; rfl
      rw [q1 h] at bnd ⊢
      simp only [d0,d1,cond_t,cond_f]
      exact tMeetRing (tCosSeriesS hr) bnd
    · have d0 : ((iand .i64 (w64 (k.val + t.val)).val 3).val == 0) = false:=by rw [a4,h]; rfl
      have d1 : ((iand .i64 (w64 (k.val + t.val)).val 3).val == 1) = false:=by rw [a4,h]; rfl
      have d2 : ((iand .i64 (w64 (k.val + t.val)).val 3).val == 2) = true:=by rw [a4,h]; rfl
      rw [q2 h] at bnd ⊢
      simp only [d0,d1,d2,cond_t,cond_f]
      exact tMeetRing (tNegS (tSinSeriesS hr)) bnd
    · have d0 : ((iand .i64 (w64 (k.val + t.val)).val 3).val == 0) = false:=by rw [a4,h]; rfl
      have d1 : ((iand .i64 (w64 (k.val + t.val)).val 3).val == 1) = false:=by rw [a4,h]; rfl
      have d2 : ((iand .i64 (w64 (k.val + t.val)).val 3).val == 2) = false:=by rw [a4,h]; rfl
      rw [q3 h] at bnd ⊢
      simp only [d0,d1,d2,cond_f]
      exact tMeetRing (tNegS (tCosSeriesS hr)) bnd
theorem kh0 (x : Rl.R) : x + Rl.kh (c64 0).val = x:=by rw [c64_v,Rl.kh_zero,Rl.add_zero]
theorem kh1 (x : Rl.R) : Rl.sn (x + Rl.kh (c64 1).val) = Rl.cn x:=by rw [c64_v,Rl.kh_one,Rl.sn_hp_add]
theorem tSinAtS (n : I64) : Tr (S_SinAt n) (Rl.sn (Rl.fx n.val)):=by
  unfold S_SinAt
  simp only [bindP_e]
  have:=tAt n (c64 0) (by rw [c64_v]; decide)
  rwa [kh0] at this
theorem tCosAtS (n : I64) : Tr (S_CosAt n) (Rl.cn (Rl.fx n.val)):=by
  unfold S_CosAt
  simp only [bindP_e]
  have:=tAt n (c64 1) (by rw [c64_v]; decide)
  rwa [kh1] at this
theorem Quarter_val {n : I64} (h : S_l06Angle n = true) : (S_QuarterOf n).val = (n.val + 3373259426) / 6746518852:=by
  unfold S_QuarterOf S_l06Floor
  have h':=h
  unfold S_l06Angle at h'
  simp only [bindP_e] at h'
  rw [sp_in] at h'
  simp only [Bool.and_eq_true,decide_eq_true_eq,c64_v] at h'
  simp only [bindP_e,h,Bool.not_true,cond_f]
  have e : (w64 (n.val + 3373259426)).val = n.val + 3373259426:=by rw [w64_val]; omega
  generalize w64 (n.val + 3373259426) = a at *
  have em : (imod a (c64 6746518852).val).val = Int.tmod a.val 6746518852:=rfl
  have ed : Int.tdiv a.val (c64 6746518852).val = Int.tdiv a.val 6746518852:=rfl
  rw [em,ed,← e]
  by_cases hs : 0 ≤ a.val
  · rw [Int.tmod_eq_emod_of_nonneg hs,Int.tdiv_eq_ediv_of_nonneg hs,decide_eq_false (by omega),cond_f,w64_val]
    omega
  · have e1 : Int.tmod a.val 6746518852 = -((-a.val) % 6746518852):=by
      rw [← Int.tmod_eq_emod_of_nonneg (by omega),Int.neg_tmod,Int.neg_neg]
    have e2 : Int.tdiv a.val 6746518852 = -((-a.val) / 6746518852):=by
      rw [← Int.tdiv_eq_ediv_of_nonneg (by omega),Int.neg_tdiv,Int.neg_neg]
    rw [e1,e2]
    by_cases hz : (-a.val) % 6746518852 = 0
    · rw [decide_eq_false (by omega),cond_f,w64_val]
      omega
    · rw [decide_eq_true (by omega),cond_t,w64_val,w64_val]
      omega
theorem over_loop (t : I64) (ht : -1000 ≤ t.val ∧ t.val ≤ 1000) (a : Iv) : ∀ (fu : Nat) (k : I64) (y : Iv),-2000 ≤ k.val → k.val ≤ 2000 → (1002 - k.val).toNat < fu → S_l04Ok (S_l06Over_L0 fu t a k y) = true →
    S_l04Ok y = true ∧ (S_l06Over_L0 fu t a k y).lo.val ≤ y.lo.val ∧ y.hi.val ≤ (S_l06Over_L0 fu t a k y).hi.val ∧
    ∀ K : Int,k.val ≤ K → K ≤ (S_QuarterOf a.hi).val + 1 → S_OverlapI (S_TurnI (w64 K)) a = true → ((K + t.val) % 4 = 1 → 4294967296 ≤ (S_l06Over_L0 fu t a k y).hi.val) ∧ ((K + t.val) % 4 = 3 → (S_l06Over_L0 fu t a k y).lo.val ≤ -4294967296):=by
  intro fu
  induction fu with
  | zero=>intro k y _ _ h; omega
  | succ fu ih=>
    intro k y hk hk2 hf hv
    have qb:=spec_quarter_bounds a.hi
    unfold S_l06Over_L0 at hv ⊢
    simp only [bindP_e] at hv ⊢
    generalize S_QuarterOf a.hi = qq at *
    have eq1 : (w64 (qq.val + 1)).val = qq.val + 1:=by rw [w64_val]; omega
    rw [eq1] at hv ⊢
    by_cases hc : k.val ≤ qq.val + 1
    · have d : decide (k.val ≤ qq.val + 1) = true:=decide_eq_true hc
      simp only [d,cond_t] at hv ⊢
      have ek : (w64 (k.val + 1)).val = k.val + 1:=by rw [w64_val]; omega
      have ih':=fun y=>ih (w64 (k.val + 1)) y (by omega) (by omega) (by omega)
      have split : ∀ K : Int,k.val ≤ K → K = k.val ∨ (w64 (k.val + 1)).val ≤ K:=fun K h=>by omega
      have wk : w64 k.val = k:=w64_id k
      have a4:=and_three (k.val + t.val)
      cases ho : S_OverlapI (S_TurnI k) a with
      | false=>
        simp only [ho,Bool.not_false,cond_t] at hv ⊢
        obtain ⟨i1,i2,i3,i4⟩:=ih' y hv
        refine ⟨i1,i2,i3,fun K hK hK2 hO=>?_⟩
        rcases split K hK with rfl | h
        · rw [wk,ho] at hO; cases hO
        · exact i4 K h hK2 hO
      | true=>
        simp only [ho,Bool.not_true,cond_f] at hv ⊢
        by_cases m1 : (k.val + t.val) % 4 = 1
        · have d1 : ((iand .i64 (w64 (k.val + t.val)).val 3).val == 1) = true:=by rw [a4,m1]; rfl
          simp only [d1,cond_t] at hv ⊢
          obtain ⟨i1,i2,i3,i4⟩:=ih' _ hv
          obtain ⟨h1,h2,l1,l2,u1,u2⟩:=HullI_out i1
          have one : (S_Integer (c64 1)).hi.val = 4294967296:=by decide +kernel
          refine ⟨h1,by omega,by omega,fun K hK hK2 hO=>?_⟩
          rcases split K hK with rfl | h
          · exact ⟨fun _=>by omega,fun h3=>by omega⟩
          · exact i4 K h hK2 hO
        · have d1 : ((iand .i64 (w64 (k.val + t.val)).val 3).val == 1) = false:=by rw [a4]; simp only [beq_eq_false_iff_ne,ne_eq]; exact m1
          simp only [d1,cond_f] at hv ⊢
          by_cases m3 : (k.val + t.val) % 4 = 3
          · have d3 : ((iand .i64 (w64 (k.val + t.val)).val 3).val == 3) = true:=by rw [a4,m3]; rfl
            simp only [d3,cond_t] at hv ⊢
            obtain ⟨i1,i2,i3,i4⟩:=ih' _ hv
            obtain ⟨h1,h2,l1,l2,u1,u2⟩:=HullI_out i1
            have one : (S_Integer (c64 (-1))).lo.val = -4294967296:=by decide +kernel
            refine ⟨h1,by omega,by omega,fun K hK hK2 hO=>?_⟩
            rcases split K hK with rfl | h
            · exact ⟨fun h3=>by omega,fun _=>by omega⟩
            · exact i4 K h hK2 hO
          · have d3 : ((iand .i64 (w64 (k.val + t.val)).val 3).val == 3) = false:=by rw [a4]; simp only [beq_eq_false_iff_ne,ne_eq]; exact m3
            simp only [d3,cond_f] at hv ⊢
            obtain ⟨i1,i2,i3,i4⟩:=ih' _ hv
            refine ⟨i1,i2,i3,fun K hK hK2 hO=>?_⟩
            rcases split K hK with rfl | h
            · exact ⟨fun h3=>by omega,fun h3=>by omega⟩
            · exact i4 K h hK2 hO
    · have d : decide (k.val ≤ qq.val + 1) = false:=decide_eq_false hc
      simp only [d,cond_f] at hv ⊢
      exact ⟨hv,Int.le_refl _,Int.le_refl _,fun K h1 h2=>by omega⟩
theorem kh_bounds (K : Int) : (0 ≤ K → Rl.fx (K * 6746518852) ≤ Rl.kh K ∧ Rl.kh K ≤ Rl.fx (K * 6746518853)) ∧ (K ≤ 0 → Rl.fx (K * 6746518853) ≤ Rl.kh K ∧ Rl.kh K ≤ Rl.fx (K * 6746518852)):=by
  have pos : ∀ K : Int,0 ≤ K → Rl.fx (K * 6746518852) ≤ Rl.kh K ∧ Rl.kh K ≤ Rl.fx (K * 6746518853):=fun K h=>by
    have hk : (0 : Rat) ≤ (K : Rat):=Rl.cast_le h
    constructor
    · refine Rl.le_trans ?_ (Rl.mul_le_mul_l Rl.hp_lo (Rl.q_le.2 hk))
      rw [← Rl.q_mul]
      refine Rl.q_le.2 ?_
      have : (6746518852 : Rat) / 4294967296 ≤ Rl.hlo:=by decide +kernel
      have p:=Rat.mul_nonneg hk (show 0 ≤ Rl.hlo - 6746518852 / 4294967296 by grind)
      push_cast
      grind
    · refine Rl.le_trans (Rl.mul_le_mul_l Rl.hp_hi (Rl.q_le.2 hk)) ?_
      rw [← Rl.q_mul]
      refine Rl.q_le.2 ?_
      have : Rl.hhi ≤ (6746518853 : Rat) / 4294967296:=by decide +kernel
      have p:=Rat.mul_nonneg hk (show 0 ≤ 6746518853 / 4294967296 - Rl.hhi by grind)
      push_cast
      grind
  refine ⟨pos K,fun h=>?_⟩
  obtain ⟨h1,h2⟩:=pos (-K) (by omega)
  rw [Rl.kh_neg] at h1 h2
  have k1:=Rl.neg_le_neg h1
  have k2:=Rl.neg_le_neg h2
  rw [Rl.neg_neg,← Rl.fx_neg] at k1 k2
  rw [show -(-K * 6746518852) = K * 6746518852 by omega] at k1
  rw [show -(-K * 6746518853) = K * 6746518853 by omega] at k2
  exact ⟨k2,k1⟩
theorem tOver {a : Iv} {x : Rl.R} (t : I64) (ht : -1000 ≤ t.val ∧ t.val ≤ 1000) (ha : Tr a x) : Tr (S_l06Over a t) (Rl.sn (x + Rl.kh t.val)):=by
  unfold S_l06Over
  simp only [bindP_e]
  cases hf : S_l06Fits a with
  | false=>simp only [Bool.not_false,cond_t]; exact tRing (Rl.sn_le _)
  | true=>
    simp only [Bool.not_true,cond_f]
    unfold S_l06Fits S_ValidInterval at hf
    simp only [bindP_e] at hf
    cases hok : S_l04Ok a with
    | false=>rw [hok] at hf; cases hf
    | true=>
    rw [hok,cond_t] at hf
    cases hlo : S_l06Angle a.lo with
    | false=>rw [hlo] at hf; cases hf
    | true=>
    rw [hlo,cond_t] at hf
    have A:=ha hok
    have tl:=tAt a.lo t ht
    have th:=tAt a.hi t ht
    have q1:=Quarter_val hlo
    have q2:=Quarter_val hf
    have qb1:=spec_quarter_bounds a.lo
    have qb2:=spec_quarter_bounds a.hi
    have ek : (w64 ((S_QuarterOf a.lo).val - 1)).val = (S_QuarterOf a.lo).val - 1:=by rw [w64_val]; omega
    intro hv
    obtain ⟨i1,i2,i3,i4⟩:=over_loop t ht a _ (w64 ((S_QuarterOf a.lo).val - 1)) _ (by omega) (by omega) (by omega) hv
    generalize S_l06Over_L0 ((2000 - (w64 ((S_QuarterOf a.lo).val - 1)).val).toNat + 1) t a (w64 ((S_QuarterOf a.lo).val - 1)) (S_HullI (S_l06At a.lo t) (S_l06At a.hi t)) = Z at *
    obtain ⟨h1,h2,l1,l2,u1,u2⟩:=HullI_out i1
    have TL:=tl h1
    have TH:=th h2
    have listed : ∀ K : Int,Rl.fx a.lo.val ≤ Rl.kh K → Rl.kh K ≤ Rl.fx a.hi.val → (w64 ((S_QuarterOf a.lo).val - 1)).val ≤ K ∧ K ≤ (S_QuarterOf a.hi).val + 1 ∧ S_OverlapI (S_TurnI (w64 K)) a = true:=fun K g1 g2=>by
      have kb:=kh_bounds K
      have b : a.lo.val ≤ K * 6746518852 + (if 0 ≤ K then K else 0) ∧ K * 6746518852 + (if 0 ≤ K then 0 else K) ≤ a.hi.val:=by
        by_cases hK : 0 ≤ K
        · obtain ⟨c1,c2⟩:=kb.1 hK
          have e1:=Rl.fx_le.1 (Rl.le_trans g1 c2)
          have e2:=Rl.fx_le.1 (Rl.le_trans c1 g2)
          rw [if_pos hK,if_pos hK]
          omega
        · obtain ⟨c1,c2⟩:=kb.2 (by omega)
          have e1:=Rl.fx_le.1 (Rl.le_trans g1 c2)
          have e2:=Rl.fx_le.1 (Rl.le_trans c1 g2)
          rw [if_neg hK,if_neg hK]
          omega
      have hr : -2000 ≤ K ∧ K ≤ 2000:=by
        have p1 : -1099511627776 ≤ a.lo.val ∧ a.hi.val ≤ 1099511627776:=by
          unfold S_l06Angle at hlo hf
          simp only [bindP_e] at hlo hf
          rw [sp_in] at hlo hf
          simp only [Bool.and_eq_true,decide_eq_true_eq,c64_v] at hlo hf
          omega
        by_cases hK : 0 ≤ K
        · rw [if_pos hK,if_pos hK] at b; omega
        · rw [if_neg hK,if_neg hK] at b; omega
      have wK : (w64 K).val = K:=by rw [w64_val]; omega
      refine ⟨?_,?_,OverlapI_tr (v:=Rl.kh K) (by have:=tTurnS (w64 K); rwa [wK] at this) (fun _=>⟨g1,g2⟩)⟩
      · rw [ek,q1]
        by_cases hK : 0 ≤ K
        · rw [if_pos hK] at b; omega
        · rw [if_neg hK] at b; omega
      · rw [q2]
        by_cases hK : 0 ≤ K
        · rw [if_pos hK,if_pos hK] at b; omega
        · rw [if_neg hK,if_neg hK] at b; omega
    have back : ∀ K : Int,Rl.fx a.lo.val + Rl.kh t.val ≤ Rl.kh K ∧ Rl.kh K ≤ Rl.fx a.hi.val + Rl.kh t.val → Rl.fx a.lo.val ≤ Rl.kh (K - t.val) ∧ Rl.kh (K - t.val) ≤ Rl.fx a.hi.val:=fun K h=>by
      have e : Rl.kh (K - t.val) = Rl.kh K - Rl.kh t.val:=by rw [← Rl.add_neg,← Rl.kh_neg,← Rl.kh_add]; congr 1
      rw [e]
      exact ⟨Rl.le_sub_of h.1,Rl.sub_le_of h.2⟩
    have inn : Rl.fx a.lo.val + Rl.kh t.val ≤ x + Rl.kh t.val ∧ x + Rl.kh t.val ≤ Rl.fx a.hi.val + Rl.kh t.val:=⟨Rl.add_le_add A.1 (Rl.le_refl _),Rl.add_le_add A.2 (Rl.le_refl _)⟩
    constructor
    · by_cases hex : ∃ K : Int,K % 4 = 3 ∧ Rl.fx a.lo.val + Rl.kh t.val ≤ Rl.kh K ∧ Rl.kh K ≤ Rl.fx a.hi.val + Rl.kh t.val
      · obtain ⟨K,hK,g⟩:=hex
        obtain ⟨g1,g2⟩:=back K g
        obtain ⟨r1,r2,r3⟩:=listed _ g1 g2
        have:=(i4 (K - t.val) r1 r2 r3).2 (by omega)
        refine Rl.le_trans (Rl.fx_le.2 this) ?_
        exact (ab_one (Rl.sn_le _)).1
      · rcases Rl.sn_hull_lo inn.1 inn.2 (fun K hK g=>hex ⟨K,hK,g⟩) with s | s
        · exact Rl.le_trans (Rl.fx_le.2 (by omega)) (Rl.le_trans TL.1 s)
        · exact Rl.le_trans (Rl.fx_le.2 (by omega)) (Rl.le_trans TH.1 s)
    · by_cases hex : ∃ K : Int,K % 4 = 1 ∧ Rl.fx a.lo.val + Rl.kh t.val ≤ Rl.kh K ∧ Rl.kh K ≤ Rl.fx a.hi.val + Rl.kh t.val
      · obtain ⟨K,hK,g⟩:=hex
        obtain ⟨g1,g2⟩:=back K g
        obtain ⟨r1,r2,r3⟩:=listed _ g1 g2
        have:=(i4 (K - t.val) r1 r2 r3).1 (by omega)
        refine Rl.le_trans ?_ (Rl.fx_le.2 this)
        exact (ab_one (Rl.sn_le _)).2
      · rcases Rl.sn_hull_hi inn.1 inn.2 (fun K hK g=>hex ⟨K,hK,g⟩) with s | s
        · exact Rl.le_trans s (Rl.le_trans TL.2 (Rl.fx_le.2 (by omega)))
        · exact Rl.le_trans s (Rl.le_trans TH.2 (Rl.fx_le.2 (by omega)))
theorem tSinS {a : Iv} {x : Rl.R} (ha : Tr a x) : Tr (S_SinI a) (Rl.sn x):=by
  unfold S_SinI
  simp only [bindP_e]
  have:=tOver (c64 0) (by rw [c64_v]; decide) ha
  rwa [kh0] at this
theorem tCosS {a : Iv} {x : Rl.R} (ha : Tr a x) : Tr (S_CosI a) (Rl.cn x):=by
  unfold S_CosI
  simp only [bindP_e]
  have:=tOver (c64 1) (by rw [c64_v]; decide) ha
  rwa [kh1] at this
theorem Turn1_hi : (S_l05Turn (c64 1)).hi.val = 6746518853:=by
  obtain ⟨r,hr,rv⟩:=Turn_val (c64 1) (by decide) (by decide)
  unfold S_l05Turn S_l05Turn_r
  have d1 : decide ((c64 1).val < 0) = false:=by decide
  have d2 : ((c64 1).val == 0) = false:=by decide
  simp only [bindP_e,d1,d2,cond_f,hr]
  rw [w64_val,rv,c64_v]
  decide
theorem tHullL {a b : Iv} {v va vb : Rl.R} (ha : Tr a va) (hb : Tr b vb) (h1 : va ≤ v ∨ vb ≤ v) (h2 : v ≤ va ∨ v ≤ vb) : Tr (S_HullI a b) v:=fun h=>by
  obtain ⟨k1,k2,k3,k4,k5,k6⟩:=HullI_out h
  have A:=ha k1
  have B:=hb k2
  constructor
  · rcases h1 with h1 | h1
    · exact Rl.le_trans (Rl.fx_le.2 k3) (Rl.le_trans A.1 h1)
    · exact Rl.le_trans (Rl.fx_le.2 k4) (Rl.le_trans B.1 h1)
  · rcases h2 with h2 | h2
    · exact Rl.le_trans (Rl.le_trans h2 A.2) (Rl.fx_le.2 k5)
    · exact Rl.le_trans (Rl.le_trans h2 B.2) (Rl.fx_le.2 k6)
theorem tDoubleS {a : Iv} {x : Rl.R} (ha : Tr a x) : Tr (S_DoubleI a) (x + x):=fun h=>by
  unfold S_DoubleI at h ⊢
  simp only [bindP_e] at h ⊢
  cases h1 : S_l04Ok a with
  | false=>rw [h1] at h; simp only [Bool.not_false,cond_t] at h; exact absurd h (by decide)
  | true=>
    rw [h1] at h
    simp only [Bool.not_true,cond_f] at h ⊢
    rw [Make_out h]
    have A:=(ha h1).add (ha h1)
    have p:=Ok4p h1
    show Rl.In (w64 (2 * a.lo.val)).val (w64 (2 * a.hi.val)).val _
    rw [w64_val,w64_val]
    refine A.mono ?_ ?_ <;> omega
theorem le_of_sqI {a b : Int} (h : a * a ≤ b * b) (hb : 0 ≤ b) : a ≤ b ∧ -b ≤ a:=by
  constructor
  · refine Classical.byContradiction fun k=>?_
    have:=Int.mul_self_lt_mul_self hb (by omega : b < a)
    omega
  · refine Classical.byContradiction fun k=>?_
    have:=Int.mul_self_lt_mul_self hb (by omega : b < -a)
    rw [Int.neg_mul_neg] at this
    omega
theorem tAbsS {a : Iv} {x y : Rl.R} (ha : Tr a x) (hy : Rl.q 0 ≤ y) (e : y = x ∨ y = -x) : Tr (S_AbsI a) y:=fun h=>by
  have h1 : S_l04Ok a = true:=by
    cases h1 : S_l04Ok a with
    | true=>rfl
    | false=>
      unfold S_AbsI at h
      simp only [bindP_e,h1,Bool.not_false,cond_t] at h
      exact absurd h (by decide)
  rw [AbsI_val h1]
  have A:=ha h1
  obtain ⟨e1,e2,e3⟩:=Ends_out h1
  generalize (S_l04Ends a).1 = p at *
  generalize (S_l04Ends a).2 = r at *
  have o:=A.ord
  have u1:=e3 a.lo.val (Int.le_refl _) o
  have u2:=e3 a.hi.val o (Int.le_refl _)
  obtain ⟨a1,a2⟩:=le_of_sqI u1.2 e2
  obtain ⟨b1,b2⟩:=le_of_sqI u2.2 e2
  have N:=A.neg
  constructor
  · by_cases c1 : 0 ≤ a.lo.val
    · have:=(le_of_sqI u1.1 c1).1
      rcases e with e | e
      · rw [e]; exact Rl.le_trans (Rl.fx_le.2 this) A.1
      · have hx : Rl.q 0 ≤ x:=by rw [← Rl.fx_zero]; exact Rl.le_trans (Rl.fx_le.2 c1) A.1
        have : y ≤ x:=by rw [e]; exact Rl.le_trans (Rl.neg_nonpos hx) hx
        have e4 : x = y:=by
          have z : x = Rl.q 0:=Rl.le_antisymm (by rw [e] at hy; have:=Rl.neg_le_neg hy; rwa [Rl.neg_neg,← Rl.q_neg,show -(0 : Rat) = 0 from by decide] at this) hx
          rw [e,z,← Rl.q_neg]; rfl
        rw [← e4]; exact Rl.le_trans (Rl.fx_le.2 ‹_›) A.1
    · by_cases c2 : a.hi.val ≤ 0
      · have k : p.val ≤ -a.hi.val:=(le_of_sqI (a:=p.val) (b:=-a.hi.val) (by rw [Int.neg_mul_neg]; exact u2.1) (by omega)).1
        rcases e with e | e
        · have hx : x ≤ Rl.q 0:=by rw [← Rl.fx_zero]; exact Rl.le_trans A.2 (Rl.fx_le.2 c2)
          have z : x = Rl.q 0:=Rl.le_antisymm hx (by rw [← e]; exact hy)
          have : y = -x:=by rw [e,z,← Rl.q_neg]; rfl
          rw [this]; exact Rl.le_trans (Rl.fx_le.2 k) N.1
        · rw [e]; exact Rl.le_trans (Rl.fx_le.2 k) N.1
      · have u0:=(e3 0 (by omega) (by omega)).1
        have:=(le_of_sqI u0 (Int.le_refl _)).1
        exact Rl.le_trans (Rl.fx_le.2 this) (by rw [Rl.fx_zero]; exact hy)
  · rcases e with e | e
    · rw [e]; exact Rl.le_trans A.2 (Rl.fx_le.2 b1)
    · rw [e]; exact Rl.le_trans N.2 (Rl.fx_le.2 (by show -a.lo.val ≤ r.val; omega))
theorem Floor_true {a d : I64} (ha : S_l03Ok a = true) (h : (S_l03Floor a d).2 = true) : 0 < d.val ∧ (S_l03Floor a d).1.val * d.val ≤ a.val * 4294967296:=by
  unfold S_l03Floor at h ⊢
  by_cases k : d.val ≤ 0
  · rw [decide_eq_true k,cond_t] at h; cases h
  · rw [decide_eq_false k,cond_f] at h ⊢
    simp only [bindP_e] at h ⊢
    obtain ⟨h1,h2,h3⟩:=End_true h
    have v:=MulDivFloor_true ha (by omega) h1
    refine ⟨by omega,?_⟩
    rw [h3,v]
    exact Int.ediv_mul_le _ (by omega)
theorem Ceil_true {a d : I64} (ha : S_l03Ok a = true) (h : (S_l03Ceil a d).2 = true) : 0 < d.val ∧ a.val * 4294967296 ≤ (S_l03Ceil a d).1.val * d.val:=by
  unfold S_l03Ceil at h ⊢
  by_cases k : d.val ≤ 0
  · rw [decide_eq_true k,cond_t] at h; cases h
  · rw [decide_eq_false k,cond_f] at h ⊢
    simp only [bindP_e] at h ⊢
    cases hm : (S_MulDivFloor a (c64 4294967296) d).2 with
    | false=>rw [hm] at h; simp only [Bool.not_false,cond_t] at h; cases h
    | true=>
      rw [hm] at h
      simp only [Bool.not_true,cond_f] at h ⊢
      have v:=MulDivFloor_true ha (by omega) hm
      have pr:=Ok3_p ha
      generalize (S_MulDivFloor a (c64 4294967296) d).1 = r at *
      refine ⟨by omega,?_⟩
      have d1:=Int.emod_nonneg (a.val * 4294967296) (by omega : d.val ≠ 0)
      have d2:=Int.emod_lt_of_pos (a.val * 4294967296) (by omega : 0 < d.val)
      have d3:=Int.mul_ediv_add_emod (a.val * 4294967296) d.val
      rw [← v,Int.mul_comm] at d3
      generalize hr : a.val * 4294967296 % d.val = m at *
      have dh:=d.hi
      have dh2 : d.val ≤ 9223372036854775807:=d.hi
      cases hb : (w64 (r.val * d.val)).val != (w64 (a.val * 4294967296)).val with
      | true=>
        rw [hb] at h
        simp only [cond_t] at h ⊢
        obtain ⟨_,h2,h3⟩:=End_true h
        rw [h3]
        have rl:=r.lo
        have rh:=r.hi
        have rh2 : r.val ≤ 9223372036854775807:=r.hi
        have o:=Ok3_p h2
        have w : (w64 (r.val + 1)).val = r.val + 1:=by
          rw [w64_val] at o ⊢
          by_cases c : r.val = 9223372036854775807
          · rw [c] at o; exact absurd o (by decide)
          · omega
        rw [w,Int.add_mul]
        omega
      | false=>
        rw [hb] at h
        simp only [cond_f] at h ⊢
        obtain ⟨_,h2,h3⟩:=End_true h
        rw [h3]
        simp only [bne_eq_false_iff_eq,w64_val] at hb
        generalize r.val * d.val = u at *
        generalize a.val * 4294967296 = v at *
        omega
theorem tQuotS {a b : I64} {z : Rl.R} (ha : S_l03Ok a = true) (hb : 0 < b.val) (hz : z * Rl.q b.val = Rl.q a.val) : Tr (S_Quotient a b) z:=fun h=>by
  unfold S_Quotient at h ⊢
  rw [decide_eq_false (show ¬ b.val < 0 by omega),cond_f] at h ⊢
  simp only [bindP_e] at h ⊢
  cases h1 : (S_l03Floor a b).2 with
  | false=>rw [h1] at h; simp only [Bool.not_false,cond_t] at h; exact absurd h (by decide)
  | true=>
  cases h2 : (S_l03Ceil a b).2 with
  | false=>rw [h1,h2] at h; simp only [Bool.not_false,Bool.not_true,cond_t,cond_f] at h; exact absurd h (by decide)
  | true=>
    rw [h1,h2] at h
    simp only [Bool.not_true,cond_f] at h ⊢
    rw [Make_out h]
    have F:=(Floor_true ha h1).2
    have C:=(Ceil_true ha h2).2
    have bp : Rl.q 0 < Rl.q b.val:=Rl.q_lt.2 (Rl.cast_pos hb)
    constructor
    · refine Rl.le_of_mul ?_ bp
      rw [hz,Rl.fx_q,← Rl.q_mul]
      refine Rl.q_le.2 ?_
      have:=Rl.cast_le F
      push_cast at this
      grind
    · refine Rl.le_of_mul ?_ bp
      rw [hz,Rl.fx_q,← Rl.q_mul]
      refine Rl.q_le.2 ?_
      have:=Rl.cast_le C
      push_cast at this
      grind
end Go.Proofs.YtfhnlkinjbakgaaGreat.Abs
