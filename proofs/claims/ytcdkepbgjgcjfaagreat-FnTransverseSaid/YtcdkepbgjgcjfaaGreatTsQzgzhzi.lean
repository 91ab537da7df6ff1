/- Plain laws of the functions on numbers: what the program computes is what the reference computes. -/
import Derived.Test.YtcdkepbgjgcjfaaGreatTsReal
import Derived.Test.YtcdkepbgjgcjfaaGreatTsQzdzezf
import Derived.Test.YtcdkepbgjgcjfaaGreatTsFx
set_option linter.unusedVariables false
set_option linter.unusedSimpArgs false
namespace Go.Proofs.YtcdkepbgjgcjfaaGreat.Abs
open Go
theorem Turn1_hi : (S_l05Turn (c64 1)).hi.val = 6746518853:=by
  obtain ⟨r,hr,rv⟩:=Turn_val (c64 1) (by decide) (by decide)
  unfold S_l05Turn S_l05Turn_r
  have d1 : decide ((c64 1).val < 0) = false:=by decide
  have d2 : ((c64 1).val == 0) = false:=by decide
  simp only [bindP_e,d1,d2,cond_f,hr]
  rw [w64_val,rv,c64_v]
  decide
theorem Quarter_eq : S_l07Quarter = ⟨c64 (-6746518853),c64 6746518853⟩:=by
  unfold S_l07Quarter
  simp only [bindP_e]
  refine iv_eq (IK.eq ?_) (IK.eq ?_)
  · show (w64 (0 - (S_l05Turn (c64 1)).hi.val)).val = (c64 (-6746518853)).val
    rw [Turn1_hi]; decide
  · show (S_l05Turn (c64 1)).hi.val = (c64 6746518853).val
    rw [Turn1_hi]; decide
theorem tHullL {a b : Iv} {v va vb : Rl.R} (ha : Tr a va) (hb : Tr b vb) (h1 : va ≤ v ∨ vb ≤ v) (h2 : v ≤ va ∨ v ≤ vb) : Tr (S_HullI a b) v:=fun h=>by
  obtain ⟨k1,k2,k3,k4,k5,k6⟩:=HullI_out h
  have A:=ha k1
  have B:=hb k2
  constructor
  · rcases h1 with h1 | h1
    · exact Rl.le_trans (Rl.fx_le.2 k3) (Rl.le_trans A.1 h1)
    · exact Rl.le_trans (Rl.fx_le.2 k4) (Rl.le_trans B.1 h1)
  · rcases h2 with h2 | h2
    · exact Rl.le_trans (Rl.le_trans h2 A.2) (Rl.fx_le.2 k5)
    · exact Rl.le_trans (Rl.le_trans h2 B.2) (Rl.fx_le.2 k6)
theorem tDoubleS {a : Iv} {x : Rl.R} (ha : Tr a x) : Tr (S_DoubleI a) (x + x):=fun h=>by
  unfold S_DoubleI at h ⊢
  simp only [bindP_e] at h ⊢
  cases h1 : S_l04Ok a with
  | false=>rw [h1] at h; simp only [Bool.not_false,cond_t] at h; exact absurd h (by decide)
  | true=>
    rw [h1] at h
    simp only [Bool.not_true,cond_f] at h ⊢
    rw [Make_out h]
    have A:=(ha h1).add (ha h1)
    have p:=Ok4p h1
    show Rl.In (w64 (2 * a.lo.val)).val (w64 (2 * a.hi.val)).val _
    rw [w64_val,w64_val]
    refine A.mono ?_ ?_ <;> omega
theorem tHalfS {a : Iv} {x y : Rl.R} (ha : Tr a x) (e : y + y = x) : Tr (S_HalfI a) y:=fun h=>by
  unfold S_HalfI at h ⊢
  simp only [bindP_e] at h ⊢
  cases h1 : S_l04Ok a with
  | false=>rw [h1] at h; simp only [Bool.not_false,cond_t] at h; exact absurd h (by decide)
  | true=>
    rw [h1] at h
    simp only [Bool.not_true,cond_f] at h ⊢
    rw [Make_out h]
    have A:=ha h1
    have p:=Ok4p h1
    have w : (w64 (a.hi.val + 1)).val = a.hi.val + 1:=by rw [w64_val]; omega
    constructor
    · refine Rl.le_of_dbl ?_
      rw [e,← Rl.fx_add,shr1_val]
      exact Rl.le_trans (Rl.fx_le.2 (by omega)) A.1
    · refine Rl.le_of_dbl ?_
      rw [e,← Rl.fx_add,shr1_val,w]
      exact Rl.le_trans A.2 (Rl.fx_le.2 (by omega))
theorem le_of_sqI {a b : Int} (h : a * a ≤ b * b) (hb : 0 ≤ b) : a ≤ b ∧ -b ≤ a:=by
  constructor
  · refine Classical.byContradiction fun k=>?_
    have:=Int.mul_self_lt_mul_self hb (by omega : b < a)
    omega
  · refine Classical.byContradiction fun k=>?_
    have:=Int.mul_self_lt_mul_self hb (by omega : b < -a)
    rw [Int.neg_mul_neg] at this
    omega
theorem tAbsS {a : Iv} {x y : Rl.R} (ha : Tr a x) (hy : Rl.q 0 ≤ y) (e : y = x ∨ y = -x) : Tr (S_AbsI a) y:=fun h=>by
  have h1 : S_l04Ok a = true:=by
    cases h1 : S_l04Ok a with
    | true=>rfl
    | false=>
      unfold S_AbsI at h
      simp only [bindP_e,h1,Bool.not_false,cond_t] at h
      exact absurd h (by decide)
  rw [AbsI_val h1]
  have A:=ha h1
  obtain ⟨e1,e2,e3⟩:=Ends_out h1
  generalize (S_l04Ends a).1 = p at *
  generalize (S_l04Ends a).2 = r at *
  have o:=A.ord
  have u1:=e3 a.lo.val (Int.le_refl _) o
  have u2:=e3 a.hi.val o (Int.le_refl _)
  obtain ⟨a1,a2⟩:=le_of_sqI u1.2 e2
  obtain ⟨b1,b2⟩:=le_of_sqI u2.2 e2
  have N:=A.neg
  constructor
  · by_cases c1 : 0 ≤ a.lo.val
    · have:=(le_of_sqI u1.1 c1).1
      rcases e with e | e
      · rw [e]; exact Rl.le_trans (Rl.fx_le.2 this) A.1
      · have hx : Rl.q 0 ≤ x:=by rw [← Rl.fx_zero]; exact Rl.le_trans (Rl.fx_le.2 c1) A.1
        have : y ≤ x:=by rw [e]; exact Rl.le_trans (Rl.neg_nonpos hx) hx
        have e4 : x = y:=by
          have z : x = Rl.q 0:=Rl.le_antisymm (by rw [e] at hy; have:=Rl.neg_le_neg hy; rwa [Rl.neg_neg,← Rl.q_neg,show -(0 : Rat) = 0 from by decide] at this) hx
          rw [e,z,← Rl.q_neg]; rfl
        rw [← e4]; exact Rl.le_trans (Rl.fx_le.2 ‹_›) A.1
    · by_cases c2 : a.hi.val ≤ 0
      · have k : p.val ≤ -a.hi.val:=(le_of_sqI (a:=p.val) (b:=-a.hi.val) (by rw [Int.neg_mul_neg]; exact u2.1) (by omega)).1
        rcases e with e | e
        · have hx : x ≤ Rl.q 0:=by rw [← Rl.fx_zero]; exact Rl.le_trans A.2 (Rl.fx_le.2 c2)
          have z : x = Rl.q 0:=Rl.le_antisymm hx (by rw [← e]; exact hy)
          have : y = -x:=by rw [e,z,← Rl.q_neg]; rfl
          rw [this]; exact Rl.le_trans (Rl.fx_le.2 k) N.1
        · rw [e]; exact Rl.le_trans (Rl.fx_le.2 k) N.1
      · have u0:=(e3 0 (by omega) (by omega)).1
        have:=(le_of_sqI u0 (Int.le_refl _)).1
        exact Rl.le_trans (Rl.fx_le.2 this) (by rw [Rl.fx_zero]; exact hy)
  · rcases e with e | e
    · rw [e]; exact Rl.le_trans A.2 (Rl.fx_le.2 b1)
    · rw [e]; exact Rl.le_trans N.2 (Rl.fx_le.2 (by show -a.lo.val ≤ r.val; omega))
theorem Floor_true {a d : I64} (ha : S_l03Ok a = true) (h : (S_l03Floor a d).2 = true) : 0 < d.val ∧ (S_l03Floor a d).1.val * d.val ≤ a.val * 4294967296:=by
  unfold S_l03Floor at h ⊢
  by_cases k : d.val ≤ 0
  · rw [decide_eq_true k,cond_t] at h; cases h
  · rw [decide_eq_false k,cond_f] at h ⊢
    simp only [bindP_e] at h ⊢
    obtain ⟨h1,h2,h3⟩:=End_true h
    have v:=MulDivFloor_true ha (by omega) h1
    refine ⟨by omega,?_⟩
    rw [h3,v]
    exact Int.ediv_mul_le _ (by omega)
theorem Ceil_true {a d : I64} (ha : S_l03Ok a = true) (h : (S_l03Ceil a d).2 = true) : 0 < d.val ∧ a.val * 4294967296 ≤ (S_l03Ceil a d).1.val * d.val:=by
  unfold S_l03Ceil at h ⊢
  by_cases k : d.val ≤ 0
  · rw [decide_eq_true k,cond_t] at h; cases h
  · rw [decide_eq_false k,cond_f] at h ⊢
    simp only [bindP_e] at h ⊢
    cases hm : (S_MulDivFloor a (c64 4294967296) d).2 with
    | false=>rw [hm] at h; simp only [Bool.not_false,cond_t] at h; cases h
    | true=>
      rw [hm] at h
      simp only [Bool.not_true,cond_f] at h ⊢
      have v:=MulDivFloor_true ha (by omega) hm
      have pr:=Ok3_p ha
      generalize (S_MulDivFloor a (c64 4294967296) d).1 = r at *
      refine ⟨by omega,?_⟩
      have d1:=Int.emod_nonneg (a.val * 4294967296) (by omega : d.val ≠ 0)
      have d2:=Int.emod_lt_of_pos (a.val * 4294967296) (by omega : 0 < d.val)
      have d3:=Int.mul_ediv_add_emod (a.val * 4294967296) d.val
      rw [← v,Int.mul_comm] at d3
      generalize hr : a.val * 4294967296 % d.val = m at *
      have dh:=d.hi
      have dh2 : d.val ≤ 9223372036854775807:=d.hi
      cases hb : (w64 (r.val * d.val)).val != (w64 (a.val * 4294967296)).val with
      | true=>
        rw [hb] at h
        simp only [cond_t] at h ⊢
        obtain ⟨_,h2,h3⟩:=End_true h
        rw [h3]
        have rl:=r.lo
        have rh:=r.hi
        have rh2 : r.val ≤ 9223372036854775807:=r.hi
        have o:=Ok3_p h2
        have w : (w64 (r.val + 1)).val = r.val + 1:=by
          rw [w64_val] at o ⊢
          by_cases c : r.val = 9223372036854775807
          · rw [c] at o; exact absurd o (by decide)
          · omega
        rw [w,Int.add_mul]
        omega
      | false=>
        rw [hb] at h
        simp only [cond_f] at h ⊢
        obtain ⟨_,h2,h3⟩:=End_true h
        rw [h3]
        simp only [bne_eq_false_iff_eq,w64_val] at hb
        generalize r.val * d.val = u at *
        generalize a.val * 4294967296 = v at *
        omega
theorem tQuotS {a b : I64} {z : Rl.R} (ha : S_l03Ok a = true) (hb : 0 < b.val) (hz : z * Rl.q b.val = Rl.q a.val) : Tr (S_Quotient a b) z:=fun h=>by
  unfold S_Quotient at h ⊢
  rw [decide_eq_false (show ¬ b.val < 0 by omega),cond_f] at h ⊢
  simp only [bindP_e] at h ⊢
  cases h1 : (S_l03Floor a b).2 with
  | false=>rw [h1] at h; simp only [Bool.not_false,cond_t] at h; exact absurd h (by decide)
  | true=>
  cases h2 : (S_l03Ceil a b).2 with
  | false=>rw [h1,h2] at h; simp only [Bool.not_false,Bool.not_true,cond_t,cond_f] at h; exact absurd h (by decide)
  | true=>
    rw [h1,h2] at h
    simp only [Bool.not_true,cond_f] at h ⊢
    rw [Make_out h]
    have F:=(Floor_true ha h1).2
    have C:=(Ceil_true ha h2).2
    have bp : Rl.q 0 < Rl.q b.val:=Rl.q_lt.2 (Rl.cast_pos hb)
    constructor
    · refine Rl.le_of_mul ?_ bp
      rw [hz,Rl.fx_q,← Rl.q_mul]
      refine Rl.q_le.2 ?_
      have:=Rl.cast_le F
      push_cast at this
      grind
    · refine Rl.le_of_mul ?_ bp
      rw [hz,Rl.fx_q,← Rl.q_mul]
      refine Rl.q_le.2 ?_
      have:=Rl.cast_le C
      push_cast at this
      grind
theorem Sqrt_val {a b : I64} (ha : 0 ≤ a.val) (hb : 0 ≤ b.val) : ∃ r : I64,S_SqrtFloor a b = (r,true) ∧ 0 ≤ r.val ∧ r.val ≤ 9223372036854775807 ∧ r.val * r.val ≤ a.val * b.val ∧ a.val * b.val < (r.val + 1) * (r.val + 1):=by
  have hz:=sp_Mul a b
  have ah : a.val ≤ 9223372036854775807:=a.hi
  have bh : b.val ≤ 9223372036854775807:=b.hi
  have top : a.val * b.val ≤ 9223372036854775807 * 9223372036854775807:=Int.mul_le_mul ah bh hb (by decide)
  have bot : 0 ≤ a.val * b.val:=Int.mul_nonneg ha hb
  have hq:=root_max (S_l02Mul a b) (mul_hi a b ha hb) 64 65 (cu64 0) (c64 63) (by rw [c64_v]; rfl) (by omega) (by omega) ⟨0,by decide⟩ (by rw [hz]; exact bot) (by
    rw [hz]
    show _ < ((0 : Int) + 2 ^ 64) * (0 + 2 ^ 64)
    rw [show ((0 : Int) + 2 ^ 64) * (0 + 2 ^ 64) = 340282366920938463463374607431768211456 by decide]
    omega)
  rw [hz] at hq
  have q1:=hq.1
  have q2:=hq.2
  change (S_l02Root (S_l02Mul a b)).val * (S_l02Root (S_l02Mul a b)).val ≤ _ at q1
  change _ < ((S_l02Root (S_l02Mul a b)).val + 1) * ((S_l02Root (S_l02Mul a b)).val + 1) at q2
  have hx0 : 0 ≤ (S_l02Root (S_l02Mul a b)).val:=(S_l02Root (S_l02Mul a b)).lo
  have hx1 : (S_l02Root (S_l02Mul a b)).val ≤ 9223372036854775807:=(le_of_sqI (Int.le_trans q1 top) (by decide)).1
  have e : (w64 (S_l02Root (S_l02Mul a b)).val).val = (S_l02Root (S_l02Mul a b)).val:=by rw [w64_val]; omega
  refine ⟨w64 (S_l02Root (S_l02Mul a b)).val,?_,by omega,by omega,by rw [e]; exact q1,by rw [e]; exact q2⟩
  unfold S_SqrtFloor
  simp only [bindP_e,decide_eq_false (show ¬ a.val < 0 by omega),decide_eq_false (show ¬ b.val < 0 by omega),cond_f]
theorem circle_num (n : Int) (r : Int) (v : Rl.R) (h0 : 0 ≤ r) (hv : Rl.q 0 ≤ v) (e : v * v + Rl.fx n * Rl.fx n = Rl.q 1) : (r * r ≤ (4294967296 - n) * (4294967296 + n) → Rl.fx r ≤ v) ∧ ((4294967296 - n) * (4294967296 + n) ≤ r * r → v ≤ Rl.fx r):=by
  have e2 : v * v = Rl.q (((4294967296 - n) * (4294967296 + n) : Int) / (4294967296 * 4294967296)):=by
    have e3:=congrArg (fun z=>z - Rl.fx n * Rl.fx n) e
    simp only [Rl.add_sub_cancel] at e3
    rw [e3,Rl.fx_mul,← Rl.q_sub]
    congr 1
    push_cast
    grind
  have fr : Rl.q 0 ≤ Rl.fx r:=by rw [← Rl.fx_zero]; exact Rl.fx_le.2 h0
  constructor
  · intro h
    refine Rl.le_of_sq ?_ hv
    rw [e2,Rl.fx_mul]
    refine Rl.q_le.2 ?_
    have:=Rl.cast_le h
    push_cast at this ⊢
    grind
  · intro h
    refine Rl.le_of_sq ?_ fr
    rw [e2,Rl.fx_mul]
    refine Rl.q_le.2 ?_
    have:=Rl.cast_le h
    push_cast at this ⊢
    grind
theorem tCircleS {n : I64} {v : Rl.R} (hv : Rl.q 0 ≤ v) (e : v * v + Rl.fx n.val * Rl.fx n.val = Rl.q 1) : Tr (S_CircleAt n) v:=by
  unfold S_CircleAt S_Whole S_WideMul
  simp only [bindP_e]
  cases hi : S_l00In n (c64 (-4294967296)) (c64 4294967296) with
  | false=>simp only [Bool.not_false,cond_t]; exact tWhole _
  | true=>
    simp only [Bool.not_true,cond_f]
    rw [sp_in] at hi
    simp only [c64_v,Bool.and_eq_true,decide_eq_true_eq] at hi
    have w1 : (w64 (4294967296 - n.val)).val = 4294967296 - n.val:=by rw [w64_val]; omega
    have w2 : (w64 (4294967296 + n.val)).val = 4294967296 + n.val:=by rw [w64_val]; omega
    obtain ⟨r,hr,r0,r1,r2,r3⟩:=Sqrt_val (a:=w64 (4294967296 - n.val)) (b:=w64 (4294967296 + n.val)) (by omega) (by omega)
    rw [hr]
    rw [w1,w2] at r2 r3
    have top : (4294967296 - n.val) * (4294967296 + n.val) ≤ 8589934592 * 8589934592:=Int.mul_le_mul (by omega) (by omega) (by omega) (by decide)
    have rb : r.val ≤ 8589934592:=(le_of_sqI (Int.le_trans r2 top) (by decide)).1
    have wr : (w64 (r.val + 1)).val = r.val + 1:=by rw [w64_val]; omega
    have z1:=sp_Mul r r
    have z2:=sp_Mul (w64 (4294967296 - n.val)) (w64 (4294967296 + n.val))
    rw [w1,w2] at z2
    have lo:=(circle_num n.val r.val v r0 hv e).1 r2
    have up:=(circle_num n.val (r.val + 1) v (by omega) hv e).2 (by omega)
    simp only []
    generalize S_l02Mul r r = a at *
    generalize S_l02Mul (w64 (4294967296 - n.val)) (w64 (4294967296 + n.val)) = b at *
    cases hc : (a.hi.val == b.hi.val && a.lo.val == b.lo.val) with
    | false=>
      simp only [Bool.not_false,cond_t]
      exact fun _=>⟨lo,by show v ≤ Rl.fx (w64 (r.val + 1)).val; rw [wr]; exact up⟩
    | true=>
      simp only [Bool.not_true,cond_f]
      simp only [Bool.and_eq_true,beq_iff_eq] at hc
      have ez : a.z = b.z:=by
        show a.hi.val * 18446744073709551616 + a.lo.val = b.hi.val * 18446744073709551616 + b.lo.val
        rw [hc.1,hc.2]
      exact fun _=>⟨lo,(circle_num n.val r.val v r0 hv e).2 (by omega)⟩
theorem q_one_mul (r : Rat) (n : I64) (h : r * (n.val : Rat) = 1) : Rl.q r * Rl.q n.val = Rl.q (c64 1).val:=by
  rw [← Rl.q_mul,h,c64_v]
  congr 1
theorem tFrac (n : I64) (r : Rat) (h0 : 0 < n.val) (h : r * (n.val : Rat) = 1) : Tr (S_Quotient (c64 1) n) (Rl.q r):=
  tQuotS (by decide) h0 (q_one_mul r n h)
theorem tArcSeriesS {a : Iv} {x t : Rl.R} (ha : Tr a x) (h1 : -Rl.hp < t) (h2 : t < Rl.hp) (e : Rl.sn t = x * Rl.cn t) : Tr (S_ArcSeries a) t:=by
  unfold S_ArcSeries S_Whole
  simp only [bindP_e]
  cases hi : S_InsideI a (⟨c64 (-1073741824),c64 1073741824⟩ : Iv) with
  | false=>simp only [Bool.not_false,cond_t]; exact tWhole _
  | true=>
    simp only [Bool.not_true,cond_f]
    have hb : S_l04Ok a = true ∧ -1073741824 ≤ a.lo.val ∧ a.hi.val ≤ 1073741824:=by
      unfold S_InsideI at hi
      have o : S_l04Ok (⟨c64 (-1073741824),c64 1073741824⟩ : Iv) = true:=by decide
      simp only [bindP_e,o,Bool.not_true,cond_f] at hi
      cases hk : S_l04Ok a with
      | false=>rw [hk] at hi; cases hi
      | true=>
        rw [hk] at hi
        simp only [cond_t,c64_v] at hi
        by_cases c : -1073741824 ≤ a.lo.val
        · rw [decide_eq_true c] at hi
          simp only [cond_t,decide_eq_true_eq] at hi
          exact ⟨rfl,c,hi⟩
        · rw [decide_eq_false c] at hi; cases hi
    obtain ⟨h3,h4,h5⟩:=hb
    have A:=ha h3
    have hx : Rl.Ab x (Rl.q (1/4)):=by
      have k1:=Rl.le_trans (Rl.fx_le.2 h4) A.1
      have k2:=Rl.le_trans A.2 (Rl.fx_le.2 h5)
      rw [show Rl.fx (-1073741824) = -Rl.q (1/4) from by rw [← Rl.q_neg,Rl.fx_q]; congr 1; decide +kernel] at k1
      rw [show Rl.fx 1073741824 = Rl.q (1/4) from by rw [Rl.fx_q]; congr 1; decide +kernel] at k2
      exact ⟨k1,k2⟩
    have hy:=tSqrS ha
    have S:=tMulS ha (tSubS (tFrac (c64 1) 1 (by decide) (by decide +kernel)) (tMulS hy (tSubS (tFrac (c64 3) (1/3) (by decide) (by decide +kernel)) (tMulS hy (tSubS (tFrac (c64 5) (1/5) (by decide) (by decide +kernel)) (tMulS hy (tSubS (tFrac (c64 7) (1/7) (by decide) (by decide +kernel)) (tMulS hy (tSubS (tFrac (c64 9) (1/9) (by decide) (by decide +kernel)) (tMulS hy (tSubS (tFrac (c64 11) (1/11) (by decide) (by decide +kernel)) (tMulS hy (tSubS (tFrac (c64 13) (1/13) (by decide) (by decide +kernel)) (tMulS hy (tSubS (tFrac (c64 15) (1/15) (by decide) (by decide +kernel)) (tMulS hy (tSubS (tFrac (c64 17) (1/17) (by decide) (by decide +kernel)) (tMulS hy (tSubS (tFrac (c64 19) (1/19) (by decide) (by decide +kernel)) (tMulS hy (tFrac (c64 21) (1/21) (by decide) (by decide +kernel))))))))))))))))))))))
    have S2:=tAddS S (tTiny (d:=t - Rl.pol Rl.aC x) (by
      have:=(Rl.atan_series h1 h2 e hx).neg
      rwa [Rl.neg_sub] at this))
    have e2:=Rl.hat_pol x
    change x * (Rl.q 1 - x * x * (Rl.q (1/3) - x * x * (Rl.q (1/5) - x * x * (Rl.q (1/7) - x * x * (Rl.q (1/9) - x * x * (Rl.q (1/11) - x * x * (Rl.q (1/13) - x * x * (Rl.q (1/15) - x * x * (Rl.q (1/17) - x * x * (Rl.q (1/19) - x * x * Rl.q (1/21))))))))))) = _ at e2
    rw [e2,add_sub_self] at S2
    exact S2
theorem tHalveS {a : Iv} {x s z : Rl.R} (ha : Tr a x) (hs : Rl.q 0 ≤ s) (es : s * s = Rl.q 1 + x * x) (ez : z * (Rl.q 1 + s) = x) : Tr (S_l07Halve a) z:=by
  unfold S_l07Halve
  simp only [bindP_e]
  exact tDivS ha (tAddS tOneS (tSqrtS (tAddS tOneS (tSqrS ha)) hs es)) ez
theorem tCoreS {a : Iv} {x t : Rl.R} (ha : Tr a x) (h1 : -Rl.hp < t) (h2 : t < Rl.hp) (e : Rl.sn t = x * Rl.cn t) : Tr (S_l07Core a) t:=by
  unfold S_l07Core
  simp only [bindP_e]
  obtain ⟨s,z,s0,es,ez⟩:=Rl.root_z x
  obtain ⟨b1,b2⟩:=Rl.half_lt_hp h1 h2
  have e2:=Rl.tan_half h1 h2 e s0 es ez
  have Z:=tHalveS ha s0 es ez
  obtain ⟨s',z',s0',es',ez'⟩:=Rl.root_z z
  obtain ⟨c1,c2⟩:=Rl.half_lt_hp b1 b2
  have e3:=Rl.tan_half b1 b2 e2 s0' es' ez'
  have Z':=tHalveS Z s0' es' ez'
  have D:=tDoubleS (tDoubleS (tArcSeriesS Z' c1 c2 e3))
  rwa [Rl.half_two,Rl.half_two] at D
theorem Quarter_tr {t : Rl.R} (h1 : -Rl.hp ≤ t) (h2 : t ≤ Rl.hp) : Tr S_l07Quarter t:=by
  intro _
  have p1 : (Rl.hp ≤ Rl.fx (S_l05Turn (c64 1)).hi.val):=by
    obtain ⟨z,e1,e2,e3,_⟩:=Turn_in (c64 1) (by decide)
    have e4 : S_TurnI (c64 1) = S_l05Turn (c64 1):=by
      unfold S_TurnI
      have : S_l00In (c64 1) (c64 (-4096)) (c64 4096) = true:=by decide
      simp only [bindP_e,this,Bool.not_true,cond_f]
    rw [← e4,e1]
    have:=e3.2
    rwa [c64_v,Rl.kh_one] at this
  have e : S_l07Quarter = ⟨w64 (0 - (S_l05Turn (c64 1)).hi.val),(S_l05Turn (c64 1)).hi⟩:=by
    unfold S_l07Quarter
    simp only [bindP_e]
  rw [e]
  have v:=Turn1_hi
  constructor
  · show Rl.fx (w64 (0 - (S_l05Turn (c64 1)).hi.val)).val ≤ t
    rw [show (w64 (0 - (S_l05Turn (c64 1)).hi.val)).val = -(S_l05Turn (c64 1)).hi.val from by rw [w64_val,v]; decide,Rl.fx_neg]
    exact Rl.le_trans (Rl.neg_le_neg p1) h1
  · exact Rl.le_trans h2 p1
theorem tAtanPos {n : I64} (hn : 0 ≤ n.val) (fu : Nat) {t : Rl.R} (h1 : -Rl.hp < t) (h2 : t < Rl.hp) (e : Rl.sn t = Rl.fx n.val * Rl.cn t) : Tr (S_AtanAt_r (fu + 1) n) t:=by
  unfold S_AtanAt_r S_AtanAt_b
  simp only [bindP_e]
  cases hf : S_l07Fix n with
  | false=>simp only [Bool.not_false,cond_t]; exact Quarter_tr (Rl.le_of_lt h1) (Rl.le_of_lt h2)
  | true=>
    simp only [Bool.not_true,cond_f,decide_eq_false (show ¬ n.val < 0 by omega)]
    by_cases hg : n.val > 4294967296
    · simp only [decide_eq_true hg,cond_t]
      have np : Rl.q 0 < Rl.fx n.val:=Rl.fx_pos (by omega)
      have tp:=Rl.tan_pos h1 h2 e np
      obtain ⟨i,hi,i0⟩:=Rl.inv_ex np
      have D : Tr (S_DivI (S_Integer (c64 1)) (S_l05At n)) i:=tDivS tOneS (tAtS n) (by rw [Rl.mul_comm]; exact hi)
      have k1 : -Rl.hp < Rl.hp - t:=by
        refine Rl.lt_trans Rl.neg_hp_lt ?_
        intro k
        refine h2 ?_
        have:=Rl.add_le_add k (Rl.le_refl t)
        rwa [Rl.sub_add_cancel,Rl.zero_add] at this
      have k2 : Rl.hp - t < Rl.hp:=by
        intro k
        refine tp ?_
        have:=Rl.sub_le_sub (Rl.le_refl Rl.hp) k
        rwa [Rl.sub_self,show Rl.hp - (Rl.hp - t) = t from Rl.sub_sub_self _ _] at this
      have e3 : Rl.sn (Rl.hp - t) = i * Rl.cn (Rl.hp - t):=by
        rw [Rl.sn_hp_sub,Rl.cn_hp_sub,e,← Rl.mul_assoc,Rl.mul_comm i,hi,Rl.one_mul]
      have C:=tSubS (tTurnS (c64 1)) (tCoreS D k1 k2 e3)
      rwa [c64_v,Rl.kh_one,Rl.sub_sub_self] at C
    · simp only [decide_eq_false hg,cond_f]
      exact tCoreS (tAtS n) h1 h2 e
theorem neg_lt_hp {t : Rl.R} (h1 : -Rl.hp < t) (h2 : t < Rl.hp) : -Rl.hp < -t ∧ -t < Rl.hp:=⟨Rl.neg_lt h2,by have:=Rl.neg_lt h1; rwa [Rl.neg_neg] at this⟩
theorem tAtanAtS {n : I64} {t : Rl.R} (h1 : -Rl.hp < t) (h2 : t < Rl.hp) (e : Rl.sn t = Rl.fx n.val * Rl.cn t) : Tr (S_AtanAt n) t:=by
  unfold S_AtanAt
  by_cases hn : 0 ≤ n.val
  · exact tAtanPos hn 1 h1 h2 e
  · unfold S_AtanAt_r S_AtanAt_b
    simp only [bindP_e]
    cases hf : S_l07Fix n with
    | false=>simp only [Bool.not_false,cond_t]; exact Quarter_tr (Rl.le_of_lt h1) (Rl.le_of_lt h2)
    | true=>
      obtain ⟨o1,o2⟩:=open_val hf
      simp only [Bool.not_true,cond_f,decide_eq_true (show n.val < 0 by omega),cond_t]
      have w : (w64 (0 - n.val)).val = -n.val:=by rw [w64_val]; omega
      obtain ⟨k1,k2⟩:=neg_lt_hp h1 h2
      have P:=tNegS (tAtanPos (n:=w64 (0 - n.val)) (by omega) 0 k1 k2 (by rw [Rl.sn_neg,Rl.cn_neg,w,Rl.fx_neg,e,Rl.neg_mul]))
      rwa [Rl.neg_neg] at P
theorem tAtanS {a : Iv} {x t : Rl.R} (ha : Tr a x) (h1 : -Rl.hp < t) (h2 : t < Rl.hp) (e : Rl.sn t = x * Rl.cn t) : Tr (S_AtanI a) t:=by
  unfold S_AtanI S_IsWhole
  simp only [bindP_e]
  cases ho : S_l04Ok a with
  | false=>simp only [Bool.not_false,cond_t]; exact Quarter_tr (Rl.le_of_lt h1) (Rl.le_of_lt h2)
  | true=>
    simp only [Bool.not_true,cond_f]
    have A:=ha ho
    obtain ⟨u,u1,u2,ue⟩:=Rl.tan_ex (Rl.fx a.lo.val)
    obtain ⟨v,v1,v2,ve⟩:=Rl.tan_ex (Rl.fx a.hi.val)
    exact tHullL (tAtanAtS u1 u2 ue) (tAtanAtS v1 v2 ve) (.inl (Rl.tan_mono u1 u2 ue h1 h2 e A.1)) (.inr (Rl.tan_mono h1 h2 e v1 v2 ve A.2))
theorem tAsinAtS {n : I64} {t : Rl.R} (h1 : -Rl.hp ≤ t) (h2 : t ≤ Rl.hp) (e : Rl.sn t = Rl.fx n.val) : Tr (S_AsinAt n) t:=by
  unfold S_AsinAt S_Whole
  simp only [bindP_e]
  cases hi : S_l00In n (c64 (-4294967296)) (c64 4294967296) with
  | false=>simp only [Bool.not_false,cond_t]; exact tWhole _
  | true=>
    simp only [Bool.not_true,cond_f]
    obtain ⟨c,z,c0,ec,ez⟩:=Rl.circle_z (Rl.sn_le t)
    rw [e] at ec ez
    have e2:=Rl.sin_half h1 h2 e c0 ec ez
    obtain ⟨b1,b2⟩:=Rl.half_hp h1 h2
    have D:=tDoubleS (tAtanS (tDivS (tAtS n) (tAddS tOneS (tCircleS c0 ec)) ez) b1 b2 e2)
    rw [Rl.half_two] at D
    exact (MeetI_tr D (Quarter_tr h1 h2)).2
theorem tAsinS {a : Iv} {t : Rl.R} (ha : Tr a (Rl.sn t)) (h1 : -Rl.hp ≤ t) (h2 : t ≤ Rl.hp) : Tr (S_AsinI a) t:=by
  obtain ⟨m1,m2⟩:=MeetI_tr ha (tRing (Rl.sn_le t))
  unfold S_AsinI S_Whole
  simp only [bindP_e,m1,Bool.not_true,cond_f]
  have mo : S_l04Ok (S_MeetI a S_l06Ring).1 = true ∧ -4294967296 ≤ (S_MeetI a S_l06Ring).1.lo.val ∧ (S_MeetI a S_l06Ring).1.lo.val ≤ 4294967296 ∧ -4294967296 ≤ (S_MeetI a S_l06Ring).1.hi.val ∧ (S_MeetI a S_l06Ring).1.hi.val ≤ 4294967296:=by
    unfold S_MeetI at m1 ⊢
    have o : S_l04Ok S_l06Ring = true:=by decide
    have r1 : S_l06Ring.lo.val = -4294967296:=by decide
    have r2 : S_l06Ring.hi.val = 4294967296:=by decide
    simp only [bindP_e,o,Bool.not_true,cond_f] at m1 ⊢
    cases ho : S_l04Ok a with
    | false=>simp only [Bool.not_false,cond_t]; rw [r1,r2,o]; decide
    | true=>
      rw [ho] at m1
      simp only [Bool.not_true,cond_f] at m1 ⊢
      by_cases c : (S_l00Max a.lo S_l06Ring.lo).val > (S_l00Min a.hi S_l06Ring.hi).val
      · rw [decide_eq_true c,cond_t] at m1; cases m1
      · rw [decide_eq_false c,cond_f]
        have x1:=max_out a.lo S_l06Ring.lo
        have x2:=min_out a.hi S_l06Ring.hi
        simp only []
        generalize S_l00Max a.lo S_l06Ring.lo = p at *
        generalize S_l00Min a.hi S_l06Ring.hi = r at *
        refine ⟨Ok4_of ?_,by omega,by omega,by omega,by omega⟩
        show -1152921504606846976 < p.val ∧ p.val ≤ r.val ∧ r.val < 1152921504606846976
        omega
  obtain ⟨mo,b1,b2,b3,b4⟩:=mo
  have M:=m2 mo
  generalize (S_MeetI a S_l06Ring).1 = y at *
  have f : ∀ n : Int,-4294967296 ≤ n → n ≤ 4294967296 → ∃ u,-Rl.hp ≤ u ∧ u ≤ Rl.hp ∧ Rl.sn u = Rl.fx n:=fun n h h'=>Rl.arc_ex (by rw [← Rl.fx_one,← Rl.fx_neg]; exact Rl.fx_le.2 h) (by rw [← Rl.fx_one]; exact Rl.fx_le.2 h')
  obtain ⟨u,u1,u2,ue⟩:=f _ b1 b2
  obtain ⟨v,v1,v2,ve⟩:=f _ b3 b4
  refine tHullL (tAsinAtS u1 u2 ue) (tAsinAtS v1 v2 ve) (.inl ((Rl.sn_le_iff u1 h2 u2 h1).1 (by rw [ue]; exact M.1))) (.inr ((Rl.sn_le_iff h1 v2 h2 v1).1 (by rw [ve]; exact M.2)))
end Go.Proofs.YtcdkepbgjgcjfaaGreat.Abs
