/- Plain laws of the functions on numbers: what the program computes is what the reference computes. -/
import Derived.Test.YtfhnlkinjbakgaaGreatMsQabcdef
import Derived.Test.YtfhnlkinjbakgaaGreatMsF4
set_option linter.unusedVariables false
set_option linter.unusedSimpArgs false
namespace Go.Proofs.YtfhnlkinjbakgaaGreat.Abs
open Go
theorem Plus_z (a b : Wd) : ∃ k : Int,(S_l02Plus a b).z = a.z + b.z + k * 340282366920938463463374607431768211456:=by
  have h1:=a.lo.lo
  have h2:=a.lo.hi
  have h3:=b.lo.lo
  have h4:=b.lo.hi
  unfold S_l02Plus
  by_cases h : (wu64 (a.lo.val + b.lo.val)).val < a.lo.val
  · simp only [h,decide_true,cond_true]
    simp only [wu64_val] at h
    simp only [Wd.z,w64_val,wu64_val]
    refine ⟨((((a.hi.val + b.hi.val + 9223372036854775808) % 18446744073709551616 - 9223372036854775808 + 1 + 9223372036854775808) % 18446744073709551616 - 9223372036854775808) - (a.hi.val + b.hi.val + 1)) / 18446744073709551616,?_⟩
    omega
  · simp only [h,decide_false,cond_false]
    simp only [wu64_val] at h
    simp only [Wd.z,w64_val,wu64_val]
    refine ⟨(((a.hi.val + b.hi.val + 9223372036854775808) % 18446744073709551616 - 9223372036854775808) - (a.hi.val + b.hi.val)) / 18446744073709551616,?_⟩
    omega
theorem Of_minus : (S_l02Of (c64 (-1))).z = -1:=by decide
theorem adc_z (h l : U64) : ∃ k : Int,Wd.z ⟨w64 (wu64 (h.val + (adc_hi l (cu64 1) (cu64 0)).val)).val,adc_lo l (cu64 1) (cu64 0)⟩ = Wd.z ⟨w64 h.val,l⟩ + 1 + k * 340282366920938463463374607431768211456:=by
  have h1:=l.lo
  have h2:=l.hi
  have h3:=h.lo
  have h4:=h.hi
  simp only [Wd.z,w64_val,wu64_val,adc_lo_val,adc_hi_val,cu64_val]
  refine ⟨((((h.val + (l.val + 1 + 0) / 18446744073709551616) % 18446744073709551616 + 9223372036854775808) % 18446744073709551616 - 9223372036854775808) - ((h.val + 9223372036854775808) % 18446744073709551616 - 9223372036854775808) - (l.val + 1 + 0) / 18446744073709551616) / 18446744073709551616,?_⟩
  omega
theorem eq_WideDiv (w : Wd) (d : I64) (hd : 0 < d.val) : I_WideDiv w d = ((S_l02Div w d).1,(S_l02Div w d).2,true):=by
  have hdh:=d.hi
  have hwd : 0 < (wu64 d.val).val:=by rw [wu64_val]; omega
  have hn : ¬ d.val ≤ 0:=by omega
  unfold I_WideDiv S_l02Div
  simp only [hn,decide_false,cond_false,bindP_eq,eq_negative]
  rw [eq_divided _ _ _ hwd,eq_divided _ _ _ hwd]
  by_cases h : w.hi.val ≥ 0
  · simp only [h,decide_true,cond_true]
  · simp only [h,decide_false,cond_false]
    generalize S_l02Divide (wu64 (S_l02Minus w).hi.val) (S_l02Minus w).lo (wu64 d.val) = p
    obtain ⟨qh,q,r⟩:=p
    simp only
    cases hr : (r.val == 0) with
    | true=>rfl
    | false=>
      simp only [cond_false]
      have e : S_l02Minus ⟨w64 (wu64 (qh.val + (adc_hi q (cu64 1) (cu64 0)).val)).val,adc_lo q (cu64 1) (cu64 0)⟩ = S_l02Plus (S_l02Minus ⟨w64 qh.val,q⟩) (S_l02Of (c64 (-1))):=by
        refine Wd.z_mod ?_
        obtain ⟨k1,e1⟩:=Minus_z ⟨w64 (wu64 (qh.val + (adc_hi q (cu64 1) (cu64 0)).val)).val,adc_lo q (cu64 1) (cu64 0)⟩
        obtain ⟨k2,e2⟩:=adc_z qh q
        obtain ⟨k3,e3⟩:=Plus_z (S_l02Minus ⟨w64 qh.val,q⟩) (S_l02Of (c64 (-1)))
        obtain ⟨k4,e4⟩:=Minus_z ⟨w64 qh.val,q⟩
        refine ⟨k1 - k2 - k3 - k4,?_⟩
        rw [e1,e2,e3,e4,Of_minus]
        omega
      rw [e]
theorem WideDiv_neg (w : Wd) (d : I64) (hd : d.val ≤ 0) : I_WideDiv w d = (⟨c64 0,cu64 0⟩,c64 0,false):=by
  unfold I_WideDiv
  simp only [hd,decide_true,cond_true]
theorem eq_MulDivFloor (a b d : I64) : I_MulDivFloor a b d = S_MulDivFloor a b d:=by
  unfold I_MulDivFloor S_MulDivFloor
  simp only [bindP_eq,eq_WideMul,eq_WideInt]
  by_cases h : d.val ≤ 0
  · rw [WideDiv_neg _ _ h]
    simp only [h,decide_true,cond_true]
    rfl
  · rw [eq_WideDiv _ _ (by omega)]
    simp only [h,decide_false,cond_false]
    rfl
theorem sp_Div (w : Wd) (d : I64) (hd : 0 < d.val) (h1 : -85070591730234615865843651857942052864 ≤ w.z) (h2 : w.z ≤ 85070591730234615865843651857942052864) :
    (S_l02Div w d).1.z * d.val + (S_l02Div w d).2.val = w.z ∧ 0 ≤ (S_l02Div w d).2.val ∧ (S_l02Div w d).2.val < d.val:=by
  have hdh:=d.hi
  have hwd : (wu64 d.val).val = d.val:=by rw [wu64_val]; omega
  have key : ∀ v : Wd,v.hi.val ≥ 0 → ∃ q r : U64,S_l02Divide (wu64 v.hi.val) v.lo (wu64 d.val) = (wu64 (Int.tdiv (wu64 v.hi.val).val (wu64 d.val).val),q,r) ∧ Wd.z ⟨w64 (wu64 (Int.tdiv (wu64 v.hi.val).val (wu64 d.val).val)).val,q⟩ * d.val + r.val = v.z ∧ r.val < d.val ∧ 0 ≤ Wd.z ⟨w64 (wu64 (Int.tdiv (wu64 v.hi.val).val (wu64 d.val).val)).val,q⟩:=fun v hv=>by
    have hvh:=v.hi.hi
    obtain ⟨q,r,e1,e2,e3⟩:=sp_Divide (wu64 v.hi.val) v.lo (wu64 d.val) (by omega)
    have hvv : (wu64 v.hi.val).val = v.hi.val:=by rw [wu64_val]; omega
    rw [hvv,hwd] at e2
    rw [hwd] at e3
    have e4:=Int.emod_add_mul_ediv v.hi.val d.val
    have q0 : 0 ≤ v.hi.val / d.val:=Int.ediv_nonneg hv (by omega)
    have q1 : v.hi.val / d.val ≤ v.hi.val:=Int.ediv_le_self _ hv
    have eq1 : (wu64 (Int.tdiv (wu64 v.hi.val).val (wu64 d.val).val)).val = v.hi.val / d.val:=by
      rw [hvv,hwd,Int.tdiv_eq_ediv_of_nonneg hv,wu64_val]
      omega
    have eq2 : (w64 (wu64 (Int.tdiv (wu64 v.hi.val).val (wu64 d.val).val)).val).val = v.hi.val / d.val:=by
      rw [eq1,w64_val]
      omega
    refine ⟨q,r,e1,?_,e3,?_⟩
    · simp only [Wd.z,eq2]
      rw [Int.add_mul]
      have : v.hi.val / d.val * 18446744073709551616 * d.val = d.val * (v.hi.val / d.val) * 18446744073709551616:=by rw [Int.mul_assoc,Int.mul_comm 18446744073709551616,← Int.mul_assoc,Int.mul_comm (v.hi.val / d.val)]
      rw [this]
      omega
    · simp only [Wd.z,eq2]
      have:=q.lo
      omega
  unfold S_l02Div
  simp only [bindP_eq]
  by_cases h : w.hi.val ≥ 0
  · simp only [h,decide_true,cond_true]
    obtain ⟨q,r,e1,e2,e3,_⟩:=key w h
    rw [e1]
    have r0:=r.lo
    have er : (w64 r.val).val = r.val:=by rw [w64_val]; omega
    rw [er]
    exact ⟨e2,r0,e3⟩
  · simp only [h,decide_false,cond_false]
    obtain ⟨k,hk⟩:=Minus_z w
    have mz : (S_l02Minus w).z = -w.z ∧ (S_l02Minus w).hi.val ≥ 0:=by
      have a1:=(S_l02Minus w).lo.lo
      have a2:=(S_l02Minus w).lo.hi
      have a3:=(S_l02Minus w).hi.lo
      have a4:=(S_l02Minus w).hi.hi
      have b1:=w.lo.lo
      have b2:=w.lo.hi
      simp only [Wd.z] at hk h1 h2 ⊢
      omega
    obtain ⟨q,r,e1,e2,e3,e4⟩:=key _ mz.2
    rw [e1]
    have r0:=r.lo
    have er : (w64 r.val).val = r.val:=by rw [w64_val]; omega
    simp only [er]
    generalize hX : (⟨w64 (wu64 (Int.tdiv (wu64 (S_l02Minus w).hi.val).val (wu64 d.val).val)).val,q⟩ : Wd) = X at *
    have Xle : X.z ≤ 85070591730234615865843651857942052864:=by
      have:=Int.mul_le_mul_of_nonneg_left (by omega : (1 : Int) ≤ d.val) e4
      omega
    have nz : (S_l02Minus X).z = -X.z:=by
      obtain ⟨k2,hk2⟩:=Minus_z X
      have a1:=(S_l02Minus X).lo.lo
      have a2:=(S_l02Minus X).lo.hi
      have a3:=(S_l02Minus X).hi.lo
      have a4:=(S_l02Minus X).hi.hi
      generalize S_l02Minus X = Y at *
      have : Y.z = Y.hi.val * 18446744073709551616 + Y.lo.val:=rfl
      omega
    cases hr : (r.val == 0) with
    | true=>
      have hr' : r.val = 0:=by simpa using hr
      simp only [cond_true,c64_val]
      rw [nz,Int.neg_mul]
      omega
    | false=>
      have hr' : r.val ≠ 0:=by simpa using hr
      simp only [cond_false]
      have dz : (w64 (d.val - r.val)).val = d.val - r.val:=by rw [w64_val]; omega
      have pz : (S_l02Plus (S_l02Minus X) (S_l02Of (c64 (-1)))).z = -X.z - 1:=by
        obtain ⟨k3,hk3⟩:=Plus_z (S_l02Minus X) (S_l02Of (c64 (-1)))
        rw [nz,Of_minus] at hk3
        generalize S_l02Plus (S_l02Minus X) (S_l02Of (c64 (-1))) = Y at *
        have a1:=Y.lo.lo
        have a2:=Y.lo.hi
        have a3:=Y.hi.lo
        have a4:=Y.hi.hi
        have : Y.z = Y.hi.val * 18446744073709551616 + Y.lo.val:=rfl
        omega
      rw [dz,pz,Int.sub_mul,Int.neg_mul,Int.one_mul]
      omega
theorem sp_Int (w : Wd) : (∃ n : I64,n.val = w.z ∧ S_l02Int w = (n,true)) ∨ S_l02Int w = (c64 0,false):=by
  have h1:=w.lo.lo
  have h2:=w.lo.hi
  unfold S_l02Int
  simp only [bindP_eq]
  by_cases h : ((S_l02Of (w64 w.lo.val)).hi.val == w.hi.val && (S_l02Of (w64 w.lo.val)).lo.val == w.lo.val) = true
  · left
    refine ⟨w64 w.lo.val,?_,by rw [h]; rfl⟩
    simp only [Bool.and_eq_true,beq_iff_eq] at h
    have e:=h.1
    unfold S_l02Of at e
    simp only [Wd.z,w64_val]
    by_cases hn : (w64 w.lo.val).val < 0
    · simp only [hn,decide_true,cond_true,c64_val] at e
      rw [w64_val] at hn
      omega
    · simp only [hn,decide_false,cond_false,c64_val] at e
      rw [w64_val] at hn
      omega
  · right
    have : ((S_l02Of (w64 w.lo.val)).hi.val == w.hi.val && (S_l02Of (w64 w.lo.val)).lo.val == w.lo.val) = false:=by simpa using h
    rw [this]
    rfl
theorem End_out (a : I64) (h : a.val < -1152921504606846976 ∨ 1152921504606846976 < a.val) : S_l03End a true = (c64 0,false):=by
  unfold S_l03End
  have : S_l03Ok a = false:=by
    rw [sp_Ok3]
    simp
    omega
  simp [bindP_eq,this]
theorem MulDivFloor_neg (a b d : I64) (h : d.val ≤ 0) : S_MulDivFloor a b d = (c64 0,false):=by
  unfold S_MulDivFloor
  simp only [h,decide_true,cond_true]
theorem eq_FixFloor (a d : I64) : I_FixFloor a d = S_l03Floor a d:=by
  unfold I_FixFloor S_l03Floor
  simp only [bindP_eq,eq_MulDivFloor,eq_fixed]
  by_cases h : d.val ≤ 0
  · simp only [h,decide_true,cond_true]
    rw [MulDivFloor_neg _ _ _ h]
    rfl
  · simp only [h,decide_false,cond_false]
theorem eq_FixCeil (a d : I64) : I_FixCeil a d = S_l03Ceil a d:=by
  unfold I_FixCeil S_l03Ceil I_mulDivCeil
  simp only [bindP_eq,eq_fixed,eq_WideMul,eq_WideInt]
  by_cases h : d.val ≤ 0
  · rw [WideDiv_neg _ _ h]
    simp only [h,decide_true,cond_true]
    rfl
  · have hd : 0 < d.val:=by omega
    have dh:=d.hi
    have ah:=a.hi
    have al:=a.lo
    rw [eq_WideDiv _ _ hd]
    simp only [h,decide_false,cond_false,Bool.not_true]
    unfold S_MulDivFloor
    simp only [h,decide_false,cond_false,bindP_eq]
    have hz:=sp_Mul a (c64 4294967296)
    rw [c64_val] at hz
    obtain ⟨e1,e2,e3⟩:=sp_Div (S_l02Mul a (c64 4294967296)) d hd (by rw [hz]; omega) (by rw [hz]; omega)
    rw [hz] at e1
    generalize S_l02Div (S_l02Mul a (c64 4294967296)) d = p at *
    obtain ⟨q,r⟩:=p
    simp only at *
    rcases sp_Int q with ⟨n,hn,hq⟩ | hq
    · rw [hq]
      rw [← hn] at e1
      simp only [Bool.not_true,cond_false]
      have nl:=n.lo
      have nh:=n.hi
      by_cases hr : r.val = 0
      · have hb : decide (r.val > 0) = false:=by simp [hr]
        have hne : ((w64 (n.val * d.val)).val != (w64 (a.val * 4294967296)).val) = false:=by
          have : n.val * d.val = a.val * 4294967296:=by omega
          simp [this]
        simp only [hb,hne,cond_false]
      · have hb : decide (r.val > 0) = true:=by simp; omega
        have hne : ((w64 (n.val * d.val)).val != (w64 (a.val * 4294967296)).val) = true:=by
          have : n.val * d.val = a.val * 4294967296 - r.val:=by omega
          rw [this]
          simp only [w64_val,bne_iff_ne,ne_eq]
          omega
        simp only [hb,hne,cond_true]
        by_cases hx : n.val = 9223372036854775807
        · have hx' : (n.val == 9223372036854775807) = true:=by simpa using hx
          rw [hx',cond_true]
          have ev : (w64 (n.val + 1)).val = -9223372036854775808:=by rw [w64_val]; omega
          rw [End_out (w64 (n.val + 1)) (by rw [ev]; omega)]
          rfl
        · have hx' : (n.val == 9223372036854775807) = false:=by simpa using hx
          rw [hx',cond_false]
    · rw [hq]
      rfl
theorem make_pair (p q : I64 × Bool) : (bif p.2 then I_bounded p.1 q.1 q.2 else I_bounded p.1 q.1 false) = (bif (!p.2) then S_l04Whole else (bif (!q.2) then S_l04Whole else S_l04Make p.1 q.1)):=by
  obtain ⟨a,b⟩:=p
  obtain ⟨c,d⟩:=q
  cases b with
  | false=>rfl
  | true=>
    cases d with
    | false=>rfl
    | true=>exact eq_bounded a c
theorem eq_Quotient (a b : I64) : I_Quotient a b = S_Quotient a b:=by
  unfold I_Quotient S_Quotient
  simp only [bindP_eq,eq_FixFloor,eq_FixCeil,make_pair,eq_Whole]
  have al:=a.lo
  have ah:=a.hi
  have bl:=b.lo
  have bh:=b.hi
  by_cases h : b.val < 0
  · simp only [h,decide_true,cond_true]
    by_cases h1 : a.val = -9223372036854775808
    · have e1 : (a.val == -9223372036854775808) = true:=by simpa using h1
      have e2 : ((w64 (0 - a.val)).val == -9223372036854775808) = true:=by
        have : (w64 (0 - a.val)).val = -9223372036854775808:=by rw [w64_val]; omega
        simpa using this
      rw [e1,e2]
      simp only [cond_true]
      cases decide ((w64 (0 - b.val)).val < 0) <;> rfl
    · have e1 : (a.val == -9223372036854775808) = false:=by simpa using h1
      have e2 : ((w64 (0 - a.val)).val == -9223372036854775808) = false:=by
        have : (w64 (0 - a.val)).val ≠ -9223372036854775808:=by rw [w64_val]; omega
        simpa using this
      rw [e1,e2]
      simp only [cond_false]
      by_cases h2 : b.val = -9223372036854775808
      · have e3 : (b.val == -9223372036854775808) = true:=by simpa using h2
        have e4 : decide ((w64 (0 - b.val)).val < 0) = true:=by
          have : (w64 (0 - b.val)).val < 0:=by rw [w64_val]; omega
          simpa using this
        simp only [e3,e4,cond_true,cond_false]
      · have e3 : (b.val == -9223372036854775808) = false:=by simpa using h2
        have e4 : decide ((w64 (0 - b.val)).val < 0) = false:=by
          have : ¬ (w64 (0 - b.val)).val < 0:=by rw [w64_val]; omega
          simpa using this
        simp only [e3,e4,cond_true,cond_false]
  · simp only [h,decide_false,cond_false]
theorem Ok4 {a : Iv} (h : S_l04Ok a = true) : -1152921504606846976 < a.lo.val ∧ a.lo.val ≤ a.hi.val ∧ a.hi.val < 1152921504606846976:=by
  unfold S_l04Ok at h
  by_cases q : -1152921504606846976 < a.lo.val
  · by_cases q2 : a.lo.val ≤ a.hi.val
    · by_cases q3 : a.hi.val < 1152921504606846976
      · exact ⟨q,q2,q3⟩
      · simp [q3] at h
    · simp [q2] at h
  · simp [q] at h
theorem Ok4_of {a : Iv} (h : -1152921504606846976 < a.lo.val ∧ a.lo.val ≤ a.hi.val ∧ a.hi.val < 1152921504606846976) : S_l04Ok a = true:=by
  unfold S_l04Ok
  simp only [h.1,h.2.1,h.2.2,decide_true,cond_true]
theorem Make_ok {a b : I64} (h : -1152921504606846976 < a.val ∧ a.val ≤ b.val ∧ b.val < 1152921504606846976) : S_l04Make a b = ⟨a,b⟩:=by
  unfold S_l04Make
  have : S_l04Ok ⟨a,b⟩ = true:=Ok4_of h
  simp only [bindP_eq,this,Bool.not_true,cond_false]
theorem eq_NegI (a : Iv) : I_NegI a = S_NegI a:=by
  unfold I_NegI S_NegI I_IsWhole
  simp only [bindP_eq,eq_Valid,eq_Whole]
  cases h : S_l04Ok a with
  | false=>rfl
  | true=>
    obtain ⟨h1,h2,h3⟩:=Ok4 h
    simp only [Bool.not_true,cond_false]
    rw [Make_ok (by simp only [w64_val]; omega)]
theorem eq_One : I_Integer (c64 1) = S_Integer (c64 1):=by
  unfold I_Integer S_Integer
  simp only [bindP_eq,eq_bounded,eq_Whole]
  rfl
theorem eq_PiI : I_PiI = S_PiI:=by
  unfold I_PiI S_PiI I_TurnI S_l05Turn I_TurnI_r S_l05Turn_r
  simp only [bindP_eq,eq_MulFloor]
  rfl
theorem eq_Arc (s : Iv) (n : I64) : I_affineOf_1__pIv s n = S_MulI s (S_l23Arc n):=by
  unfold I_affineOf_1__pIv S_l23Arc
  simp only [bindP_eq,eq_PiI,eq_Quotient,eq_MulI]
theorem eq_affineOf (s : Sf) : I_affineOf s = S_l23Affine__pSf s:=by
  unfold I_affineOf S_l23Affine__pSf
  simp only [bindP_eq,eq_One,eq_Quotient,eq_AddI,eq_Arc,eq_NegI]
theorem eq_SubI (a b : Iv) : I_SubI a b = S_SubI a b:=by
  unfold I_SubI S_SubI
  simp only [bindP_eq,eq_NegI,eq_AddI]
  unfold S_AddI S_NegI
  simp only [bindP_eq]
  cases ha : S_l04Ok a with
  | false=>rfl
  | true=>
    cases hb : S_l04Ok b with
    | false=>rfl
    | true=>
      obtain ⟨h1,h2,h3⟩:=Ok4 hb
      simp only [Bool.not_true,cond_false]
      rw [Make_ok (by simp only [w64_val]; omega)]
      have ho : S_l04Ok ⟨w64 (0 - b.hi.val),w64 (0 - b.lo.val)⟩ = true:=Ok4_of (by simp only [w64_val]; omega)
      simp only [ho,Bool.not_true,cond_false]
      have e1 : w64 (a.lo.val + (w64 (0 - b.hi.val)).val) = w64 (a.lo.val - b.hi.val):=IK.eq (by simp only [w64_val]; omega)
      have e2 : w64 (a.hi.val + (w64 (0 - b.lo.val)).val) = w64 (a.hi.val - b.lo.val):=IK.eq (by simp only [w64_val]; omega)
      rw [e1,e2]
theorem eq_HasI (a : Iv) (n : I64) : I_HasI a n = S_HasI a n:=by
  unfold I_HasI S_HasI I_IsWhole S_l04Has
  simp only [bindP_eq,eq_Valid,eq_in]
theorem eq_DivDown (a b : I64) : I_DivDown a b = S_l03DivDown a b:=by
  unfold I_DivDown S_l03DivDown
  simp only [bindP_eq,eq_ValidFix,eq_MulDivFloor,eq_fixed]
  by_cases h : b.val = 0
  · have hb : (b.val == 0) = true:=by simpa using h
    have hn : decide (b.val < 0) = false:=by simp [h]
    simp only [hb,hn,cond_true,cond_false]
    rw [MulDivFloor_neg _ _ _ (by omega)]
    rfl
  · have hb : (b.val == 0) = false:=by simpa using h
    simp only [hb,cond_false]
theorem zero_neg : w64 (0 - (c64 0).val) = c64 0:=IK.eq (by decide)
theorem End_ok (a : I64) (b : Bool) : ((S_l03End a b).2 = true ∧ -1152921504606846976 ≤ (S_l03End a b).1.val ∧ (S_l03End a b).1.val ≤ 1152921504606846976) ∨ S_l03End a b = (c64 0,false):=by
  unfold S_l03End
  simp only [bindP_eq]
  cases b with
  | false=>exact .inr rfl
  | true=>
    cases h : S_l03Ok a with
    | false=>exact .inr rfl
    | true=>
      left
      rw [sp_Ok3,Bool.and_eq_true] at h
      exact ⟨rfl,of_decide_eq_true h.1,of_decide_eq_true h.2⟩
theorem DivDown_ok (a b : I64) : ((S_l03DivDown a b).2 = true ∧ -1152921504606846976 ≤ (S_l03DivDown a b).1.val ∧ (S_l03DivDown a b).1.val ≤ 1152921504606846976) ∨ S_l03DivDown a b = (c64 0,false):=by
  unfold S_l03DivDown
  simp only [bindP_eq]
  cases S_l03Ok a with
  | false=>exact .inr rfl
  | true=>
    cases S_l03Ok b with
    | false=>exact .inr rfl
    | true=>
      cases (b.val == 0) with
      | true=>exact .inr rfl
      | false=>
        cases decide (b.val < 0) with
        | true=>exact End_ok _ _
        | false=>exact End_ok _ _
theorem DivDown_bad {a b : I64} (h : S_l03Ok b = false) : S_l03DivDown a b = (c64 0,false):=by
  unfold S_l03DivDown
  simp only [bindP_eq,h]
  cases S_l03Ok a <;> rfl
theorem eq_DivUp (a b : I64) : I_DivUp a b = S_l03DivUp a b:=by
  unfold I_DivUp S_l03DivUp
  simp only [bindP_eq,eq_ValidFix,eq_DivDown]
  cases S_l03Ok a with
  | false=>rfl
  | true=>
    cases hb : S_l03Ok b with
    | false=>
      rw [DivDown_bad hb]
      simp only [zero_neg]
      rfl
    | true=>rfl
theorem DivUp_ok (a b : I64) : ((S_l03DivUp a b).2 = true ∧ -1152921504606846976 ≤ (S_l03DivUp a b).1.val ∧ (S_l03DivUp a b).1.val ≤ 1152921504606846976) ∨ S_l03DivUp a b = (c64 0,false):=by
  unfold S_l03DivUp
  simp only [bindP_eq]
  cases S_l03Ok a with
  | false=>exact .inr rfl
  | true=>
    rcases DivDown_ok (w64 (0 - a.val)) b with ⟨h,h1,h2⟩ | h
    · left
      simp only [Bool.not_true,cond_false,w64_val] at *
      refine ⟨h,?_⟩
      omega
    · right
      rw [h]
      simp only [zero_neg]
      rfl
theorem eq_DivI (a b : Iv) : I_DivI a b = S_DivI a b:=by
  unfold I_DivI S_DivI I_combine__impl_DivDown__impl_DivUp I_HasI I_IsWhole
  simp only [bindP_eq,eq_areBounded,eq_Whole,eq_DivDown,eq_DivUp,eq_bounded,eq_mn,eq_mx,eq_Valid]
  cases S_l04Ok a with
  | false=>rfl
  | true=>
    cases S_l04Ok b with
    | false=>rfl
    | true=>
      unfold S_l04Has
      simp only [bindP_eq,eq_in,Bool.and_self,Bool.not_true,cond_false]
      cases S_l00In (c64 0) b.lo b.hi with
      | true=>rfl
      | false=>
        simp only [cond_false]
        rcases DivDown_ok a.lo b.lo with ⟨h1,h2,h3⟩ | h1
        · rcases DivUp_ok a.lo b.lo with ⟨k1,k2,k3⟩ | k1
          · simp only [mn_top _ h3,mx_low _ k2,mn_self,mx_self]
          · simp [k1]
        · simp [h1]
end Go.Proofs.YtfhnlkinjbakgaaGreat.Abs
