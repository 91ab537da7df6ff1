/- Plain laws of the functions on numbers: what the program computes is what the reference computes. -/
import Derived.Test.YtfhnlkinjbakgaaGreatMsQjkl
import Derived.Test.YtfhnlkinjbakgaaGreatMsF4
set_option linter.unusedVariables false
set_option linter.unusedSimpArgs false
namespace Go.Proofs.YtfhnlkinjbakgaaGreat.Abs
open Go
theorem times_cmp (x : U64) (w : Wd) (h : 0 ≤ w.hi.val) : (decide ((S_l02Times x x).1.val < (wu64 w.hi.val).val) = true → x.val * x.val ≤ w.z) ∧ (((S_l02Times x x).1.val == (wu64 w.hi.val).val) = true → decide ((S_l02Times x x).2.val ≤ w.lo.val) = true → x.val * x.val ≤ w.z):=by
  have e:=sp_Times x x
  have a1:=(S_l02Times x x).2.lo
  have a2:=(S_l02Times x x).2.hi
  have a3:=w.lo.lo
  have a4:=w.lo.hi
  have a5:=w.hi.hi
  have eh : (wu64 w.hi.val).val = w.hi.val:=by rw [wu64_val]; omega
  have hz : w.z = w.hi.val * 18446744073709551616 + w.lo.val:=rfl
  generalize x.val * x.val = q at *
  rw [eh]
  simp only [decide_eq_true_eq,beq_iff_eq]
  omega
theorem root_sq (w : Wd) (h : 0 ≤ w.hi.val) : ∀ (fu : Nat) (x : U64) (i : I64),x.val * x.val ≤ w.z → (S_l02Root_L0 fu w x i).val * (S_l02Root_L0 fu w x i).val ≤ w.z:=by
  have z0 : 0 ≤ w.z:=by
    have:=w.lo.lo
    show 0 ≤ w.hi.val * 18446744073709551616 + w.lo.val
    omega
  intro fu
  induction fu with
  | zero=>intro x i _; exact z0
  | succ fu ih=>
    intro x i hx
    unfold S_l02Root_L0
    simp only [bindP_e]
    generalize ior .u64 x.val (ishl .u64 1 (wu64 i.val).val).val = y
    obtain ⟨c1,c2⟩:=times_cmp y w h
    cases decide (i.val ≥ 0) with
    | false=>rw [cond_f]; exact hx
    | true=>
      rw [cond_t]
      cases h1 : decide ((S_l02Times y y).1.val < (wu64 w.hi.val).val) with
      | true=>rw [cond_t]; exact ih _ _ (c1 h1)
      | false=>
        rw [cond_f]
        cases h2 : ((S_l02Times y y).1.val == (wu64 w.hi.val).val) with
        | false=>rw [cond_f]; exact ih _ _ hx
        | true=>
          rw [cond_t]
          cases h3 : decide ((S_l02Times y y).2.val ≤ w.lo.val) with
          | false=>rw [cond_f]; exact ih _ _ hx
          | true=>rw [cond_t]; exact ih _ _ (c2 h2 h3)
theorem eq_sqrtLoop (w : Wd) : ∀ (fu : Nat) (x : U64) (i : I64),i.val ≤ 63 → (i.val + 1).toNat < fu → I_WideSqrt_L0 fu w x i = (S_l02Root_L0 fu w x i,true):=by
  intro fu
  induction fu with
  | zero=>intro x i _ h; exact absurd h (Nat.not_lt_zero _)
  | succ fu ih=>
    intro x i hi hf
    unfold I_WideSqrt_L0 S_l02Root_L0
    simp only [bindP_e,eq_Mul64]
    by_cases h : i.val ≥ 0
    · have ei : (wu64 i.val).val = i.val:=by rw [wu64_val]; omega
      have e2 : (w64 (i.val - 1)).val = i.val - 1:=by rw [w64_val]; omega
      have ih':=fun x=>ih x (w64 (i.val - 1)) (by omega) (by omega)
      simp only [h,decide_true,cond_t,ei,ih']
      generalize ior .u64 x.val (ishl .u64 1 i.val).val = y
      cases decide ((S_l02Times y y).1.val < (wu64 w.hi.val).val) with
      | true=>rw [cond_t,cond_t]
      | false=>
        rw [cond_f,cond_f]
        cases ((S_l02Times y y).1.val == (wu64 w.hi.val).val) with
        | false=>rw [cond_f,cond_f]
        | true=>
          rw [cond_t,cond_t]
          cases decide ((S_l02Times y y).2.val ≤ w.lo.val) with
          | false=>rw [cond_f,cond_f]
          | true=>rw [cond_t,cond_t]
    · simp only [h,decide_false,cond_f]
theorem eq_WideSqrt (w : Wd) (h : 0 ≤ w.hi.val) : I_WideSqrt w = (S_l02Root w,true):=by
  unfold I_WideSqrt S_l02Root
  have : decide (w.hi.val < 0) = false:=decide_eq_false (by omega)
  rw [this,cond_f]
  exact eq_sqrtLoop w 65 _ _ (by decide) (by decide)
theorem mul_hi (a b : I64) (ha : 0 ≤ a.val) (hb : 0 ≤ b.val) : 0 ≤ (S_l02Mul a b).hi.val:=by
  have h:=sp_Mul a b
  have h0:=Int.mul_nonneg ha hb
  have h1:=(S_l02Mul a b).lo.hi
  have hz : (S_l02Mul a b).z = (S_l02Mul a b).hi.val * 18446744073709551616 + (S_l02Mul a b).lo.val:=rfl
  omega
theorem eq_SqrtFloor (a b : I64) : I_SqrtFloor a b = S_SqrtFloor a b:=by
  unfold I_SqrtFloor S_SqrtFloor
  by_cases h1 : a.val < 0
  · simp only [h1,decide_true,cond_t]
  · by_cases h2 : b.val < 0
    · simp only [h1,h2,decide_true,decide_false,cond_t,cond_f]
    · simp only [h1,h2,decide_false,cond_f,bindP_e,eq_WideMul,eq_WideSqrt _ (mul_hi a b (by omega) (by omega))]
theorem sqrt_le {r : Int} (h : r * r ≤ 4951760157141521099596496896) : r ≤ 70368744177664:=by
  by_cases q : r ≤ 70368744177664
  · exact q
  · have : 70368744177665 * 70368744177665 ≤ r * r:=Int.mul_le_mul (by omega) (by omega) (by decide) (by omega)
    omega
theorem SqrtFloor_val (a : I64) (h0 : 0 ≤ a.val) (h1 : a.val ≤ 1152921504606846976) : ∃ r : I64,S_SqrtFloor a (c64 4294967296) = (r,true) ∧ 0 ≤ r.val ∧ r.val ≤ 70368744177664 ∧ r.val * r.val ≤ a.val * 4294967296:=by
  have hz:=sp_Mul a (c64 4294967296)
  rw [c64_v] at hz
  have hq:=root_sq (S_l02Mul a (c64 4294967296)) (mul_hi a _ h0 (by decide)) 65 (cu64 0) (c64 63) (by rw [hz]; show (0 : Int) * 0 ≤ _; omega)
  rw [hz] at hq
  have hx0:=(S_l02Root (S_l02Mul a (c64 4294967296))).lo
  have hx1 : (S_l02Root (S_l02Mul a (c64 4294967296))).val ≤ 70368744177664:=sqrt_le (Int.le_trans hq (by omega))
  have e : (w64 (S_l02Root (S_l02Mul a (c64 4294967296))).val).val = (S_l02Root (S_l02Mul a (c64 4294967296))).val:=by rw [w64_val]; omega
  refine ⟨w64 (S_l02Root (S_l02Mul a (c64 4294967296))).val,?_,by omega,by omega,by rw [e]; exact hq⟩
  unfold S_SqrtFloor
  have d1 : decide (a.val < 0) = false:=decide_eq_false (by omega)
  have d2 : decide ((c64 4294967296).val < 0) = false:=by decide
  simp only [d1,d2,cond_f,bindP_e]
theorem End_in {a : I64} (h : -1152921504606846976 ≤ a.val ∧ a.val ≤ 1152921504606846976) : S_l03End a true = (a,true):=by
  unfold S_l03End
  simp only [bindP_e,Ok3_of h.1 h.2,Bool.not_true,cond_f]
theorem SqrtDown_val (a : I64) (h0 : 0 ≤ a.val) (h1 : a.val ≤ 1152921504606846976) : ∃ r : I64,S_l03SqrtDown a = (r,true) ∧ I_SqrtDown a = (r,true) ∧ 0 ≤ r.val ∧ r.val ≤ 70368744177664 ∧ r.val * r.val ≤ a.val * 4294967296:=by
  obtain ⟨r,e,r0,r1,r2⟩:=SqrtFloor_val a h0 h1
  refine ⟨r,?_,?_,r0,r1,r2⟩
  · unfold S_l03SqrtDown
    have : S_l00In a (c64 0) (c64 1152921504606846976) = true:=by
      rw [sp_in]
      simp only [Bool.and_eq_true,decide_eq_true_eq,c64_v]
      omega
    simp only [bindP_e,this,e,Bool.not_true,cond_f]
  · unfold I_SqrtDown
    simp only [bindP_e,eq_ValidFix,eq_SqrtFloor,eq_fixed,e,Ok3_of (show -1152921504606846976 ≤ a.val by omega) h1,Bool.not_true,cond_f,End_in (show -1152921504606846976 ≤ r.val ∧ r.val ≤ 1152921504606846976 by omega)]
theorem and_low (x : Int) (h0 : 0 ≤ x) : (iand .i64 (w64 x).val 4294967295).val = x % 4294967296:=by
  have e : (BitVec.ofInt 64 (w64 x).val &&& BitVec.ofInt 64 4294967295).toNat = (x % 4294967296).toNat:=by
    have e1 : BitVec.ofInt 64 (w64 x).val = BitVec.ofNat 64 x.toNat:=by
      apply BitVec.eq_of_toNat_eq
      rw [BitVec.toNat_ofInt,BitVec.toNat_ofNat,w64_val]
      omega
    have e2 : BitVec.ofInt 64 4294967295 = BitVec.ofNat 64 4294967295:=by decide
    rw [e1,e2,BitVec.toNat_and,BitVec.toNat_ofNat,BitVec.toNat_ofNat]
    have e3 : (4294967295 : Nat) % 2 ^ 64 = 2 ^ 32 - 1:=by decide
    rw [e3,Nat.and_two_pow_sub_one_eq_mod]
    omega
  show IntKind.i64.wrap ((BitVec.ofInt 64 (w64 x).val &&& BitVec.ofInt 64 4294967295).toNat : Int) = _
  rw [e,IntKind.wrap_i64]
  omega
theorem eq_SqrtUp (a : I64) (h0 : 0 ≤ a.val) (h1 : a.val ≤ 1152921504606846976) : ∃ r : I64,S_l03SqrtUp a = (r,true) ∧ I_SqrtUp a = (r,true):=by
  obtain ⟨r,e1,e2,r0,r1,r2⟩:=SqrtDown_val a h0 h1
  unfold S_l03SqrtUp I_SqrtUp
  simp only [bindP_e,e1,e2,eq_WideMul,eq_fixed,Bool.not_true,cond_t,cond_f]
  have s0 : 0 ≤ r.val * r.val:=Int.mul_nonneg r0 r0
  have s1 : r.val * r.val ≤ 4951760157141521099596496896:=Int.le_trans r2 (by omega)
  have p1:=sp_Mul r r
  have p2:=sp_Mul a (c64 4294967296)
  rw [c64_v] at p2
  have hc : ((S_l02Mul r r).hi.val == (S_l02Mul a (c64 4294967296)).hi.val && (S_l02Mul r r).lo.val == (S_l02Mul a (c64 4294967296)).lo.val) = decide (r.val * r.val = a.val * 4294967296):=by
    have z1 : (S_l02Mul r r).z = (S_l02Mul r r).hi.val * 18446744073709551616 + (S_l02Mul r r).lo.val:=rfl
    have z2 : (S_l02Mul a (c64 4294967296)).z = (S_l02Mul a (c64 4294967296)).hi.val * 18446744073709551616 + (S_l02Mul a (c64 4294967296)).lo.val:=rfl
    have l1:=(S_l02Mul r r).lo.lo
    have l2:=(S_l02Mul r r).lo.hi
    have l3:=(S_l02Mul a (c64 4294967296)).lo.lo
    have l4:=(S_l02Mul a (c64 4294967296)).lo.hi
    rw [Bool.eq_iff_iff]
    simp only [Bool.and_eq_true,beq_iff_eq,decide_eq_true_eq]
    generalize r.val * r.val = q at *
    omega
  have hm : ∃ n : I64,S_MulFloor r r (c64 32) = (n,true) ∧ n.val = r.val * r.val / 4294967296:=by
    have hz : (S_l02Shift (S_l02Mul r r) (c64 32)).z = r.val * r.val / 4294967296:=by rw [Shift_z32,p1]
    obtain ⟨n,k1,k2⟩:=Int_in (S_l02Shift (S_l02Mul r r) (c64 32)) (by rw [hz]; omega) (by rw [hz]; omega)
    refine ⟨n,?_,by rw [k1,hz]⟩
    unfold S_MulFloor
    have e3 : S_l00In (c64 32) (c64 0) (c64 126) = true:=by decide
    simp only [bindP_e,k2,e3,Bool.not_true,cond_f]
  obtain ⟨n,hn,hnv⟩:=hm
  have hl:=and_low (r.val * r.val) s0
  have er : (w64 (r.val + 1)).val = r.val + 1:=by rw [w64_val]; omega
  rw [hc,hn]
  simp only [hl,End_in (show -1152921504606846976 ≤ r.val ∧ r.val ≤ 1152921504606846976 by omega),End_in (show -1152921504606846976 ≤ (w64 (r.val + 1)).val ∧ (w64 (r.val + 1)).val ≤ 1152921504606846976 by omega)]
  generalize r.val * r.val = q at *
  by_cases hq : q = a.val * 4294967296
  · have b1 : (n.val != a.val) = false:=by simp only [bne_eq_false_iff_eq]; omega
    have b2 : (q % 4294967296 != 0) = false:=by simp only [bne_eq_false_iff_eq]; omega
    refine ⟨r,?_,?_⟩
    · simp only [b1,b2,cond_f]
    · rw [decide_eq_true hq]; simp only [Bool.not_true,cond_f]
  · refine ⟨w64 (r.val + 1),?_,?_⟩
    · by_cases b : n.val = a.val
      · have b1 : (n.val != a.val) = false:=by simp only [bne_eq_false_iff_eq]; exact b
        have b2 : (q % 4294967296 != 0) = true:=by simp only [bne_iff_ne,ne_eq]; omega
        simp only [b1,b2,cond_f,cond_t]
      · have b1 : (n.val != a.val) = true:=by simp only [bne_iff_ne,ne_eq]; exact b
        simp only [b1,cond_t]
    · rw [decide_eq_false hq]; simp only [Bool.not_false,cond_t]
theorem eq_SqrtI (a : Iv) : I_SqrtI a = S_SqrtI a:=by
  unfold I_SqrtI S_SqrtI
  simp only [bindP_e,eq_IsWhole,eq_Whole]
  cases ha : S_l04Ok a with
  | false=>simp only [Bool.not_false,cond_t]
  | true=>
    obtain ⟨a1,a2,a3⟩:=Ok4 ha
    simp only [Bool.not_true,cond_f]
    by_cases h : a.lo.val < 0
    · simp only [h,decide_true,cond_t]
    · obtain ⟨r,e1,e2,_⟩:=SqrtDown_val a.lo (by omega) (by omega)
      obtain ⟨s,f1,f2⟩:=eq_SqrtUp a.hi (by omega) (by omega)
      simp only [h,decide_false,cond_f,e1,e2,f1,f2,cond_t,eq_bounded]
theorem radians_pos (fu gu : Nat) (a : I64) (h0 : 0 < a.val) : I_RadiansOf_r (fu + 1) a = S_RadiansOf_r (gu + 1) a:=by
  unfold I_RadiansOf_r S_RadiansOf_r S_RadiansOf_b S_Whole
  have d1 : decide (a.val < 0) = false:=decide_eq_false (by omega)
  have d2 : (a.val == 0) = false:=by simp only [beq_eq_false_iff_ne,ne_eq]; omega
  simp only [bindP_e,eq_in,eq_Whole,eq_MulDivFloor,d1,d2,cond_f]
theorem eq_RadiansOf (a : I64) : I_RadiansOf a = S_RadiansOf a:=by
  unfold I_RadiansOf S_RadiansOf
  by_cases h : 0 < a.val
  · exact radians_pos 1 1 a h
  · unfold I_RadiansOf_r S_RadiansOf_r S_RadiansOf_b S_Whole
    simp only [bindP_e,eq_in,eq_Whole,eq_MulDivFloor]
    cases hi : S_l00In a (c64 (-36000000000)) (c64 36000000000) with
    | false=>simp only [Bool.not_false,cond_t]
    | true=>
      rw [sp_in] at hi
      simp only [Bool.and_eq_true,decide_eq_true_eq,c64_v] at hi
      simp only [Bool.not_true,cond_f]
      by_cases h2 : a.val = 0
      · have d1 : decide (a.val < 0) = false:=decide_eq_false (by omega)
        have d2 : (a.val == 0) = true:=by simp only [beq_iff_eq]; exact h2
        simp only [d1,d2,cond_f,cond_t]
      · have d1 : decide (a.val < 0) = true:=decide_eq_true (by omega)
        have d2 : (a.val == 0) = false:=by simp only [beq_eq_false_iff_ne,ne_eq]; exact h2
        have en : (w64 (0 - a.val)).val = -a.val:=by rw [w64_val]; omega
        simp only [d1,d2,cond_f,cond_t,radians_pos 0 0 (w64 (0 - a.val)) (by omega),eq_NegI]
theorem eq_CosI (a : Iv) : I_CosI a = S_CosI a:=by
  unfold I_CosI S_CosI
  simp only [bindP_e,eq_circleHull]
theorem wrap_in64 (a : I64) : -1800000000 < (S_l11Wrap a).val ∧ (S_l11Wrap a).val ≤ 1800000000:=by
  unfold S_l11Wrap
  have b : -3600000000 < (imod a 3600000000).val ∧ (imod a 3600000000).val < 3600000000:=by
    rw [imod_val]
    by_cases hs : 0 ≤ a.val
    · rw [Int.tmod_eq_emod_of_nonneg hs]; omega
    · have : Int.tmod a.val 3600000000 = -((-a.val) % 3600000000):=by
        rw [← Int.tmod_eq_emod_of_nonneg (by omega),Int.neg_tmod,Int.neg_neg]
      rw [this]; omega
  generalize imod a 3600000000 = m at *
  by_cases h : m.val > 1800000000
  · have e : decide ((w64 (m.val - 3600000000)).val ≤ -1800000000) = false:=decide_eq_false (by rw [w64_val]; omega)
    simp only [h,decide_true,cond_t,e,cond_f]
    rw [w64_val]; omega
  · simp only [h,decide_false,cond_f]
    by_cases h2 : m.val ≤ -1800000000
    · simp only [h2,decide_true,cond_t,w64_val]; omega
    · simp only [h2,decide_false,cond_f]; omega
theorem eq_oneLess (a : Iv) : I_oneLess a = S_SubI (S_Integer (c64 1)) a:=by
  unfold I_oneLess
  simp only [bindP_e,eq_Integer,eq_SubI]
theorem eq_LatOf {p : Pt} (h : S_l11Ok p = true) : I_LatOf p = S_RadiansOf p.lat:=by
  unfold I_LatOf
  simp only [bindP_e,eq_ValidPoint,h,Bool.not_true,cond_f,eq_RadiansOf]
theorem eq_DoubleI (a : Iv) : I_DoubleI a = S_DoubleI a:=by
  unfold I_DoubleI S_DoubleI
  rw [bindP_e,eq_AddI]
  unfold S_AddI
  simp only [bindP_e]
  have e1 : a.lo.val + a.lo.val = 2 * a.lo.val:=by omega
  have e2 : a.hi.val + a.hi.val = 2 * a.hi.val:=by omega
  rw [e1,e2]
  cases S_l04Ok a
  · simp only [Bool.not_false,cond_t]
  · simp only [Bool.not_true,cond_f]
theorem eq_HalfI (a : Iv) : I_HalfI a = S_HalfI a:=by
  unfold I_HalfI S_HalfI
  simp only [bindP_e,eq_IsWhole,eq_Whole]
  cases h : S_l04Ok a with
  | false=>simp only [Bool.not_false,cond_t]
  | true=>
    obtain ⟨h1,h2,h3⟩:=Ok4 h
    simp only [Bool.not_true,cond_f]
    rw [Make_ok (by rw [shr1_val,shr1_val,w64_val]; omega)]
theorem Ends_val {a : Iv} (h : S_l04Ok a = true) : 0 ≤ (S_l04Ends a).1.val ∧ (S_l04Ends a).1.val ≤ (S_l04Ends a).2.val ∧ (S_l04Ends a).2.val < 1152921504606846976:=by
  obtain ⟨h1,h2,h3⟩:=Ok4 h
  unfold S_l04Ends S_l04Has
  simp only [bindP_e,eq_mn,eq_mx,sp_in,c64_v]
  have e1 : (w64 (0 - a.lo.val)).val = -a.lo.val:=by rw [w64_val]; omega
  have e2 : (w64 (0 - a.hi.val)).val = -a.hi.val:=by rw [w64_val]; omega
  have m1:=mx_spec a.lo (w64 (0 - a.lo.val))
  have m2:=mx_spec a.hi (w64 (0 - a.hi.val))
  rw [e1] at m1
  rw [e2] at m2
  generalize mx a.lo (w64 (0 - a.lo.val)) = p at *
  generalize mx a.hi (w64 (0 - a.hi.val)) = q at *
  have n1:=mx_spec p q
  have n2:=mn_spec p q
  cases (decide (a.lo.val ≤ 0) && decide (0 ≤ a.hi.val)) with
  | true=>simp only [cond_t,c64_v]; omega
  | false=>simp only [cond_f]; omega
theorem eq_AbsI2 (a : Iv) : I_AbsI a = S_AbsI a:=by
  unfold S_AbsI
  simp only [bindP_e]
  cases h : S_l04Ok a with
  | false=>
    unfold I_AbsI
    simp only [bindP_e,eq_IsWhole,h,Bool.not_false,cond_t,eq_Whole]
  | true=>
    obtain ⟨h1,h2,h3⟩:=Ends_val h
    simp only [Bool.not_true,cond_f]
    rw [eq_AbsI h,Make_ok (by omega)]
theorem AbsI_val {a : Iv} (h : S_l04Ok a = true) : S_AbsI a = ⟨(S_l04Ends a).1,(S_l04Ends a).2⟩:=by rw [← eq_AbsI2,eq_AbsI h]
theorem eq_LessI (a b : Iv) : I_LessI a b = S_LessI a b:=by
  unfold I_LessI S_LessI
  simp only [bindP_e,eq_areBounded]
  cases S_l04Ok a
  · simp only [Bool.false_and,Bool.not_false,cond_t]
  · cases S_l04Ok b
    · simp only [Bool.and_false,Bool.not_false,Bool.not_true,cond_t,cond_f]
    · simp only [Bool.and_self,Bool.not_true,cond_f]
theorem LessI_val (a b : Iv) : (S_LessI a b).val = 0 ∨ (S_LessI a b).val = 1 ∨ (S_LessI a b).val = 2:=by
  unfold S_LessI
  simp only [bindP_e]
  cases S_l04Ok a
  · exact .inr (.inr rfl)
  · cases S_l04Ok b
    · exact .inr (.inr rfl)
    · cases decide (a.hi.val < b.lo.val)
      · cases decide (a.lo.val ≥ b.hi.val)
        · exact .inr (.inr rfl)
        · exact .inl rfl
      · exact .inr (.inl rfl)
theorem eq_ArcSeries (x : Iv) : I_ArcSeries x = S_ArcSeries x:=by
  unfold I_ArcSeries S_ArcSeries S_Whole
  have e : I_tiny = S_l06Tiny:=Eq.trans rfl rfl
  simp only [bindP_e,eq_InsideI,eq_Whole,eq_SqrI,eq_Quotient,eq_MulI,eq_SubI,eq_AddI,e]
theorem eq_halved (x : Iv) : I_halved x = S_l07Halve x:=by
  unfold I_halved S_l07Halve
  simp only [bindP_e,eq_Integer,eq_SqrI,eq_AddI,eq_SqrtI,eq_DivI]
theorem eq_fourfold (x : Iv) : I_fourfold x = S_l07Core x:=by
  unfold I_fourfold S_l07Core
  simp only [bindP_e,eq_halved,eq_ArcSeries,eq_DoubleI]
theorem eq_isOpen (n : I64) : I_isOpen n = S_l07Fix n:=rfl
theorem open_val {n : I64} (h : S_l07Fix n = true) : -1152921504606846976 < n.val ∧ n.val < 1152921504606846976:=by
  unfold S_l07Fix at h
  by_cases q : -1152921504606846976 < n.val
  · simp only [q,decide_true,cond_t,decide_eq_true_eq] at h
    exact ⟨q,h⟩
  · simp only [q,decide_false,cond_f] at h
    cases h
theorem eq_at (n : I64) : I_at n = S_l05At n:=Eq.trans rfl rfl
theorem atan_body (n : I64) (f g : I64 → Iv) (h : f (w64 (0 - n.val)) = g (w64 (0 - n.val)) ∨ ¬ n.val < 0 ∨ S_l07Fix n = false) : I_AtanAt_b f n = S_AtanAt_b g n:=by
  unfold I_AtanAt_b S_AtanAt_b
  simp only [bindP_e,eq_isOpen,eq_halfCircle,eq_NegI,eq_TurnI,eq_Integer,eq_at,eq_DivI,eq_fourfold,eq_SubI]
  rcases h with h | h | h
  · rw [h]
  · rw [decide_eq_false h]; simp only [cond_f]
  · rw [h]; simp only [Bool.not_false,cond_t]
theorem eq_AtanAt (n : I64) : I_AtanAt n = S_AtanAt n:=by
  unfold I_AtanAt S_AtanAt I_AtanAt_r S_AtanAt_r
  refine atan_body n _ _ ?_
  by_cases h : n.val < 0
  · cases ho : S_l07Fix n with
    | false=>exact .inr (.inr rfl)
    | true=>
      left
      obtain ⟨h1,h2⟩:=open_val ho
      unfold I_AtanAt_r S_AtanAt_r
      exact atan_body _ _ _ (.inr (.inl (by rw [w64_val]; omega)))
  · exact .inr (.inl h)
theorem eq_AtanI (x : Iv) : I_AtanI x = S_AtanI x:=by
  unfold I_AtanI S_AtanI S_IsWhole
  simp only [bindP_e,eq_IsWhole,eq_halfCircle,eq_AtanAt,eq_HullI]
theorem bif_if {α : Type} (p : Prop) [Decidable p] (x y : α) : (bif decide p then x else y) = if p then x else y:=by
  by_cases h : p <;> simp [h]
theorem bif_eq {α : Type} (a b : Int) (x y : α) : (bif (a == b) then x else y) = if a = b then x else y:=by
  by_cases h : a = b
  · subst h; simp
  · have e : (a == b) = false:=by simp only [beq_eq_false_iff_ne,ne_eq]; exact h
    rw [e,if_neg h,cond_f]
theorem abs_pos {a : I64} (h : -1152921504606846976 < a.val ∧ a.val < 1152921504606846976) : (I_abs a).val = if a.val < 0 then -a.val else a.val:=by
  unfold I_abs
  have en : (w64 (0 - a.val)).val = -a.val:=by rw [w64_val]; omega
  have m:=mx_spec a (w64 (0 - a.val))
  rw [en] at m
  split <;> omega
theorem direction_cases {y x : Int} {α : Type} (A1 A2 B C D W : α) :
    (bif (y == 0) then (bif (x == 0) then W else (bif decide ((if y < 0 then -y else y) > (if x < 0 then -x else x)) then (bif decide (y < 0) then A1 else A2) else (bif decide (x > 0) then B else (bif decide (y < 0) then C else D)))) else (bif decide ((if y < 0 then -y else y) > (if x < 0 then -x else x)) then (bif decide (y < 0) then A1 else A2) else (bif decide (x > 0) then B else (bif decide (y < 0) then C else D)))) =
    if x = 0 ∧ y = 0 then W else if (if y < 0 then -y else y) > x ∧ (if y < 0 then -y else y) > -x then (if y < 0 then A1 else A2) else if x > 0 then B else if y < 0 then C else D:=by
  simp only [bif_if,bif_eq]
  grind
theorem eq_DirectionAt (y x : I64) : I_DirectionAt y x = S_DirectionAt y x:=by
  unfold I_DirectionAt S_DirectionAt S_Whole
  simp only [bindP_e,eq_isOpen,eq_Whole,eq_at,eq_TurnI,eq_DivI,eq_AtanI,eq_SubI,eq_AddI]
  cases hy : S_l07Fix y with
  | false=>simp only [Bool.not_false,cond_t]
  | true=>
    cases hx : S_l07Fix x with
    | false=>simp only [Bool.not_false,Bool.not_true,cond_t,cond_f]
    | true=>
      have yb:=open_val hy
      have xb:=open_val hx
      have ey : (w64 (0 - y.val)).val = -y.val:=by rw [w64_val]; omega
      have ex : (w64 (0 - x.val)).val = -x.val:=by rw [w64_val]; omega
      simp only [Bool.not_true,cond_f,abs_pos yb,abs_pos xb,ey,ex]
      rw [direction_cases]
      generalize S_SubI (S_TurnI (c64 (-1))) (S_AtanI (S_DivI (S_l05At x) (S_l05At y))) = A1
      generalize S_SubI (S_TurnI (c64 1)) (S_AtanI (S_DivI (S_l05At x) (S_l05At y))) = A2
      generalize S_AtanI (S_DivI (S_l05At y) (S_l05At x)) = B
      generalize S_AddI B (S_TurnI (c64 (-2))) = C
      generalize S_AddI B (S_TurnI (c64 2)) = D
      generalize S_l04Whole = W
      generalize y.val = y
      generalize x.val = x
      simp only [bif_if,bif_eq]
      grind
theorem eq_DirectionI (y x : Iv) : I_DirectionI y x = S_DirectionI y x:=by
  unfold I_DirectionI S_DirectionI S_Whole S_IsWhole
  simp only [bindP_e,eq_areBounded,eq_Whole,eq_HasI,eq_DirectionAt,eq_HullI]
  cases S_l04Ok y
  · simp only [Bool.false_and,Bool.not_false,cond_t]
  · cases S_l04Ok x
    · simp only [Bool.and_false,Bool.not_false,Bool.not_true,cond_t,cond_f]
    · simp only [Bool.and_self,Bool.not_true,cond_f]
theorem shl_one (i : I64) (n : Nat) (h : i.val = n) (hn : n ≤ 63) : (ishl .u64 1 (wu64 i.val).val).val = 2 ^ n:=by
  have e : (wu64 i.val).val = n:=by rw [wu64_val,h]; omega
  rw [e]
  show IntKind.u64.wrap (1 * 2 ^ (min ((n : Int)).toNat 64)) = _
  rw [Int.toNat_natCast,Nat.min_eq_left (by omega),IntKind.wrap_u64,Int.one_mul]
  have h1 : (2 : Int) ^ n = ((2 ^ n : Nat) : Int):=by rw [Int.natCast_pow]; rfl
  have h2 : 2 ^ n ≤ 2 ^ 63:=Nat.pow_le_pow_right (by omega) hn
  have h3 : (2 : Nat) ^ 63 = 9223372036854775808:=by decide
  rw [h1]
  generalize (2 : Nat) ^ n = m at *
  omega
theorem root_next (w : Wd) (h : 0 ≤ w.hi.val) : ∀ (N fu : Nat) (x : U64) (i : I64),i.val = (N : Int) - 1 → N ≤ 64 → N < fu → x.val % 2 ^ N = 0 → x.val + 2 ^ N ≤ 18446744073709551616 → w.z < (x.val + 2 ^ N) * (x.val + 2 ^ N) →
    w.z < ((S_l02Root_L0 fu w x i).val + 1) * ((S_l02Root_L0 fu w x i).val + 1):=by
  intro N
  induction N with
  | zero=>
    intro fu x i hi _ hf _ _ hw
    obtain ⟨fu,rfl⟩ : ∃ k,fu = k + 1:=⟨fu - 1,by omega⟩
    unfold S_l02Root_L0
    have : decide (i.val ≥ 0) = false:=decide_eq_false (by omega)
    rw [this,cond_f]
    simpa using hw
  | succ N ih=>
    intro fu x i hi hN hf hx hle hw
    obtain ⟨fu,rfl⟩ : ∃ k,fu = k + 1:=⟨fu - 1,by omega⟩
    have hiN : i.val = (N : Int):=by omega
    have e2 : (w64 (i.val - 1)).val = (N : Int) - 1:=by rw [w64_val]; omega
    have x0:=x.lo
    have hp : (2 : Int) ^ (N + 1) = 2 * 2 ^ N:=by rw [Int.pow_succ]; omega
    have pp : (0 : Int) < 2 ^ N:=Int.pow_pos (by decide)
    have hpn : ((2 : Int) ^ N) = ((2 ^ N : Nat) : Int):=by rw [Int.natCast_pow]; rfl
    have ey : (ior .u64 x.val (ishl .u64 1 (wu64 i.val).val).val).val = x.val + 2 ^ N:=by
      rw [shl_one i N hiN (by omega)]
      exact or_add (N + 1) x.val (2 ^ N) x0 (by omega) hx (by omega) (by omega) hN
    have hxN : x.val % 2 ^ N = 0:=by
      have h1 : (2 : Int) ^ N ∣ 2 ^ (N + 1):=⟨2,by rw [hp,Int.mul_comm]⟩
      exact Int.emod_eq_zero_of_dvd (Int.dvd_trans h1 (Int.dvd_of_emod_eq_zero hx))
    have hyN : (x.val + 2 ^ N) % 2 ^ N = 0:=by rw [Int.add_emod_right]; exact hxN
    unfold S_l02Root_L0
    simp only [bindP_e]
    have hge : decide (i.val ≥ 0) = true:=decide_eq_true (by omega)
    rw [hge,cond_t]
    generalize ior .u64 x.val (ishl .u64 1 (wu64 i.val).val).val = y at *
    have yes : w.z < (y.val + 2 ^ N) * (y.val + 2 ^ N):=by
      have : y.val + 2 ^ N = x.val + 2 ^ (N + 1):=by omega
      rw [this]; exact hw
    have goY:=ih fu y (w64 (i.val - 1)) e2 (by omega) (by omega) (by rw [ey]; exact hyN) (by omega) yes
    have goX:=fun (q : w.z < (x.val + 2 ^ N) * (x.val + 2 ^ N))=>ih fu x (w64 (i.val - 1)) e2 (by omega) (by omega) hxN (by omega) q
    have e:=sp_Times y y
    have a1:=(S_l02Times y y).2.lo
    have a2:=(S_l02Times y y).2.hi
    have a3:=w.lo.lo
    have a4:=w.lo.hi
    have a5:=w.hi.hi
    have eh : (wu64 w.hi.val).val = w.hi.val:=by rw [wu64_val]; omega
    have hz : w.z = w.hi.val * 18446744073709551616 + w.lo.val:=rfl
    rw [eh]
    by_cases c1 : (S_l02Times y y).1.val < w.hi.val
    · rw [decide_eq_true c1,cond_t]; exact goY
    · rw [decide_eq_false c1,cond_f]
      by_cases c2 : (S_l02Times y y).1.val = w.hi.val
      · have b2 : ((S_l02Times y y).1.val == w.hi.val) = true:=by simp only [beq_iff_eq]; exact c2
        rw [b2,cond_t]
        by_cases c3 : (S_l02Times y y).2.val ≤ w.lo.val
        · rw [decide_eq_true c3,cond_t]; exact goY
        · rw [decide_eq_false c3,cond_f]
          refine goX ?_
          rw [← ey]
          generalize y.val * y.val = q at *
          omega
      · have b2 : ((S_l02Times y y).1.val == w.hi.val) = false:=by simp only [beq_eq_false_iff_ne,ne_eq]; exact c2
        rw [b2,cond_f]
        refine goX ?_
        rw [← ey]
        generalize y.val * y.val = q at *
        omega
theorem Root_val (w : Wd) (h : 0 ≤ w.hi.val) : (S_l02Root w).val * (S_l02Root w).val ≤ w.z ∧ w.z < ((S_l02Root w).val + 1) * ((S_l02Root w).val + 1):=by
  have h1:=w.hi.hi
  have h2:=w.lo.hi
  have h3:=w.lo.lo
  have hz : w.z = w.hi.val * 18446744073709551616 + w.lo.val:=rfl
  unfold S_l02Root
  refine ⟨root_sq w h 65 (cu64 0) (c64 63) (by rw [cu64_val]; omega),root_next w h 64 65 (cu64 0) (c64 63) (by rw [c64_v]; rfl) (by decide) (by decide) (by rw [cu64_val]; rfl) (by rw [cu64_val]; decide) ?_⟩
  rw [cu64_val]
  have : ((0 : Int) + 2 ^ 64) * (0 + 2 ^ 64) = 340282366920938463463374607431768211456:=by decide
  rw [this]
  omega
theorem sq_lt {a b : Int} (ha : 0 ≤ a) (hb : 0 ≤ b) (h : a * a < b * b) : a < b:=by
  by_cases q : a < b
  · exact q
  · have : b * b ≤ a * a:=Int.mul_le_mul (by omega) (by omega) hb ha
    omega
theorem root_mono {v w : Wd} (hv : 0 ≤ v.hi.val) (hw : 0 ≤ w.hi.val) (h : v.z ≤ w.z) : (S_l02Root v).val ≤ (S_l02Root w).val:=by
  obtain ⟨a1,_⟩:=Root_val v hv
  obtain ⟨_,b2⟩:=Root_val w hw
  have x0:=(S_l02Root v).lo
  have y0:=(S_l02Root w).lo
  have:=sq_lt x0 (by omega : (0 : Int) ≤ (S_l02Root w).val + 1) (by omega)
  omega
theorem ixor_nonneg (x y : Int) (hx : 0 ≤ x) (hx2 : x ≤ 9223372036854775807) (hy : 0 ≤ y) (hy2 : y ≤ 9223372036854775807) : 0 ≤ (ixor .i64 x y).val:=by
  obtain ⟨a,rfl⟩:=Int.eq_ofNat_of_zero_le hx
  obtain ⟨b,rfl⟩:=Int.eq_ofNat_of_zero_le hy
  show 0 ≤ IntKind.i64.wrap ((BitVec.ofInt 64 (a : Int) ^^^ BitVec.ofInt 64 (b : Int)).toNat : Int)
  have e : (BitVec.ofInt 64 (a : Int) ^^^ BitVec.ofInt 64 (b : Int)).toNat = a ^^^ b:=by
    rw [BitVec.toNat_xor,BitVec.toNat_ofInt,BitVec.toNat_ofInt]
    have e1 : ((a : Int) % (2 ^ 64 : Nat)).toNat = a:=by omega
    have e2 : ((b : Int) % (2 ^ 64 : Nat)).toNat = b:=by omega
    rw [e1,e2]
  have hlt : a ^^^ b < 2 ^ 63:=Nat.xor_lt_two_pow (by omega) (by omega)
  rw [e,IntKind.wrap_i64]
  omega
theorem iand_nonneg (x y : Int) (hx : 0 ≤ x) (hx2 : x ≤ 9223372036854775807) : 0 ≤ (iand .i64 x y).val:=by
  obtain ⟨a,rfl⟩:=Int.eq_ofNat_of_zero_le hx
  show 0 ≤ IntKind.i64.wrap ((BitVec.ofInt 64 (a : Int) &&& BitVec.ofInt 64 y).toNat : Int)
  have e : (BitVec.ofInt 64 (a : Int) &&& BitVec.ofInt 64 y).toNat ≤ a:=by
    rw [BitVec.toNat_and,BitVec.toNat_ofInt]
    have e1 : ((a : Int) % (2 ^ 64 : Nat)).toNat = a:=by omega
    rw [e1]
    exact Nat.and_le_left
  rw [IntKind.wrap_i64]
  omega
theorem eq_WideAdd (a b : Wd) (ha : 0 ≤ a.hi.val) (hb : 0 ≤ b.hi.val) (h : a.z + b.z < 170141183460469231731687303715884105728) : I_WideAdd a b = (S_l02Plus a b,true) ∧ (S_l02Plus a b).z = a.z + b.z ∧ 0 ≤ (S_l02Plus a b).hi.val:=by
  have a1:=a.lo.lo
  have a2:=a.lo.hi
  have b1:=b.lo.lo
  have b2:=b.lo.hi
  have a3:=a.hi.hi
  have b3:=b.hi.hi
  have za : a.z = a.hi.val * 18446744073709551616 + a.lo.val:=rfl
  have zb : b.z = b.hi.val * 18446744073709551616 + b.lo.val:=rfl
  have ca : (adc_hi a.lo b.lo (cu64 0)).val = (a.lo.val + b.lo.val) / 18446744073709551616:=by rw [adc_hi_val,cu64_val,Int.add_zero]
  have cl : (adc_lo a.lo b.lo (cu64 0)).val = (a.lo.val + b.lo.val) % 18446744073709551616:=by rw [adc_lo_val,cu64_val,Int.add_zero]
  have ch : (w64 (adc_lo (wu64 a.hi.val) (wu64 b.hi.val) (adc_hi a.lo b.lo (cu64 0))).val).val = a.hi.val + b.hi.val + (a.lo.val + b.lo.val) / 18446744073709551616:=by
    rw [w64_val,adc_lo_val,ca,wu64_val,wu64_val]
    omega
  have pz : (S_l02Plus a b).z = a.z + b.z:=by
    obtain ⟨k,hk⟩:=Plus_z a b
    generalize S_l02Plus a b = Y at *
    have y1:=Y.lo.lo
    have y2:=Y.lo.hi
    have y3:=Y.hi.lo
    have y4:=Y.hi.hi
    have : Y.z = Y.hi.val * 18446744073709551616 + Y.lo.val:=rfl
    omega
  refine ⟨?_,pz,?_⟩
  · unfold I_WideAdd
    have x1:=ixor_nonneg a.hi.val (w64 (adc_lo (wu64 a.hi.val) (wu64 b.hi.val) (adc_hi a.lo b.lo (cu64 0))).val).val ha a3 (by omega) (by omega)
    have x2:=I64.hi (ixor .i64 a.hi.val (w64 (adc_lo (wu64 a.hi.val) (wu64 b.hi.val) (adc_hi a.lo b.lo (cu64 0))).val).val)
    have x3:=iand_nonneg _ (ixor .i64 b.hi.val (w64 (adc_lo (wu64 a.hi.val) (wu64 b.hi.val) (adc_hi a.lo b.lo (cu64 0))).val).val).val x1 x2
    rw [decide_eq_false (by omega),cond_f]
    have : (⟨w64 (adc_lo (wu64 a.hi.val) (wu64 b.hi.val) (adc_hi a.lo b.lo (cu64 0))).val,adc_lo a.lo b.lo (cu64 0)⟩ : Wd) = S_l02Plus a b:=by
      refine Wd.z_inj ?_
      rw [pz]
      show (w64 (adc_lo (wu64 a.hi.val) (wu64 b.hi.val) (adc_hi a.lo b.lo (cu64 0))).val).val * 18446744073709551616 + (adc_lo a.lo b.lo (cu64 0)).val = _
      rw [ch,cl,za,zb]
      omega
    rw [this]
  · generalize S_l02Plus a b = Y at *
    have y1:=Y.lo.lo
    have y2:=Y.lo.hi
    have : Y.z = Y.hi.val * 18446744073709551616 + Y.lo.val:=rfl
    omega
theorem Sum_val (a b c : I64) (ha : 0 ≤ a.val ∧ a.val < 1152921504606846976) (hb : 0 ≤ b.val ∧ b.val < 1152921504606846976) (hc : 0 ≤ c.val ∧ c.val < 1152921504606846976) :
    (S_l10Sum a b c).z = a.val * a.val + b.val * b.val + c.val * c.val ∧ 0 ≤ (S_l10Sum a b c).hi.val ∧ I_WideAdd (S_l02Mul a a) (S_l02Mul b b) = (S_l02Plus (S_l02Mul a a) (S_l02Mul b b),true) ∧
      I_WideAdd (S_l02Plus (S_l02Mul a a) (S_l02Mul b b)) (S_l02Mul c c) = (S_l10Sum a b c,true) ∧ (S_l10Sum a b c).z < 3987683987354747618711421180841033728:=by
  have key : ∀ x : I64,0 ≤ x.val ∧ x.val < 1152921504606846976 → 0 ≤ x.val * x.val ∧ x.val * x.val ≤ 1152921504606846975 * 1152921504606846975:=fun x hx=>⟨Int.mul_nonneg hx.1 hx.1,Int.mul_le_mul (by omega) (by omega) hx.1 (by decide)⟩
  have k1:=key a ha
  have k2:=key b hb
  have k3:=key c hc
  have m1:=sp_Mul a a
  have m2:=sp_Mul b b
  have m3:=sp_Mul c c
  obtain ⟨p1,p2,p3⟩:=eq_WideAdd (S_l02Mul a a) (S_l02Mul b b) (mul_hi a a ha.1 ha.1) (mul_hi b b hb.1 hb.1) (by omega)
  obtain ⟨q1,q2,q3⟩:=eq_WideAdd (S_l02Plus (S_l02Mul a a) (S_l02Mul b b)) (S_l02Mul c c) p3 (mul_hi c c hc.1 hc.1) (by omega)
  have es : S_l10Sum a b c = S_l02Plus (S_l02Plus (S_l02Mul a a) (S_l02Mul b b)) (S_l02Mul c c):=by
    unfold S_l10Sum
    simp only [bindP_e]
  rw [es]
  exact ⟨by omega,q3,p1,q1,by omega⟩
theorem eq_NormV (v : Vc) : I_NormV v = S_NormV v:=by
  unfold I_NormV S_NormV S_IsWhole S_Whole S_l10Ends
  simp only [bindP_e,eq_areBounded,eq_Whole,eq_IsWhole,eq_AbsI2,eq_bounded]
  cases hx : S_l04Ok v.x with
  | false=>simp only [Bool.false_and,Bool.not_false,cond_t]
  | true=>
    cases hy : S_l04Ok v.y with
    | false=>simp only [Bool.and_false,Bool.not_false,Bool.not_true,cond_t,cond_f]
    | true=>
      cases hz : S_l04Ok v.z with
      | false=>simp only [Bool.and_self,Bool.not_false,Bool.not_true,cond_t,cond_f]
      | true=>
        simp only [Bool.and_self,Bool.not_true,cond_f,AbsI_val hx,AbsI_val hy,AbsI_val hz]
        obtain ⟨x1,x2,x3⟩:=Ends_val hx
        obtain ⟨y1,y2,y3⟩:=Ends_val hy
        obtain ⟨z1,z2,z3⟩:=Ends_val hz
        generalize S_l04Ends v.x = x at *
        generalize S_l04Ends v.y = y at *
        generalize S_l04Ends v.z = z at *
        obtain ⟨a1,a2,a3,a4,a5⟩:=Sum_val x.1 y.1 z.1 (by omega) (by omega) (by omega)
        obtain ⟨b1,b2,b3,b4,b5⟩:=Sum_val x.2 y.2 z.2 (by omega) (by omega) (by omega)
        have hle : (S_l10Sum x.1 y.1 z.1).z ≤ (S_l10Sum x.2 y.2 z.2).z:=by
          have s1 : x.1.val * x.1.val ≤ x.2.val * x.2.val:=Int.mul_le_mul x2 x2 x1 (by omega)
          have s2 : y.1.val * y.1.val ≤ y.2.val * y.2.val:=Int.mul_le_mul y2 y2 y1 (by omega)
          have s3 : z.1.val * z.1.val ≤ z.2.val * z.2.val:=Int.mul_le_mul z2 z2 z1 (by omega)
          omega
        have mono:=root_mono a2 b2 hle
        unfold I_rootOfSquares
        simp only [bindP_e,eq_WideMul,a3,a4,b3,b4,eq_WideSqrt _ a2,eq_WideSqrt _ b2]
        have r0:=(S_l02Root (S_l10Sum x.1 y.1 z.1)).lo
        have s0:=(S_l02Root (S_l10Sum x.2 y.2 z.2)).lo
        have rb:=(Root_val _ b2).1
        have ru : (S_l02Root (S_l10Sum x.2 y.2 z.2)).val < 2305843009213693952:=by
          refine sq_lt s0 (by decide) ?_
          omega
        generalize S_l02Root (S_l10Sum x.1 y.1 z.1) = r at *
        generalize S_l02Root (S_l10Sum x.2 y.2 z.2) = s at *
        generalize S_l10Sum x.2 y.2 z.2 = S2 at *
        have er : (w64 r.val).val = r.val:=by rw [w64_val]; omega
        have e2 : (w64 s.val).val = s.val:=by rw [w64_val]; omega
        have e3 : (w64 ((w64 s.val).val + 1)).val = s.val + 1:=by rw [w64_val]; omega
        have c1 : ∀ (b : Bool) (x y z : I64),(bif b then (x,y) else (x,z)).1 = x:=fun b x y z=>by cases b <;> rfl
        rw [c1]
        generalize ((S_l02Mul (w64 s.val) (w64 s.val)).hi.val == S2.hi.val && (S_l02Mul (w64 s.val) (w64 s.val)).lo.val == S2.lo.val) = bb
        cases bb with
        | true=>
          simp only [Bool.not_true,cond_f]
          by_cases q : (w64 s.val).val ≥ 1152921504606846976
          · rw [decide_eq_true q,cond_t,Make_bad (by omega)]
          · rw [decide_eq_false q,cond_f,Make_ok (by omega)]
        | false=>
          simp only [Bool.not_false,cond_t]
          by_cases q : (w64 ((w64 s.val).val + 1)).val ≥ 1152921504606846976
          · rw [decide_eq_true q,cond_t,Make_bad (by omega)]
          · rw [decide_eq_false q,cond_f,Make_ok (by omega)]
theorem eq_fromAxis (v : Vc) : I_fromAxis v = S_l15Flat v:=by
  unfold I_fromAxis S_l15Flat
  simp only [bindP_e,eq_NormV]
theorem whole_bad : S_l04Ok S_l04Whole = false:=by decide
end Go.Proofs.YtfhnlkinjbakgaaGreat.Abs
