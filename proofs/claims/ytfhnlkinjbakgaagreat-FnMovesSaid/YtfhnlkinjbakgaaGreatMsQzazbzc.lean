/- Plain laws of the functions on numbers: what the program computes is what the reference computes. -/
import Derived.Test.YtfhnlkinjbakgaaGreatMsQvwxyz
import Derived.Test.YtfhnlkinjbakgaaGreatMsF4
set_option linter.unusedVariables false
set_option linter.unusedSimpArgs false
namespace Go.Proofs.YtfhnlkinjbakgaaGreat.Abs
open Go
theorem Int_true (w : Wd) (h : (S_l02Int w).2 = true) : (S_l02Int w).1.val = w.z:=by
  have a1:=w.lo.lo
  have a2:=w.lo.hi
  have hz : w.z = w.hi.val * 18446744073709551616 + w.lo.val:=rfl
  rw [hz]
  unfold S_l02Int S_l02Of at h ⊢
  simp only [bindP_e] at h ⊢
  have e:=w64_val w.lo.val
  generalize w64 w.lo.val = x at *
  by_cases hn : x.val < 0
  · simp only [hn,decide_true,cond_t,c64_v,wu64_val] at h ⊢
    cases q : (((-1 : Int) == w.hi.val) && (x.val % 18446744073709551616 == w.lo.val)) with
    | false=>rw [q] at h; simp only [Bool.not_false,cond_t] at h; cases h
    | true=>
      simp only [Bool.not_true,cond_f]
      simp only [Bool.and_eq_true,beq_iff_eq] at q
      omega
  · simp only [hn,decide_false,cond_f,c64_v,wu64_val] at h ⊢
    cases q : (((0 : Int) == w.hi.val) && (x.val % 18446744073709551616 == w.lo.val)) with
    | false=>rw [q] at h; simp only [Bool.not_false,cond_t] at h; cases h
    | true=>
      simp only [Bool.not_true,cond_f]
      simp only [Bool.and_eq_true,beq_iff_eq] at q
      omega
theorem End_true {a : I64} {c : Bool} (h : (S_l03End a c).2 = true) : c = true ∧ S_l03Ok a = true ∧ (S_l03End a c).1 = a:=by
  unfold S_l03End at h ⊢
  simp only [bindP_e] at h ⊢
  cases c with
  | false=>simp only [Bool.not_false,cond_t] at h; cases h
  | true=>
    simp only [Bool.not_true,cond_f] at h ⊢
    cases q : S_l03Ok a with
    | false=>rw [q] at h; simp only [Bool.not_false,cond_t] at h; cases h
    | true=>rw [q] at h; simp only [Bool.not_true,cond_f] at h ⊢; exact ⟨trivial,trivial,trivial⟩
theorem Ok3_p {a : I64} (h : S_l03Ok a = true) : -1152921504606846976 ≤ a.val ∧ a.val ≤ 1152921504606846976:=by
  rw [sp_Ok3] at h
  simp only [Bool.and_eq_true,decide_eq_true_eq] at h
  exact h
theorem MulDown_true {a b : I64} (h : (S_l03MulDown a b).2 = true) : S_l03Ok a = true ∧ S_l03Ok b = true ∧ S_l03Ok (S_l03MulDown a b).1 = true ∧ (S_l03MulDown a b).1.val = a.val * b.val / 4294967296:=by
  unfold S_l03MulDown S_MulFloor at h ⊢
  simp only [bindP_e] at h ⊢
  cases ha : S_l03Ok a with
  | false=>rw [ha] at h; simp only [Bool.not_false,cond_t] at h; cases h
  | true=>
    cases hb : S_l03Ok b with
    | false=>rw [ha,hb] at h; simp only [Bool.not_true,Bool.not_false,cond_t,cond_f] at h; cases h
    | true=>
      have e3 : S_l00In (c64 32) (c64 0) (c64 126) = true:=by decide
      simp only [ha,hb,e3,Bool.not_true,cond_f] at h ⊢
      obtain ⟨k1,k2,k3⟩:=End_true h
      have hv:=Int_true _ k1
      rw [Shift_z32,sp_Mul] at hv
      rw [k3]
      exact ⟨trivial,trivial,k2,hv⟩
theorem MulUp_true {a b : I64} (h : (S_l03MulUp a b).2 = true) : S_l03Ok a = true ∧ S_l03Ok b = true ∧ S_l03Ok (S_l03MulUp a b).1 = true ∧ (S_l03MulUp a b).1.val = -(-(a.val * b.val) / 4294967296):=by
  unfold S_l03MulUp at h ⊢
  simp only [bindP_e] at h ⊢
  cases ha : S_l03Ok a with
  | false=>rw [ha] at h; simp only [Bool.not_false,cond_t] at h; cases h
  | true=>
    cases hd : (S_l03MulDown (w64 (0 - a.val)) b).2 with
    | false=>rw [ha,hd] at h; simp only [Bool.not_true,Bool.not_false,cond_t,cond_f] at h; cases h
    | true=>
      obtain ⟨_,k2,k3,k4⟩:=MulDown_true hd
      have pa:=Ok3_p ha
      have pr:=Ok3_p k3
      have en : (w64 (0 - a.val)).val = -a.val:=by rw [w64_val]; omega
      rw [en,Int.neg_mul] at k4
      simp only [ha,hd,Bool.not_true,cond_f]
      have er : (w64 (0 - (S_l03MulDown (w64 (0 - a.val)) b).1.val)).val = -(S_l03MulDown (w64 (0 - a.val)) b).1.val:=by rw [w64_val]; omega
      exact ⟨trivial,k2,Ok3_of (by rw [er]; omega) (by rw [er]; omega),by rw [er,k4]⟩
theorem MulDivFloor_true {a b : I64} (ha : S_l03Ok a = true) (hb : 0 < b.val) (h : (S_MulDivFloor a (c64 4294967296) b).2 = true) : (S_MulDivFloor a (c64 4294967296) b).1.val = a.val * 4294967296 / b.val:=by
  have ha':=Ok3_p ha
  have hm : (S_l02Mul a (c64 4294967296)).z = a.val * 4294967296:=by rw [sp_Mul,c64_v]
  obtain ⟨s1,s2,s3⟩:=sp_Div (S_l02Mul a (c64 4294967296)) b hb (by rw [hm]; omega) (by rw [hm]; omega)
  rw [hm] at s1
  have hq : (S_l02Div (S_l02Mul a (c64 4294967296)) b).1.z = a.val * 4294967296 / b.val:=by
    generalize (S_l02Div (S_l02Mul a (c64 4294967296)) b).1.z = q at *
    generalize (S_l02Div (S_l02Mul a (c64 4294967296)) b).2.val = r at *
    rw [← s1,Int.mul_comm q,Int.add_comm,Int.add_mul_ediv_left _ _ (by omega),Int.ediv_eq_zero_of_lt s2 s3,Int.zero_add]
  unfold S_MulDivFloor at h ⊢
  have e5 : decide (b.val ≤ 0) = false:=decide_eq_false (by omega)
  simp only [bindP_e,e5,cond_f] at h ⊢
  rw [Int_true _ h,hq]
theorem DivDown_true {a b : I64} (h : (S_l03DivDown a b).2 = true) : S_l03Ok a = true ∧ S_l03Ok b = true ∧ b.val ≠ 0 ∧ S_l03Ok (S_l03DivDown a b).1 = true ∧
    (0 < b.val → (S_l03DivDown a b).1.val = a.val * 4294967296 / b.val) ∧ (b.val < 0 → (S_l03DivDown a b).1.val = -a.val * 4294967296 / -b.val):=by
  unfold S_l03DivDown at h ⊢
  simp only [bindP_e] at h ⊢
  cases ha : S_l03Ok a with
  | false=>rw [ha] at h; simp only [Bool.not_false,cond_t] at h; cases h
  | true=>
    cases hb : S_l03Ok b with
    | false=>rw [ha,hb] at h; simp only [Bool.not_true,Bool.not_false,cond_t,cond_f] at h; cases h
    | true=>
      have pa:=Ok3_p ha
      have pb:=Ok3_p hb
      have ea : (w64 (0 - a.val)).val = -a.val:=by rw [w64_val]; omega
      have eb : (w64 (0 - b.val)).val = -b.val:=by rw [w64_val]; omega
      by_cases hz : b.val = 0
      · have e : (b.val == 0) = true:=by simp [hz]
        simp only [ha,hb,e,Bool.not_true,cond_f,cond_t] at h
        cases h
      · have e : (b.val == 0) = false:=by simp [hz]
        by_cases hn : b.val < 0
        · have d : decide (b.val < 0) = true:=decide_eq_true hn
          simp only [ha,hb,e,d,Bool.not_true,cond_f,cond_t] at h ⊢
          obtain ⟨k1,k2,k3⟩:=End_true h
          have hv:=MulDivFloor_true (a:=w64 (0 - a.val)) (b:=w64 (0 - b.val)) (Ok3_of (by rw [ea]; omega) (by rw [ea]; omega)) (by rw [eb]; omega) k1
          rw [ea,eb] at hv
          rw [k3]
          exact ⟨trivial,trivial,hz,k2,fun h=>by omega,fun _=>hv⟩
        · have d : decide (b.val < 0) = false:=decide_eq_false hn
          simp only [ha,hb,e,d,Bool.not_true,cond_f] at h ⊢
          obtain ⟨k1,k2,k3⟩:=End_true h
          have hv:=MulDivFloor_true ha (by omega) k1
          rw [k3]
          exact ⟨trivial,trivial,hz,k2,fun _=>hv,fun h=>by omega⟩
theorem DivUp_true {a b : I64} (h : (S_l03DivUp a b).2 = true) : S_l03Ok (S_l03DivUp a b).1 = true ∧
    (0 < b.val → (S_l03DivUp a b).1.val = -(-a.val * 4294967296 / b.val)) ∧ (b.val < 0 → (S_l03DivUp a b).1.val = -(a.val * 4294967296 / -b.val)):=by
  unfold S_l03DivUp at h ⊢
  simp only [bindP_e] at h ⊢
  cases ha : S_l03Ok a with
  | false=>rw [ha] at h; simp only [Bool.not_false,cond_t] at h; cases h
  | true=>
    simp only [ha,Bool.not_true,cond_f] at h ⊢
    have pa:=Ok3_p ha
    have ea : (w64 (0 - a.val)).val = -a.val:=by rw [w64_val]; omega
    obtain ⟨_,_,_,k4,k5,k6⟩:=DivDown_true h
    have pr:=Ok3_p k4
    have er : (w64 (0 - (S_l03DivDown (w64 (0 - a.val)) b).1.val)).val = -(S_l03DivDown (w64 (0 - a.val)) b).1.val:=by rw [w64_val]; omega
    refine ⟨Ok3_of (by rw [er]; omega) (by rw [er]; omega),fun hb=>?_,fun hb=>?_⟩
    · rw [er,k5 hb,ea]
    · rw [er,k6 hb,ea,Int.neg_neg]
theorem div_bounds {q b : Int} (hb : 0 < b) : q / b * b ≤ q ∧ q ≤ -(-q / b) * b:=by
  have a2 : -q / b * b ≤ -q:=Int.ediv_mul_le _ (by omega)
  have a3 : q / b * b ≤ q:=Int.ediv_mul_le _ (by omega)
  exact ⟨a3,by rw [Int.neg_mul]; omega⟩
theorem Make_out {a b : I64} (h : S_l04Ok (S_l04Make a b) = true) : S_l04Make a b = ⟨a,b⟩:=by
  unfold S_l04Make at h ⊢
  simp only [bindP_e] at h ⊢
  cases q : S_l04Ok ⟨a,b⟩ with
  | false=>rw [q] at h; simp only [Bool.not_false,cond_t,whole_bad] at h; cases h
  | true=>simp only [Bool.not_true,cond_f]
theorem min_out (a b : I64) : (S_l00Min a b).val ≤ a.val ∧ (S_l00Min a b).val ≤ b.val:=by
  unfold S_l00Min
  by_cases h : a.val < b.val
  · rw [decide_eq_true h,cond_t]; omega
  · rw [decide_eq_false h,cond_f]; omega
theorem max_out (a b : I64) : a.val ≤ (S_l00Max a b).val ∧ b.val ≤ (S_l00Max a b).val:=by
  unfold S_l00Max
  by_cases h : a.val > b.val
  · rw [decide_eq_true h,cond_t]; omega
  · rw [decide_eq_false h,cond_f]; omega
theorem max_is (a b : I64) : (S_l00Max a b).val = a.val ∨ (S_l00Max a b).val = b.val:=by
  unfold S_l00Max
  by_cases h : a.val > b.val
  · rw [decide_eq_true h,cond_t]; exact .inl rfl
  · rw [decide_eq_false h,cond_f]; exact .inr rfl
theorem min_is (a b : I64) : (S_l00Min a b).val = a.val ∨ (S_l00Min a b).val = b.val:=by
  unfold S_l00Min
  by_cases h : a.val < b.val
  · rw [decide_eq_true h,cond_t]; exact .inl rfl
  · rw [decide_eq_false h,cond_f]; exact .inr rfl
theorem AddI_out {a b : Iv} (h : S_l04Ok (S_AddI a b) = true) : S_l04Ok a = true ∧ S_l04Ok b = true ∧ (S_AddI a b).lo.val = a.lo.val + b.lo.val ∧ (S_AddI a b).hi.val = a.hi.val + b.hi.val:=by
  unfold S_AddI at h ⊢
  simp only [bindP_e] at h ⊢
  cases ha : S_l04Ok a with
  | false=>rw [ha] at h; simp only [Bool.not_false,cond_t,whole_bad] at h; cases h
  | true=>
    cases hb : S_l04Ok b with
    | false=>rw [ha,hb] at h; simp only [Bool.not_true,Bool.not_false,cond_t,cond_f,whole_bad] at h; cases h
    | true=>
      simp only [ha,hb,Bool.not_true,cond_f] at h ⊢
      have pa:=Ok4p ha
      have pb:=Ok4p hb
      rw [Make_out h]
      refine ⟨trivial,trivial,?_,?_⟩
      · show (w64 (a.lo.val + b.lo.val)).val = _; rw [w64_val]; omega
      · show (w64 (a.hi.val + b.hi.val)).val = _; rw [w64_val]; omega
theorem SubI_out {a b : Iv} (h : S_l04Ok (S_SubI a b) = true) : S_l04Ok a = true ∧ S_l04Ok b = true ∧ (S_SubI a b).lo.val = a.lo.val - b.hi.val ∧ (S_SubI a b).hi.val = a.hi.val - b.lo.val:=by
  unfold S_SubI at h ⊢
  simp only [bindP_e] at h ⊢
  cases ha : S_l04Ok a with
  | false=>rw [ha] at h; simp only [Bool.not_false,cond_t,whole_bad] at h; cases h
  | true=>
    cases hb : S_l04Ok b with
    | false=>rw [ha,hb] at h; simp only [Bool.not_true,Bool.not_false,cond_t,cond_f,whole_bad] at h; cases h
    | true=>
      simp only [ha,hb,Bool.not_true,cond_f] at h ⊢
      have pa:=Ok4p ha
      have pb:=Ok4p hb
      rw [Make_out h]
      refine ⟨trivial,trivial,?_,?_⟩
      · show (w64 (a.lo.val - b.hi.val)).val = _; rw [w64_val]; omega
      · show (w64 (a.hi.val - b.lo.val)).val = _; rw [w64_val]; omega
theorem MulI_out {a b : Iv} (h : S_l04Ok (S_MulI a b) = true) : S_l04Ok a = true ∧ S_l04Ok b = true ∧
    (S_MulI a b).lo.val * 4294967296 ≤ a.lo.val * b.lo.val ∧ a.lo.val * b.lo.val ≤ (S_MulI a b).hi.val * 4294967296 ∧ (S_MulI a b).lo.val * 4294967296 ≤ a.lo.val * b.hi.val ∧ a.lo.val * b.hi.val ≤ (S_MulI a b).hi.val * 4294967296 ∧
    (S_MulI a b).lo.val * 4294967296 ≤ a.hi.val * b.lo.val ∧ a.hi.val * b.lo.val ≤ (S_MulI a b).hi.val * 4294967296 ∧ (S_MulI a b).lo.val * 4294967296 ≤ a.hi.val * b.hi.val ∧ a.hi.val * b.hi.val ≤ (S_MulI a b).hi.val * 4294967296:=by
  unfold S_MulI at h ⊢
  simp only [bindP_e] at h ⊢
  cases ha : S_l04Ok a with
  | false=>rw [ha] at h; simp only [Bool.not_false,cond_t,whole_bad] at h; cases h
  | true=>
  cases hb : S_l04Ok b with
  | false=>rw [ha,hb] at h; simp only [Bool.not_true,Bool.not_false,cond_t,cond_f,whole_bad] at h; cases h
  | true=>
  simp only [ha,hb,Bool.not_true,cond_f] at h ⊢
  cases d1 : (S_l03MulDown a.lo b.lo).2 with
  | false=>rw [d1] at h; simp only [Bool.not_false,cond_t,whole_bad] at h; cases h
  | true=>
  cases u1 : (S_l03MulUp a.lo b.lo).2 with
  | false=>rw [d1,u1] at h; simp only [Bool.not_true,Bool.not_false,cond_t,cond_f,whole_bad] at h; cases h
  | true=>
  simp only [d1,u1,Bool.not_true,cond_f] at h ⊢
  cases d2 : (S_l03MulDown a.lo b.hi).2 with
  | false=>rw [d2] at h; simp only [Bool.not_false,cond_t,whole_bad] at h; cases h
  | true=>
  cases u2 : (S_l03MulUp a.lo b.hi).2 with
  | false=>rw [d2,u2] at h; simp only [Bool.not_true,Bool.not_false,cond_t,cond_f,whole_bad] at h; cases h
  | true=>
  simp only [d2,u2,Bool.not_true,cond_f] at h ⊢
  cases d3 : (S_l03MulDown a.hi b.lo).2 with
  | false=>rw [d3] at h; simp only [Bool.not_false,cond_t,whole_bad] at h; cases h
  | true=>
  cases u3 : (S_l03MulUp a.hi b.lo).2 with
  | false=>rw [d3,u3] at h; simp only [Bool.not_true,Bool.not_false,cond_t,cond_f,whole_bad] at h; cases h
  | true=>
  simp only [d3,u3,Bool.not_true,cond_f] at h ⊢
  cases d4 : (S_l03MulDown a.hi b.hi).2 with
  | false=>rw [d4] at h; simp only [Bool.not_false,cond_t,whole_bad] at h; cases h
  | true=>
  cases u4 : (S_l03MulUp a.hi b.hi).2 with
  | false=>rw [d4,u4] at h; simp only [Bool.not_true,Bool.not_false,cond_t,cond_f,whole_bad] at h; cases h
  | true=>
  simp only [d4,u4,Bool.not_true,cond_f] at h ⊢
  rw [Make_out h]
  obtain ⟨_,_,_,v1⟩:=MulDown_true d1
  obtain ⟨_,_,_,v2⟩:=MulDown_true d2
  obtain ⟨_,_,_,v3⟩:=MulDown_true d3
  obtain ⟨_,_,_,v4⟩:=MulDown_true d4
  obtain ⟨_,_,_,w1⟩:=MulUp_true u1
  obtain ⟨_,_,_,w2⟩:=MulUp_true u2
  obtain ⟨_,_,_,w3⟩:=MulUp_true u3
  obtain ⟨_,_,_,w4⟩:=MulUp_true u4
  have m4:=min_out (S_l00Min (S_l00Min (S_l00Min (c64 1152921504606846976) (S_l03MulDown a.lo b.lo).1) (S_l03MulDown a.lo b.hi).1) (S_l03MulDown a.hi b.lo).1) (S_l03MulDown a.hi b.hi).1
  have m3:=min_out (S_l00Min (S_l00Min (c64 1152921504606846976) (S_l03MulDown a.lo b.lo).1) (S_l03MulDown a.lo b.hi).1) (S_l03MulDown a.hi b.lo).1
  have m2:=min_out (S_l00Min (c64 1152921504606846976) (S_l03MulDown a.lo b.lo).1) (S_l03MulDown a.lo b.hi).1
  have m1:=min_out (c64 1152921504606846976) (S_l03MulDown a.lo b.lo).1
  have n4:=max_out (S_l00Max (S_l00Max (S_l00Max (c64 (-1152921504606846976)) (S_l03MulUp a.lo b.lo).1) (S_l03MulUp a.lo b.hi).1) (S_l03MulUp a.hi b.lo).1) (S_l03MulUp a.hi b.hi).1
  have n3:=max_out (S_l00Max (S_l00Max (c64 (-1152921504606846976)) (S_l03MulUp a.lo b.lo).1) (S_l03MulUp a.lo b.hi).1) (S_l03MulUp a.hi b.lo).1
  have n2:=max_out (S_l00Max (c64 (-1152921504606846976)) (S_l03MulUp a.lo b.lo).1) (S_l03MulUp a.lo b.hi).1
  have n1:=max_out (c64 (-1152921504606846976)) (S_l03MulUp a.lo b.lo).1
  refine ⟨trivial,trivial,?_⟩
  dsimp only
  generalize a.lo.val * b.lo.val = q1 at *
  generalize a.lo.val * b.hi.val = q2 at *
  generalize a.hi.val * b.lo.val = q3 at *
  generalize a.hi.val * b.hi.val = q4 at *
  generalize S_l00Min (S_l00Min (S_l00Min (S_l00Min (c64 1152921504606846976) (S_l03MulDown a.lo b.lo).1) (S_l03MulDown a.lo b.hi).1) (S_l03MulDown a.hi b.lo).1) (S_l03MulDown a.hi b.hi).1 = lo at *
  generalize S_l00Max (S_l00Max (S_l00Max (S_l00Max (c64 (-1152921504606846976)) (S_l03MulUp a.lo b.lo).1) (S_l03MulUp a.lo b.hi).1) (S_l03MulUp a.hi b.lo).1) (S_l03MulUp a.hi b.hi).1 = hi at *
  refine ⟨?_,?_,?_,?_,?_,?_,?_,?_⟩ <;> omega
theorem DivI_out {a b : Iv} (h : S_l04Ok (S_DivI a b) = true) : S_l04Ok a = true ∧ S_l04Ok b = true ∧ (0 < b.lo.val ∨ b.hi.val < 0) ∧
    (∀ x y : Int,(x = a.lo.val ∨ x = a.hi.val) → (y = b.lo.val ∨ y = b.hi.val) → (0 < y → (S_DivI a b).lo.val * y ≤ x * 4294967296 ∧ x * 4294967296 ≤ (S_DivI a b).hi.val * y) ∧ (y < 0 → (S_DivI a b).hi.val * y ≤ x * 4294967296 ∧ x * 4294967296 ≤ (S_DivI a b).lo.val * y)):=by
  unfold S_DivI at h ⊢
  simp only [bindP_e] at h ⊢
  cases ha : S_l04Ok a with
  | false=>rw [ha] at h; simp only [Bool.not_false,cond_t,whole_bad] at h; cases h
  | true=>
  cases hb : S_l04Ok b with
  | false=>rw [ha,hb] at h; simp only [Bool.not_true,Bool.not_false,cond_t,cond_f,whole_bad] at h; cases h
  | true=>
  cases hz : S_l04Has b (c64 0) with
  | true=>rw [ha,hb,hz] at h; simp only [Bool.not_true,cond_t,cond_f,whole_bad] at h; cases h
  | false=>
  simp only [ha,hb,hz,Bool.not_true,cond_f] at h ⊢
  cases d1 : (S_l03DivDown a.lo b.lo).2 with
  | false=>rw [d1] at h; simp only [Bool.not_false,cond_t,whole_bad] at h; cases h
  | true=>
  cases u1 : (S_l03DivUp a.lo b.lo).2 with
  | false=>rw [d1,u1] at h; simp only [Bool.not_true,Bool.not_false,cond_t,cond_f,whole_bad] at h; cases h
  | true=>
  simp only [d1,u1,Bool.not_true,cond_f] at h ⊢
  cases d2 : (S_l03DivDown a.lo b.hi).2 with
  | false=>rw [d2] at h; simp only [Bool.not_false,cond_t,whole_bad] at h; cases h
  | true=>
  cases u2 : (S_l03DivUp a.lo b.hi).2 with
  | false=>rw [d2,u2] at h; simp only [Bool.not_true,Bool.not_false,cond_t,cond_f,whole_bad] at h; cases h
  | true=>
  simp only [d2,u2,Bool.not_true,cond_f] at h ⊢
  cases d3 : (S_l03DivDown a.hi b.lo).2 with
  | false=>rw [d3] at h; simp only [Bool.not_false,cond_t,whole_bad] at h; cases h
  | true=>
  cases u3 : (S_l03DivUp a.hi b.lo).2 with
  | false=>rw [d3,u3] at h; simp only [Bool.not_true,Bool.not_false,cond_t,cond_f,whole_bad] at h; cases h
  | true=>
  simp only [d3,u3,Bool.not_true,cond_f] at h ⊢
  cases d4 : (S_l03DivDown a.hi b.hi).2 with
  | false=>rw [d4] at h; simp only [Bool.not_false,cond_t,whole_bad] at h; cases h
  | true=>
  cases u4 : (S_l03DivUp a.hi b.hi).2 with
  | false=>rw [d4,u4] at h; simp only [Bool.not_true,Bool.not_false,cond_t,cond_f,whole_bad] at h; cases h
  | true=>
  simp only [d4,u4,Bool.not_true,cond_f] at h ⊢
  rw [Make_out h]
  have hb4:=Ok4p hb
  have sgn : 0 < b.lo.val ∨ b.hi.val < 0:=by
    unfold S_l04Has at hz
    rw [bindP_e,sp_in,c64_v] at hz
    by_cases q1 : b.lo.val ≤ 0
    · by_cases q2 : 0 ≤ b.hi.val
      · rw [decide_eq_true q1,decide_eq_true q2] at hz; cases hz
      · omega
    · omega
  refine ⟨trivial,trivial,sgn,?_⟩
  have m4:=min_out (S_l00Min (S_l00Min (S_l00Min (c64 1152921504606846976) (S_l03DivDown a.lo b.lo).1) (S_l03DivDown a.lo b.hi).1) (S_l03DivDown a.hi b.lo).1) (S_l03DivDown a.hi b.hi).1
  have m3:=min_out (S_l00Min (S_l00Min (c64 1152921504606846976) (S_l03DivDown a.lo b.lo).1) (S_l03DivDown a.lo b.hi).1) (S_l03DivDown a.hi b.lo).1
  have m2:=min_out (S_l00Min (c64 1152921504606846976) (S_l03DivDown a.lo b.lo).1) (S_l03DivDown a.lo b.hi).1
  have m1:=min_out (c64 1152921504606846976) (S_l03DivDown a.lo b.lo).1
  have n4:=max_out (S_l00Max (S_l00Max (S_l00Max (c64 (-1152921504606846976)) (S_l03DivUp a.lo b.lo).1) (S_l03DivUp a.lo b.hi).1) (S_l03DivUp a.hi b.lo).1) (S_l03DivUp a.hi b.hi).1
  have n3:=max_out (S_l00Max (S_l00Max (c64 (-1152921504606846976)) (S_l03DivUp a.lo b.lo).1) (S_l03DivUp a.lo b.hi).1) (S_l03DivUp a.hi b.lo).1
  have n2:=max_out (S_l00Max (c64 (-1152921504606846976)) (S_l03DivUp a.lo b.lo).1) (S_l03DivUp a.lo b.hi).1
  have n1:=max_out (c64 (-1152921504606846976)) (S_l03DivUp a.lo b.lo).1
  generalize (S_l00Min (S_l00Min (S_l00Min (S_l00Min (c64 1152921504606846976) (S_l03DivDown a.lo b.lo).1) (S_l03DivDown a.lo b.hi).1) (S_l03DivDown a.hi b.lo).1) (S_l03DivDown a.hi b.hi).1) = lo at *
  generalize (S_l00Max (S_l00Max (S_l00Max (S_l00Max (c64 (-1152921504606846976)) (S_l03DivUp a.lo b.lo).1) (S_l03DivUp a.lo b.hi).1) (S_l03DivUp a.hi b.lo).1) (S_l03DivUp a.hi b.hi).1) = hi at *
  have one : ∀ x y : I64,(S_l03DivDown x y).2 = true → (S_l03DivUp x y).2 = true → lo.val ≤ (S_l03DivDown x y).1.val → (S_l03DivUp x y).1.val ≤ hi.val →
      (0 < y.val → lo.val * y.val ≤ x.val * 4294967296 ∧ x.val * 4294967296 ≤ hi.val * y.val) ∧ (y.val < 0 → hi.val * y.val ≤ x.val * 4294967296 ∧ x.val * 4294967296 ≤ lo.val * y.val):=fun x y hd hu hl hh=>by
    obtain ⟨_,_,_,_,v1,v2⟩:=DivDown_true hd
    obtain ⟨_,w1,w2⟩:=DivUp_true hu
    refine ⟨fun hy=>?_,fun hy=>?_⟩
    · have e1:=v1 hy
      have e2:=w1 hy
      rw [Int.neg_mul] at e2
      obtain ⟨g1,g2⟩:=div_bounds (q:=x.val * 4294967296) hy
      rw [← e1] at g1
      rw [← e2] at g2
      exact ⟨Int.le_trans (Int.mul_le_mul_of_nonneg_right hl (by omega)) g1,Int.le_trans g2 (Int.mul_le_mul_of_nonneg_right hh (by omega))⟩
    · have e1:=v2 hy
      have e2:=w2 hy
      obtain ⟨g1,g2⟩:=div_bounds (q:=-x.val * 4294967296) (b:=-y.val) (by omega)
      rw [← e1] at g1
      have e3 : -(-x.val * 4294967296) = x.val * 4294967296:=by omega
      rw [e3,← e2] at g2
      have k1 : lo.val * -y.val ≤ (S_l03DivDown x y).1.val * -y.val:=Int.mul_le_mul_of_nonneg_right hl (by omega)
      have k2 : (S_l03DivUp x y).1.val * -y.val ≤ hi.val * -y.val:=Int.mul_le_mul_of_nonneg_right hh (by omega)
      rw [Int.mul_neg lo.val] at k1
      rw [Int.mul_neg hi.val] at k2
      have k3 : lo.val * y.val ≥ x.val * 4294967296:=by omega
      have k4 : hi.val * y.val ≤ x.val * 4294967296:=by omega
      exact ⟨k4,k3⟩
  intro x y hx hy
  rcases hx with rfl | rfl <;> rcases hy with rfl | rfl
  · exact one _ _ d1 u1 (by omega) (by omega)
  · exact one _ _ d2 u2 (by omega) (by omega)
  · exact one _ _ d3 u3 (by omega) (by omega)
  · exact one _ _ d4 u4 (by omega) (by omega)
theorem Ends_out {a : Iv} (ha : S_l04Ok a = true) : 0 ≤ (S_l04Ends a).1.val ∧ 0 ≤ (S_l04Ends a).2.val ∧ ∀ u : Int,a.lo.val ≤ u → u ≤ a.hi.val → (S_l04Ends a).1.val * (S_l04Ends a).1.val ≤ u * u ∧ u * u ≤ (S_l04Ends a).2.val * (S_l04Ends a).2.val:=by
  have pa:=Ok4p ha
  unfold S_l04Ends S_l04Has
  simp only [bindP_e]
  have el : (w64 (0 - a.lo.val)).val = -a.lo.val:=by rw [w64_val]; omega
  have eh : (w64 (0 - a.hi.val)).val = -a.hi.val:=by rw [w64_val]; omega
  have p1:=max_out a.lo (w64 (0 - a.lo.val))
  have p2:=max_is a.lo (w64 (0 - a.lo.val))
  have q1:=max_out a.hi (w64 (0 - a.hi.val))
  have q2:=max_is a.hi (w64 (0 - a.hi.val))
  rw [el] at p1 p2
  rw [eh] at q1 q2
  generalize S_l00Max a.lo (w64 (0 - a.lo.val)) = p at *
  generalize S_l00Max a.hi (w64 (0 - a.hi.val)) = q at *
  have far:=max_out p q
  have fari:=max_is p q
  have sq : ∀ u v : Int,0 ≤ u → u ≤ v → u * u ≤ v * v:=fun u v h1 h2=>Int.mul_le_mul h2 h2 h1 (by omega)
  have ab : ∀ u v : Int,-v ≤ u → u ≤ v → u * u ≤ v * v:=fun u v h1 h2=>by
    by_cases h : 0 ≤ u
    · exact sq u v h h2
    · have:=sq (-u) v (by omega) (by omega)
      rw [Int.neg_mul_neg] at this
      exact this
  have lb : ∀ u v : Int,0 ≤ v → (v ≤ u ∨ u ≤ -v) → v * v ≤ u * u:=fun u v h0 h=>by
    rcases h with h | h
    · exact sq v u h0 h
    · have:=sq v (-u) h0 (by omega)
      rw [Int.neg_mul_neg] at this
      exact this
  rw [sp_in,c64_v]
  by_cases h0 : a.lo.val ≤ 0 ∧ 0 ≤ a.hi.val
  · rw [decide_eq_true h0.1,decide_eq_true h0.2,Bool.and_self,cond_t]
    simp only [c64_v]
    refine ⟨by omega,by omega,fun u h1 h2=>⟨?_,ab _ _ (by omega) (by omega)⟩⟩
    rw [Int.mul_zero]
    exact lb u 0 (by omega) (by omega)
  · have e : (decide (a.lo.val ≤ 0) && decide (0 ≤ a.hi.val)) = false:=by
      by_cases h1 : a.lo.val ≤ 0
      · rw [decide_eq_true h1,decide_eq_false (by omega)]; rfl
      · rw [decide_eq_false h1]; rfl
    rw [e,cond_f]
    have nr:=min_out p q
    have nri:=min_is p q
    dsimp only
    refine ⟨by omega,by omega,fun u h1 h2=>⟨lb u _ (by omega) (by omega),ab _ _ (by omega) (by omega)⟩⟩
theorem SqrI_out {a : Iv} (h : S_l04Ok (S_SqrI a) = true) : S_l04Ok a = true ∧ 0 ≤ (S_SqrI a).lo.val ∧ ∀ u : Int,a.lo.val ≤ u → u ≤ a.hi.val → (S_SqrI a).lo.val * 4294967296 ≤ u * u ∧ u * u ≤ (S_SqrI a).hi.val * 4294967296:=by
  unfold S_SqrI at h ⊢
  simp only [bindP_e] at h ⊢
  cases ha : S_l04Ok a with
  | false=>rw [ha] at h; simp only [Bool.not_false,cond_t,whole_bad] at h; cases h
  | true=>
  simp only [ha,Bool.not_true,cond_f] at h ⊢
  cases d1 : (S_l03MulDown (S_l04Ends a).1 (S_l04Ends a).1).2 with
  | false=>rw [d1] at h; simp only [Bool.not_false,cond_t,whole_bad] at h; cases h
  | true=>
  cases u1 : (S_l03MulUp (S_l04Ends a).2 (S_l04Ends a).2).2 with
  | false=>rw [d1,u1] at h; simp only [Bool.not_true,Bool.not_false,cond_t,cond_f,whole_bad] at h; cases h
  | true=>
  simp only [d1,u1,Bool.not_true,cond_f] at h ⊢
  rw [Make_out h]
  obtain ⟨_,_,_,v1⟩:=MulDown_true d1
  obtain ⟨_,_,_,w1⟩:=MulUp_true u1
  obtain ⟨e0,e1,e2⟩:=Ends_out ha
  have n0:=Int.mul_nonneg e0 e0
  refine ⟨trivial,?_,fun u h1 h2=>?_⟩
  · show 0 ≤ (S_l03MulDown (S_l04Ends a).1 (S_l04Ends a).1).1.val
    rw [v1]
    omega
  · obtain ⟨g1,g2⟩:=e2 u h1 h2
    show (S_l03MulDown (S_l04Ends a).1 (S_l04Ends a).1).1.val * 4294967296 ≤ u * u ∧ u * u ≤ (S_l03MulUp (S_l04Ends a).2 (S_l04Ends a).2).1.val * 4294967296
    rw [v1,w1]
    generalize (S_l04Ends a).1.val * (S_l04Ends a).1.val = r1 at *
    generalize (S_l04Ends a).2.val * (S_l04Ends a).2.val = r2 at *
    generalize u * u = r3 at *
    omega
theorem times_no (x : U64) (w : Wd) (h : 0 ≤ w.hi.val) (h1 : decide ((S_l02Times x x).1.val < (wu64 w.hi.val).val) = false) (h2 : ((S_l02Times x x).1.val == (wu64 w.hi.val).val) = false ∨ decide ((S_l02Times x x).2.val ≤ w.lo.val) = false) : w.z < x.val * x.val:=by
  have e:=sp_Times x x
  have a1:=(S_l02Times x x).2.lo
  have a2:=(S_l02Times x x).2.hi
  have a3:=w.lo.lo
  have a4:=w.lo.hi
  have a5:=w.hi.hi
  have eh : (wu64 w.hi.val).val = w.hi.val:=by rw [wu64_val]; omega
  have hz : w.z = w.hi.val * 18446744073709551616 + w.lo.val:=rfl
  generalize x.val * x.val = q at *
  rw [eh] at h1 h2
  simp only [decide_eq_false_iff_not,beq_eq_false_iff_ne,ne_eq] at h1 h2
  rcases h2 with h2 | h2 <;> omega
theorem root_max (w : Wd) (h : 0 ≤ w.hi.val) : ∀ (N fu : Nat) (x : U64) (i : I64),i.val = (N : Int) - 1 → N < fu → N ≤ 64 → (∃ k : Int,x.val = 2 ^ N * k) → x.val * x.val ≤ w.z → w.z < (x.val + 2 ^ N) * (x.val + 2 ^ N) →
    (S_l02Root_L0 fu w x i).val * (S_l02Root_L0 fu w x i).val ≤ w.z ∧ w.z < ((S_l02Root_L0 fu w x i).val + 1) * ((S_l02Root_L0 fu w x i).val + 1):=by
  intro N
  induction N with
  | zero=>
    intro fu x i hi hf _ _ h1 h2
    obtain ⟨fu,rfl⟩:=Nat.exists_eq_succ_of_ne_zero (by omega : fu ≠ 0)
    unfold S_l02Root_L0
    have d : decide (i.val ≥ 0) = false:=decide_eq_false (by omega)
    rw [d,cond_f]
    exact ⟨h1,by simpa using h2⟩
  | succ N ih=>
    intro fu x i hi hf hN hk h1 h2
    obtain ⟨fu,rfl⟩:=Nat.exists_eq_succ_of_ne_zero (by omega : fu ≠ 0)
    obtain ⟨k,hk⟩:=hk
    have hp : (2 : Int) ^ (N + 1) = 2 ^ N * 2:=Int.pow_succ ..
    have hP : (0 : Int) < 2 ^ N:=Int.pow_pos (by omega)
    have d : decide (i.val ≥ 0) = true:=decide_eq_true (by omega)
    have ei : (wu64 i.val).val = (N : Int):=by rw [wu64_val]; omega
    have e2 : (w64 (i.val - 1)).val = (N : Int) - 1:=by rw [w64_val]; omega
    have hlt : (2 : Int) ^ N < 18446744073709551616:=by
      have : (2 : Nat) ^ N ≤ 2 ^ 63:=Nat.pow_le_pow_right (by omega) (by omega)
      have e : ((2 : Int) ^ N) = ((2 ^ N : Nat) : Int):=by rw [Int.natCast_pow]; rfl
      rw [e]
      have : (2 : Nat) ^ 63 = 9223372036854775808:=by decide
      omega
    have eb : (ishl .u64 1 (N : Int)).val = 2 ^ N:=by
      show IntKind.u64.wrap (1 * 2 ^ (min ((N : Int)).toNat 64)) = _
      rw [IntKind.wrap_u64,Int.toNat_natCast,Nat.min_eq_left (by omega),Int.one_mul,Int.emod_eq_of_lt (by omega) hlt]
    have ey : (ior .u64 x.val (ishl .u64 1 (wu64 i.val).val).val).val = x.val + 2 ^ N:=by
      rw [ei,eb]
      have x1:=x.hi
      exact or_add (N + 1) _ _ x.lo (by omega) (by rw [hk,Int.mul_emod_right]) (by omega) (by rw [hp]; omega) hN
    unfold S_l02Root_L0
    simp only [bindP_e,d,cond_t]
    generalize ior .u64 x.val (ishl .u64 1 (wu64 i.val).val).val = y at *
    obtain ⟨c1,c2⟩:=times_cmp y w h
    have yes : y.val * y.val ≤ w.z → (S_l02Root_L0 fu w y (w64 (i.val - 1))).val * (S_l02Root_L0 fu w y (w64 (i.val - 1))).val ≤ w.z ∧ w.z < ((S_l02Root_L0 fu w y (w64 (i.val - 1))).val + 1) * ((S_l02Root_L0 fu w y (w64 (i.val - 1))).val + 1):=fun hy=>
      ih fu y (w64 (i.val - 1)) e2 (by omega) (by omega) ⟨k * 2 + 1,by rw [ey,hk,hp,Int.mul_add,Int.mul_one,Int.mul_assoc,Int.mul_comm 2 k]⟩ hy (by
        have : y.val + 2 ^ N = x.val + 2 ^ (N + 1):=by rw [ey,hp]; omega
        rw [this]; exact h2)
    have no : w.z < y.val * y.val → (S_l02Root_L0 fu w x (w64 (i.val - 1))).val * (S_l02Root_L0 fu w x (w64 (i.val - 1))).val ≤ w.z ∧ w.z < ((S_l02Root_L0 fu w x (w64 (i.val - 1))).val + 1) * ((S_l02Root_L0 fu w x (w64 (i.val - 1))).val + 1):=fun hy=>
      ih fu x (w64 (i.val - 1)) e2 (by omega) (by omega) ⟨2 * k,by rw [hk,hp,Int.mul_assoc]⟩ h1 (by rw [← ey]; exact hy)
    cases q1 : decide ((S_l02Times y y).1.val < (wu64 w.hi.val).val) with
    | true=>rw [cond_t]; exact yes (c1 q1)
    | false=>
      rw [cond_f]
      cases q2 : ((S_l02Times y y).1.val == (wu64 w.hi.val).val) with
      | false=>rw [cond_f]; exact no (times_no y w h q1 (.inl q2))
      | true=>
        rw [cond_t]
        cases q3 : decide ((S_l02Times y y).2.val ≤ w.lo.val) with
        | false=>rw [cond_f]; exact no (times_no y w h q1 (.inr q3))
        | true=>rw [cond_t]; exact yes (c2 q2 q3)
theorem SqrtDown_max (a : I64) (h0 : 0 ≤ a.val) (h1 : a.val ≤ 1152921504606846976) : ∃ r : I64,S_l03SqrtDown a = (r,true) ∧ 0 ≤ r.val ∧ r.val ≤ 70368744177664 ∧ r.val * r.val ≤ a.val * 4294967296 ∧ a.val * 4294967296 < (r.val + 1) * (r.val + 1):=by
  have hz:=sp_Mul a (c64 4294967296)
  rw [c64_v] at hz
  have hq:=root_max (S_l02Mul a (c64 4294967296)) (mul_hi a _ h0 (by decide)) 64 65 (cu64 0) (c64 63) (by rw [c64_v]; rfl) (by omega) (by omega) ⟨0,by decide⟩ (by rw [hz]; show (0 : Int) * 0 ≤ _; omega) (by
    rw [hz]
    show _ < ((0 : Int) + 2 ^ 64) * (0 + 2 ^ 64)
    rw [show ((0 : Int) + 2 ^ 64) * (0 + 2 ^ 64) = 340282366920938463463374607431768211456 by decide]
    omega)
  rw [hz] at hq
  have hx0:=(S_l02Root (S_l02Mul a (c64 4294967296))).lo
  have hx1 : (S_l02Root (S_l02Mul a (c64 4294967296))).val ≤ 70368744177664:=sqrt_le (Int.le_trans hq.1 (by omega))
  have e : (w64 (S_l02Root (S_l02Mul a (c64 4294967296))).val).val = (S_l02Root (S_l02Mul a (c64 4294967296))).val:=by rw [w64_val]; omega
  refine ⟨w64 (S_l02Root (S_l02Mul a (c64 4294967296))).val,?_,by omega,by omega,by rw [e]; exact hq.1,by rw [e]; exact hq.2⟩
  unfold S_l03SqrtDown S_SqrtFloor
  have d1 : decide (a.val < 0) = false:=decide_eq_false (by omega)
  have d2 : decide ((c64 4294967296).val < 0) = false:=by decide
  have d3 : S_l00In a (c64 0) (c64 1152921504606846976) = true:=by
    rw [sp_in]
    simp only [Bool.and_eq_true,decide_eq_true_eq,c64_v]
    omega
  simp only [bindP_e,d1,d2,d3,Bool.not_true,cond_f]
theorem SqrtUp_max (a : I64) (h0 : 0 ≤ a.val) (h1 : a.val ≤ 1152921504606846976) : ∃ r : I64,S_l03SqrtUp a = (r,true) ∧ 0 ≤ r.val ∧ a.val * 4294967296 ≤ r.val * r.val:=by
  obtain ⟨r,e1,r0,r1,r2,r3⟩:=SqrtDown_max a h0 h1
  unfold S_l03SqrtUp
  simp only [bindP_e,e1,Bool.not_true,cond_f]
  have s0 : 0 ≤ r.val * r.val:=Int.mul_nonneg r0 r0
  have s1 : r.val * r.val ≤ 4951760157141521099596496896:=Int.le_trans r2 (by omega)
  have p1:=sp_Mul r r
  have hm : ∃ n : I64,S_MulFloor r r (c64 32) = (n,true) ∧ n.val = r.val * r.val / 4294967296:=by
    have hz : (S_l02Shift (S_l02Mul r r) (c64 32)).z = r.val * r.val / 4294967296:=by rw [Shift_z32,p1]
    obtain ⟨n,k1,k2⟩:=Int_in (S_l02Shift (S_l02Mul r r) (c64 32)) (by rw [hz]; omega) (by rw [hz]; omega)
    refine ⟨n,?_,by rw [k1,hz]⟩
    unfold S_MulFloor
    have e3 : S_l00In (c64 32) (c64 0) (c64 126) = true:=by decide
    simp only [bindP_e,k2,e3,Bool.not_true,cond_f]
  obtain ⟨n,hn,hnv⟩:=hm
  have hl:=and_low (r.val * r.val) s0
  have er : (w64 (r.val + 1)).val = r.val + 1:=by rw [w64_val]; omega
  rw [hn]
  simp only [hl]
  by_cases b : n.val = a.val
  · have b1 : (n.val != a.val) = false:=by simp only [bne_eq_false_iff_eq]; exact b
    by_cases c : r.val * r.val % 4294967296 = 0
    · have b2 : (r.val * r.val % 4294967296 != 0) = false:=by simp only [bne_eq_false_iff_eq]; exact c
      refine ⟨r,by simp only [b1,b2,cond_f],r0,?_⟩
      generalize r.val * r.val = q at *
      omega
    · have b2 : (r.val * r.val % 4294967296 != 0) = true:=by simp only [bne_iff_ne,ne_eq]; exact c
      refine ⟨w64 (r.val + 1),by simp only [b1,b2,cond_f,cond_t],by omega,?_⟩
      rw [er]; omega
  · have b1 : (n.val != a.val) = true:=by simp only [bne_iff_ne,ne_eq]; exact b
    refine ⟨w64 (r.val + 1),by simp only [b1,cond_t],by omega,?_⟩
    rw [er]; omega
theorem SqrtI_out {a : Iv} (h : S_l04Ok (S_SqrtI a) = true) : S_l04Ok a = true ∧ 0 ≤ a.lo.val ∧ 0 ≤ (S_SqrtI a).lo.val ∧ (S_SqrtI a).lo.val * (S_SqrtI a).lo.val ≤ a.lo.val * 4294967296 ∧ a.hi.val * 4294967296 ≤ (S_SqrtI a).hi.val * (S_SqrtI a).hi.val:=by
  unfold S_SqrtI at h ⊢
  simp only [bindP_e] at h ⊢
  cases ha : S_l04Ok a with
  | false=>rw [ha] at h; simp only [Bool.not_false,cond_t,whole_bad] at h; cases h
  | true=>
  have pa:=Ok4p ha
  by_cases hn : a.lo.val < 0
  · simp only [ha,decide_eq_true hn,Bool.not_true,cond_f,cond_t,whole_bad] at h
    cases h
  · obtain ⟨r,e1,k1,_,k2,_⟩:=SqrtDown_max a.lo (by omega) (by omega)
    obtain ⟨s,e2,_,k3⟩:=SqrtUp_max a.hi (by omega) (by omega)
    simp only [ha,decide_eq_false hn,e1,e2,Bool.not_true,cond_f] at h ⊢
    rw [Make_out h]
    exact ⟨trivial,by omega,k1,k2,k3⟩
theorem sq_nonneg (x : Int) : 0 ≤ x * x:=by
  by_cases h : 0 ≤ x
  · exact Int.mul_nonneg h h
  · have:=Int.mul_nonneg (a:=-x) (b:=-x) (by omega) (by omega)
    rwa [Int.neg_mul_neg] at this
end Go.Proofs.YtfhnlkinjbakgaaGreat.Abs
