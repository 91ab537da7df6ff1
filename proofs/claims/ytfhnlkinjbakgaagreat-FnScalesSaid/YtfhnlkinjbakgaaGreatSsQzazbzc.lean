/- Plain laws of the functions on numbers: what the program computes is what the reference computes. -/
import Derived.Test.YtfhnlkinjbakgaaGreatSsQvwxyz
import Derived.Test.YtfhnlkinjbakgaaGreatSsFx
set_option linter.unusedVariables false
set_option linter.unusedSimpArgs false
namespace Go.Proofs.YtfhnlkinjbakgaaGreat.Abs
open Go
theorem uI (w : Wd) (h : (Ke w).2 = true) : (Ke w).1.val = w.z:=by
  have a1:=w.lo.lo
  have a2:=w.lo.hi
  have hz : w.z = w.hi.val * 18446744073709551616 + w.lo.val:=rfl
  rw [hz]
  unfold Ke I5 at h ⊢
  simp only [Ag] at h ⊢
  have e:=Ad w.lo.val
  generalize An w.lo.val = x at *
  by_cases hn : x.val < 0
  · simp only [hn,decide_true,Ai,A8,At] at h ⊢
    cases q : (((-1 : Int) == w.hi.val) && (x.val % 18446744073709551616 == w.lo.val)) with
    | false=>rw [q] at h; simp only [Bool.not_false,Ai] at h; cases h
    | true=>
      simp only [Bool.not_true,Ae]
      simp only [Bool.and_eq_true,beq_iff_eq] at q
      omega
  · simp only [hn,decide_false,Ae,A8,At] at h ⊢
    cases q : (((0 : Int) == w.hi.val) && (x.val % 18446744073709551616 == w.lo.val)) with
    | false=>rw [q] at h; simp only [Bool.not_false,Ai] at h; cases h
    | true=>
      simp only [Bool.not_true,Ae]
      simp only [Bool.and_eq_true,beq_iff_eq] at q
      omega
theorem V2 {a : Aq} {c : Bool} (h : (Fu a c).2 = true) : c = true ∧ B7 a = true ∧ (Fu a c).1 = a:=by
  unfold Fu at h ⊢
  simp only [Ag] at h ⊢
  cases c with
  | false=>simp only [Bool.not_false,Ai] at h; cases h
  | true=>
    simp only [Bool.not_true,Ae] at h ⊢
    cases q : B7 a with
    | false=>rw [q] at h; simp only [Bool.not_false,Ai] at h; cases h
    | true=>rw [q] at h; simp only [Bool.not_true,Ae] at h ⊢; exact ⟨trivial,trivial,trivial⟩
theorem dK {a : Aq} (h : B7 a = true) : -1152921504606846976 ≤ a.val ∧ a.val ≤ 1152921504606846976:=by
  rw [V7] at h
  simp only [Bool.and_eq_true,decide_eq_true_eq] at h
  exact h
theorem M6 {a b : Aq} (h : (Bb a b).2 = true) : B7 a = true ∧ B7 b = true ∧ B7 (Bb a b).1 = true ∧ (Bb a b).1.val = a.val * b.val / 4294967296:=by
  unfold Bb Ei at h ⊢
  simp only [Ag] at h ⊢
  cases ha : B7 a with
  | false=>rw [ha] at h; simp only [Bool.not_false,Ai] at h; cases h
  | true=>
    cases hb : B7 b with
    | false=>rw [ha,hb] at h; simp only [Bool.not_true,Bool.not_false,Ai,Ae] at h; cases h
    | true=>
      have e3 : Bz (Ah 32) (Ah 0) (Ah 126) = true:=by decide
      simp only [ha,hb,e3,Bool.not_true,Ae] at h ⊢
      obtain ⟨k1,k2,k3⟩:=V2 h
      have hv:=uI _ k1
      rw [Zg,Jh] at hv
      rw [k3]
      exact ⟨trivial,trivial,k2,hv⟩
theorem Tq {a b : Aq} (h : (Ca a b).2 = true) : B7 a = true ∧ B7 b = true ∧ B7 (Ca a b).1 = true ∧ (Ca a b).1.val = -(-(a.val * b.val) / 4294967296):=by
  unfold Ca at h ⊢
  simp only [Ag] at h ⊢
  cases ha : B7 a with
  | false=>rw [ha] at h; simp only [Bool.not_false,Ai] at h; cases h
  | true=>
    cases hd : (Bb (An (0 - a.val)) b).2 with
    | false=>rw [ha,hd] at h; simp only [Bool.not_true,Bool.not_false,Ai,Ae] at h; cases h
    | true=>
      obtain ⟨_,k2,k3,k4⟩:=M6 hd
      have pa:=dK ha
      have pr:=dK k3
      have en : (An (0 - a.val)).val = -a.val:=by rw [Ad]; omega
      rw [en,Int.neg_mul] at k4
      simp only [ha,hd,Bool.not_true,Ae]
      have er : (An (0 - (Bb (An (0 - a.val)) b).1.val)).val = -(Bb (An (0 - a.val)) b).1.val:=by rw [Ad]; omega
      exact ⟨trivial,k2,Nt (by rw [er]; omega) (by rw [er]; omega),by rw [er,k4]⟩
theorem M7 {a b : Aq} (ha : B7 a = true) (hb : 0 < b.val) (h : (Ds a (Ah 4294967296) b).2 = true) : (Ds a (Ah 4294967296) b).1.val = a.val * 4294967296 / b.val:=by
  have ha':=dK ha
  have hm : (A3 a (Ah 4294967296)).z = a.val * 4294967296:=by rw [Jh,A8]
  obtain ⟨s1,s2,s3⟩:=nS (A3 a (Ah 4294967296)) b hb (by rw [hm]; omega) (by rw [hm]; omega)
  rw [hm] at s1
  have hq : (Ha (A3 a (Ah 4294967296)) b).1.z = a.val * 4294967296 / b.val:=by
    generalize (Ha (A3 a (Ah 4294967296)) b).1.z = q at *
    generalize (Ha (A3 a (Ah 4294967296)) b).2.val = r at *
    rw [← s1,Int.mul_comm q,Int.add_comm,Int.add_mul_ediv_left _ _ (by omega),Int.ediv_eq_zero_of_lt s2 s3,Int.zero_add]
  unfold Ds at h ⊢
  have e5 : decide (b.val ≤ 0) = false:=decide_eq_false (by omega)
  simp only [Ag,e5,Ae] at h ⊢
  rw [uI _ h,hq]
theorem dO {a b : Aq} (h : (Bl a b).2 = true) : B7 a = true ∧ B7 b = true ∧ b.val ≠ 0 ∧ B7 (Bl a b).1 = true ∧
    (0 < b.val → (Bl a b).1.val = a.val * 4294967296 / b.val) ∧ (b.val < 0 → (Bl a b).1.val = -a.val * 4294967296 / -b.val):=by
  unfold Bl at h ⊢
  simp only [Ag] at h ⊢
  cases ha : B7 a with
  | false=>rw [ha] at h; simp only [Bool.not_false,Ai] at h; cases h
  | true=>
    cases hb : B7 b with
    | false=>rw [ha,hb] at h; simp only [Bool.not_true,Bool.not_false,Ai,Ae] at h; cases h
    | true=>
      have pa:=dK ha
      have pb:=dK hb
      have ea : (An (0 - a.val)).val = -a.val:=by rw [Ad]; omega
      have eb : (An (0 - b.val)).val = -b.val:=by rw [Ad]; omega
      by_cases hz : b.val = 0
      · have e : (b.val == 0) = true:=by simp [hz]
        simp only [ha,hb,e,Bool.not_true,Ae,Ai] at h
        cases h
      · have e : (b.val == 0) = false:=by simp [hz]
        by_cases hn : b.val < 0
        · have d : decide (b.val < 0) = true:=decide_eq_true hn
          simp only [ha,hb,e,d,Bool.not_true,Ae,Ai] at h ⊢
          obtain ⟨k1,k2,k3⟩:=V2 h
          have hv:=M7 (a:=An (0 - a.val)) (b:=An (0 - b.val)) (Nt (by rw [ea]; omega) (by rw [ea]; omega)) (by rw [eb]; omega) k1
          rw [ea,eb] at hv
          rw [k3]
          exact ⟨trivial,trivial,hz,k2,fun h=>by omega,fun _=>hv⟩
        · have d : decide (b.val < 0) = false:=decide_eq_false hn
          simp only [ha,hb,e,d,Bool.not_true,Ae] at h ⊢
          obtain ⟨k1,k2,k3⟩:=V2 h
          have hv:=M7 ha (by omega) k1
          rw [k3]
          exact ⟨trivial,trivial,hz,k2,fun _=>hv,fun h=>by omega⟩
theorem xA {a b : Aq} (h : (Cj a b).2 = true) : B7 (Cj a b).1 = true ∧
    (0 < b.val → (Cj a b).1.val = -(-a.val * 4294967296 / b.val)) ∧ (b.val < 0 → (Cj a b).1.val = -(a.val * 4294967296 / -b.val)):=by
  unfold Cj at h ⊢
  simp only [Ag] at h ⊢
  cases ha : B7 a with
  | false=>rw [ha] at h; simp only [Bool.not_false,Ai] at h; cases h
  | true=>
    simp only [ha,Bool.not_true,Ae] at h ⊢
    have pa:=dK ha
    have ea : (An (0 - a.val)).val = -a.val:=by rw [Ad]; omega
    obtain ⟨_,_,_,k4,k5,k6⟩:=dO h
    have pr:=dK k4
    have er : (An (0 - (Bl (An (0 - a.val)) b).1.val)).val = -(Bl (An (0 - a.val)) b).1.val:=by rw [Ad]; omega
    refine ⟨Nt (by rw [er]; omega) (by rw [er]; omega),fun hb=>?_,fun hb=>?_⟩
    · rw [er,k5 hb,ea]
    · rw [er,k6 hb,ea,Int.neg_neg]
theorem kU {q b : Int} (hb : 0 < b) : q / b * b ≤ q ∧ q ≤ -(-q / b) * b:=by
  have a2 : -q / b * b ≤ -q:=Int.ediv_mul_le _ (by omega)
  have a3 : q / b * b ≤ q:=Int.ediv_mul_le _ (by omega)
  exact ⟨a3,by rw [Int.neg_mul]; omega⟩
theorem Ic {a b : Aq} (h : Am (C0 a b) = true) : C0 a b = ⟨a,b⟩:=by
  unfold C0 at h ⊢
  simp only [Ag] at h ⊢
  cases q : Am ⟨a,b⟩ with
  | false=>rw [q] at h; simp only [Bool.not_false,Ai,Do] at h; cases h
  | true=>simp only [Bool.not_true,Ae]
theorem Oe (a b : Aq) : (Cq a b).val ≤ a.val ∧ (Cq a b).val ≤ b.val:=by
  unfold Cq
  by_cases h : a.val < b.val
  · rw [decide_eq_true h,Ai]; omega
  · rw [decide_eq_false h,Ae]; omega
theorem L5 (a b : Aq) : a.val ≤ (Cg a b).val ∧ b.val ≤ (Cg a b).val:=by
  unfold Cg
  by_cases h : a.val > b.val
  · rw [decide_eq_true h,Ai]; omega
  · rw [decide_eq_false h,Ae]; omega
theorem pA (a b : Aq) : (Cg a b).val = a.val ∨ (Cg a b).val = b.val:=by
  unfold Cg
  by_cases h : a.val > b.val
  · rw [decide_eq_true h,Ai]; exact .inl rfl
  · rw [decide_eq_false h,Ae]; exact .inr rfl
theorem Adt (a b : Aq) : (Cq a b).val = a.val ∨ (Cq a b).val = b.val:=by
  unfold Cq
  by_cases h : a.val < b.val
  · rw [decide_eq_true h,Ai]; exact .inl rfl
  · rw [decide_eq_false h,Ae]; exact .inr rfl
theorem Afv {a b : Iv} (h : Am (Bj a b) = true) : Am a = true ∧ Am b = true ∧ (Bj a b).lo.val = a.lo.val + b.lo.val ∧ (Bj a b).hi.val = a.hi.val + b.hi.val:=by
  unfold Bj at h ⊢
  simp only [Ag] at h ⊢
  cases ha : Am a with
  | false=>rw [ha] at h; simp only [Bool.not_false,Ai,Do] at h; cases h
  | true=>
    cases hb : Am b with
    | false=>rw [ha,hb] at h; simp only [Bool.not_true,Bool.not_false,Ai,Ae,Do] at h; cases h
    | true=>
      simp only [ha,hb,Bool.not_true,Ae] at h ⊢
      have pa:=Vu ha
      have pb:=Vu hb
      rw [Ic h]
      refine ⟨trivial,trivial,?_,?_⟩
      · show (An (a.lo.val + b.lo.val)).val = _; rw [Ad]; omega
      · show (An (a.hi.val + b.hi.val)).val = _; rw [Ad]; omega
theorem Afh {a b : Iv} (h : Am (Cw a b) = true) : Am a = true ∧ Am b = true ∧ (Cw a b).lo.val = a.lo.val - b.hi.val ∧ (Cw a b).hi.val = a.hi.val - b.lo.val:=by
  unfold Cw at h ⊢
  simp only [Ag] at h ⊢
  cases ha : Am a with
  | false=>rw [ha] at h; simp only [Bool.not_false,Ai,Do] at h; cases h
  | true=>
    cases hb : Am b with
    | false=>rw [ha,hb] at h; simp only [Bool.not_true,Bool.not_false,Ai,Ae,Do] at h; cases h
    | true=>
      simp only [ha,hb,Bool.not_true,Ae] at h ⊢
      have pa:=Vu ha
      have pb:=Vu hb
      rw [Ic h]
      refine ⟨trivial,trivial,?_,?_⟩
      · show (An (a.lo.val - b.hi.val)).val = _; rw [Ad]; omega
      · show (An (a.hi.val - b.lo.val)).val = _; rw [Ad]; omega
theorem l9 {a b : Iv} (h : Am (Ay a b) = true) : Am a = true ∧ Am b = true ∧
    (Ay a b).lo.val * 4294967296 ≤ a.lo.val * b.lo.val ∧ a.lo.val * b.lo.val ≤ (Ay a b).hi.val * 4294967296 ∧ (Ay a b).lo.val * 4294967296 ≤ a.lo.val * b.hi.val ∧ a.lo.val * b.hi.val ≤ (Ay a b).hi.val * 4294967296 ∧
    (Ay a b).lo.val * 4294967296 ≤ a.hi.val * b.lo.val ∧ a.hi.val * b.lo.val ≤ (Ay a b).hi.val * 4294967296 ∧ (Ay a b).lo.val * 4294967296 ≤ a.hi.val * b.hi.val ∧ a.hi.val * b.hi.val ≤ (Ay a b).hi.val * 4294967296:=by
  unfold Ay at h ⊢
  simp only [Ag] at h ⊢
  cases ha : Am a with
  | false=>rw [ha] at h; simp only [Bool.not_false,Ai,Do] at h; cases h
  | true=>
  cases hb : Am b with
  | false=>rw [ha,hb] at h; simp only [Bool.not_true,Bool.not_false,Ai,Ae,Do] at h; cases h
  | true=>
  simp only [ha,hb,Bool.not_true,Ae] at h ⊢
  cases d1 : (Bb a.lo b.lo).2 with
  | false=>rw [d1] at h; simp only [Bool.not_false,Ai,Do] at h; cases h
  | true=>
  cases u1 : (Ca a.lo b.lo).2 with
  | false=>rw [d1,u1] at h; simp only [Bool.not_true,Bool.not_false,Ai,Ae,Do] at h; cases h
  | true=>
  simp only [d1,u1,Bool.not_true,Ae] at h ⊢
  cases d2 : (Bb a.lo b.hi).2 with
  | false=>rw [d2] at h; simp only [Bool.not_false,Ai,Do] at h; cases h
  | true=>
  cases u2 : (Ca a.lo b.hi).2 with
  | false=>rw [d2,u2] at h; simp only [Bool.not_true,Bool.not_false,Ai,Ae,Do] at h; cases h
  | true=>
  simp only [d2,u2,Bool.not_true,Ae] at h ⊢
  cases d3 : (Bb a.hi b.lo).2 with
  | false=>rw [d3] at h; simp only [Bool.not_false,Ai,Do] at h; cases h
  | true=>
  cases u3 : (Ca a.hi b.lo).2 with
  | false=>rw [d3,u3] at h; simp only [Bool.not_true,Bool.not_false,Ai,Ae,Do] at h; cases h
  | true=>
  simp only [d3,u3,Bool.not_true,Ae] at h ⊢
  cases d4 : (Bb a.hi b.hi).2 with
  | false=>rw [d4] at h; simp only [Bool.not_false,Ai,Do] at h; cases h
  | true=>
  cases u4 : (Ca a.hi b.hi).2 with
  | false=>rw [d4,u4] at h; simp only [Bool.not_true,Bool.not_false,Ai,Ae,Do] at h; cases h
  | true=>
  simp only [d4,u4,Bool.not_true,Ae] at h ⊢
  rw [Ic h]
  obtain ⟨_,_,_,v1⟩:=M6 d1
  obtain ⟨_,_,_,v2⟩:=M6 d2
  obtain ⟨_,_,_,v3⟩:=M6 d3
  obtain ⟨_,_,_,v4⟩:=M6 d4
  obtain ⟨_,_,_,w1⟩:=Tq u1
  obtain ⟨_,_,_,w2⟩:=Tq u2
  obtain ⟨_,_,_,w3⟩:=Tq u3
  obtain ⟨_,_,_,w4⟩:=Tq u4
  have m4:=Oe (Cq (Cq (Cq (Ah 1152921504606846976) (Bb a.lo b.lo).1) (Bb a.lo b.hi).1) (Bb a.hi b.lo).1) (Bb a.hi b.hi).1
  have m3:=Oe (Cq (Cq (Ah 1152921504606846976) (Bb a.lo b.lo).1) (Bb a.lo b.hi).1) (Bb a.hi b.lo).1
  have m2:=Oe (Cq (Ah 1152921504606846976) (Bb a.lo b.lo).1) (Bb a.lo b.hi).1
  have m1:=Oe (Ah 1152921504606846976) (Bb a.lo b.lo).1
  have n4:=L5 (Cg (Cg (Cg (Ah (-1152921504606846976)) (Ca a.lo b.lo).1) (Ca a.lo b.hi).1) (Ca a.hi b.lo).1) (Ca a.hi b.hi).1
  have n3:=L5 (Cg (Cg (Ah (-1152921504606846976)) (Ca a.lo b.lo).1) (Ca a.lo b.hi).1) (Ca a.hi b.lo).1
  have n2:=L5 (Cg (Ah (-1152921504606846976)) (Ca a.lo b.lo).1) (Ca a.lo b.hi).1
  have n1:=L5 (Ah (-1152921504606846976)) (Ca a.lo b.lo).1
  refine ⟨trivial,trivial,?_⟩
  dsimp only
  generalize a.lo.val * b.lo.val = q1 at *
  generalize a.lo.val * b.hi.val = q2 at *
  generalize a.hi.val * b.lo.val = q3 at *
  generalize a.hi.val * b.hi.val = q4 at *
  generalize Cq (Cq (Cq (Cq (Ah 1152921504606846976) (Bb a.lo b.lo).1) (Bb a.lo b.hi).1) (Bb a.hi b.lo).1) (Bb a.hi b.hi).1 = lo at *
  generalize Cg (Cg (Cg (Cg (Ah (-1152921504606846976)) (Ca a.lo b.lo).1) (Ca a.lo b.hi).1) (Ca a.hi b.lo).1) (Ca a.hi b.hi).1 = hi at *
  refine ⟨?_,?_,?_,?_,?_,?_,?_,?_⟩ <;> omega
theorem lF {a b : Iv} (h : Am (A4 a b) = true) : Am a = true ∧ Am b = true ∧ (0 < b.lo.val ∨ b.hi.val < 0) ∧
    (∀ x y : Int,(x = a.lo.val ∨ x = a.hi.val) → (y = b.lo.val ∨ y = b.hi.val) → (0 < y → (A4 a b).lo.val * y ≤ x * 4294967296 ∧ x * 4294967296 ≤ (A4 a b).hi.val * y) ∧ (y < 0 → (A4 a b).hi.val * y ≤ x * 4294967296 ∧ x * 4294967296 ≤ (A4 a b).lo.val * y)):=by
  unfold A4 at h ⊢
  simp only [Ag] at h ⊢
  cases ha : Am a with
  | false=>rw [ha] at h; simp only [Bool.not_false,Ai,Do] at h; cases h
  | true=>
  cases hb : Am b with
  | false=>rw [ha,hb] at h; simp only [Bool.not_true,Bool.not_false,Ai,Ae,Do] at h; cases h
  | true=>
  cases hz : I1 b (Ah 0) with
  | true=>rw [ha,hb,hz] at h; simp only [Bool.not_true,Ai,Ae,Do] at h; cases h
  | false=>
  simp only [ha,hb,hz,Bool.not_true,Ae] at h ⊢
  cases d1 : (Bl a.lo b.lo).2 with
  | false=>rw [d1] at h; simp only [Bool.not_false,Ai,Do] at h; cases h
  | true=>
  cases u1 : (Cj a.lo b.lo).2 with
  | false=>rw [d1,u1] at h; simp only [Bool.not_true,Bool.not_false,Ai,Ae,Do] at h; cases h
  | true=>
  simp only [d1,u1,Bool.not_true,Ae] at h ⊢
  cases d2 : (Bl a.lo b.hi).2 with
  | false=>rw [d2] at h; simp only [Bool.not_false,Ai,Do] at h; cases h
  | true=>
  cases u2 : (Cj a.lo b.hi).2 with
  | false=>rw [d2,u2] at h; simp only [Bool.not_true,Bool.not_false,Ai,Ae,Do] at h; cases h
  | true=>
  simp only [d2,u2,Bool.not_true,Ae] at h ⊢
  cases d3 : (Bl a.hi b.lo).2 with
  | false=>rw [d3] at h; simp only [Bool.not_false,Ai,Do] at h; cases h
  | true=>
  cases u3 : (Cj a.hi b.lo).2 with
  | false=>rw [d3,u3] at h; simp only [Bool.not_true,Bool.not_false,Ai,Ae,Do] at h; cases h
  | true=>
  simp only [d3,u3,Bool.not_true,Ae] at h ⊢
  cases d4 : (Bl a.hi b.hi).2 with
  | false=>rw [d4] at h; simp only [Bool.not_false,Ai,Do] at h; cases h
  | true=>
  cases u4 : (Cj a.hi b.hi).2 with
  | false=>rw [d4,u4] at h; simp only [Bool.not_true,Bool.not_false,Ai,Ae,Do] at h; cases h
  | true=>
  simp only [d4,u4,Bool.not_true,Ae] at h ⊢
  rw [Ic h]
  have hb4:=Vu hb
  have sgn : 0 < b.lo.val ∨ b.hi.val < 0:=by
    unfold I1 at hz
    rw [Ag,Gk,A8] at hz
    by_cases q1 : b.lo.val ≤ 0
    · by_cases q2 : 0 ≤ b.hi.val
      · rw [decide_eq_true q1,decide_eq_true q2] at hz; cases hz
      · omega
    · omega
  refine ⟨trivial,trivial,sgn,?_⟩
  have m4:=Oe (Cq (Cq (Cq (Ah 1152921504606846976) (Bl a.lo b.lo).1) (Bl a.lo b.hi).1) (Bl a.hi b.lo).1) (Bl a.hi b.hi).1
  have m3:=Oe (Cq (Cq (Ah 1152921504606846976) (Bl a.lo b.lo).1) (Bl a.lo b.hi).1) (Bl a.hi b.lo).1
  have m2:=Oe (Cq (Ah 1152921504606846976) (Bl a.lo b.lo).1) (Bl a.lo b.hi).1
  have m1:=Oe (Ah 1152921504606846976) (Bl a.lo b.lo).1
  have n4:=L5 (Cg (Cg (Cg (Ah (-1152921504606846976)) (Cj a.lo b.lo).1) (Cj a.lo b.hi).1) (Cj a.hi b.lo).1) (Cj a.hi b.hi).1
  have n3:=L5 (Cg (Cg (Ah (-1152921504606846976)) (Cj a.lo b.lo).1) (Cj a.lo b.hi).1) (Cj a.hi b.lo).1
  have n2:=L5 (Cg (Ah (-1152921504606846976)) (Cj a.lo b.lo).1) (Cj a.lo b.hi).1
  have n1:=L5 (Ah (-1152921504606846976)) (Cj a.lo b.lo).1
  generalize (Cq (Cq (Cq (Cq (Ah 1152921504606846976) (Bl a.lo b.lo).1) (Bl a.lo b.hi).1) (Bl a.hi b.lo).1) (Bl a.hi b.hi).1) = lo at *
  generalize (Cg (Cg (Cg (Cg (Ah (-1152921504606846976)) (Cj a.lo b.lo).1) (Cj a.lo b.hi).1) (Cj a.hi b.lo).1) (Cj a.hi b.hi).1) = hi at *
  have one : ∀ x y : Aq,(Bl x y).2 = true → (Cj x y).2 = true → lo.val ≤ (Bl x y).1.val → (Cj x y).1.val ≤ hi.val →
      (0 < y.val → lo.val * y.val ≤ x.val * 4294967296 ∧ x.val * 4294967296 ≤ hi.val * y.val) ∧ (y.val < 0 → hi.val * y.val ≤ x.val * 4294967296 ∧ x.val * 4294967296 ≤ lo.val * y.val):=fun x y hd hu hl hh=>by
    obtain ⟨_,_,_,_,v1,v2⟩:=dO hd
    obtain ⟨_,w1,w2⟩:=xA hu
    refine ⟨fun hy=>?_,fun hy=>?_⟩
    · have e1:=v1 hy
      have e2:=w1 hy
      rw [Int.neg_mul] at e2
      obtain ⟨g1,g2⟩:=kU (q:=x.val * 4294967296) hy
      rw [← e1] at g1
      rw [← e2] at g2
      exact ⟨Int.le_trans (Int.mul_le_mul_of_nonneg_right hl (by omega)) g1,Int.le_trans g2 (Int.mul_le_mul_of_nonneg_right hh (by omega))⟩
    · have e1:=v2 hy
      have e2:=w2 hy
      obtain ⟨g1,g2⟩:=kU (q:=-x.val * 4294967296) (b:=-y.val) (by omega)
      rw [← e1] at g1
      have e3 : -(-x.val * 4294967296) = x.val * 4294967296:=by omega
      rw [e3,← e2] at g2
      have k1 : lo.val * -y.val ≤ (Bl x y).1.val * -y.val:=Int.mul_le_mul_of_nonneg_right hl (by omega)
      have k2 : (Cj x y).1.val * -y.val ≤ hi.val * -y.val:=Int.mul_le_mul_of_nonneg_right hh (by omega)
      rw [Int.mul_neg lo.val] at k1
      rw [Int.mul_neg hi.val] at k2
      have k3 : lo.val * y.val ≥ x.val * 4294967296:=by omega
      have k4 : hi.val * y.val ≤ x.val * 4294967296:=by omega
      exact ⟨k4,k3⟩
  intro x y hx hy
  rcases hx with rfl | rfl <;> rcases hy with rfl | rfl
  · exact one _ _ d1 u1 (by omega) (by omega)
  · exact one _ _ d2 u2 (by omega) (by omega)
  · exact one _ _ d3 u3 (by omega) (by omega)
  · exact one _ _ d4 u4 (by omega) (by omega)
theorem uJ {a : Iv} (ha : Am a = true) : 0 ≤ (B9 a).1.val ∧ 0 ≤ (B9 a).2.val ∧ ∀ u : Int,a.lo.val ≤ u → u ≤ a.hi.val → (B9 a).1.val * (B9 a).1.val ≤ u * u ∧ u * u ≤ (B9 a).2.val * (B9 a).2.val:=by
  have pa:=Vu ha
  unfold B9 I1
  simp only [Ag]
  have el : (An (0 - a.lo.val)).val = -a.lo.val:=by rw [Ad]; omega
  have eh : (An (0 - a.hi.val)).val = -a.hi.val:=by rw [Ad]; omega
  have p1:=L5 a.lo (An (0 - a.lo.val))
  have p2:=pA a.lo (An (0 - a.lo.val))
  have q1:=L5 a.hi (An (0 - a.hi.val))
  have q2:=pA a.hi (An (0 - a.hi.val))
  rw [el] at p1 p2
  rw [eh] at q1 q2
  generalize Cg a.lo (An (0 - a.lo.val)) = p at *
  generalize Cg a.hi (An (0 - a.hi.val)) = q at *
  have far:=L5 p q
  have fari:=pA p q
  have sq : ∀ u v : Int,0 ≤ u → u ≤ v → u * u ≤ v * v:=fun u v h1 h2=>Int.mul_le_mul h2 h2 h1 (by omega)
  have ab : ∀ u v : Int,-v ≤ u → u ≤ v → u * u ≤ v * v:=fun u v h1 h2=>by
    by_cases h : 0 ≤ u
    · exact sq u v h h2
    · have:=sq (-u) v (by omega) (by omega)
      rw [Int.neg_mul_neg] at this
      exact this
  have lb : ∀ u v : Int,0 ≤ v → (v ≤ u ∨ u ≤ -v) → v * v ≤ u * u:=fun u v h0 h=>by
    rcases h with h | h
    · exact sq v u h0 h
    · have:=sq v (-u) h0 (by omega)
      rw [Int.neg_mul_neg] at this
      exact this
  rw [Gk,A8]
  by_cases h0 : a.lo.val ≤ 0 ∧ 0 ≤ a.hi.val
  · rw [decide_eq_true h0.1,decide_eq_true h0.2,Bool.and_self,Ai]
    simp only [A8]
    refine ⟨by omega,by omega,fun u h1 h2=>⟨?_,ab _ _ (by omega) (by omega)⟩⟩
    rw [Int.mul_zero]
    exact lb u 0 (by omega) (by omega)
  · have e : (decide (a.lo.val ≤ 0) && decide (0 ≤ a.hi.val)) = false:=by
      by_cases h1 : a.lo.val ≤ 0
      · rw [decide_eq_true h1,decide_eq_false (by omega)]; rfl
      · rw [decide_eq_false h1]; rfl
    rw [e,Ae]
    have nr:=Oe p q
    have nri:=Adt p q
    dsimp only
    refine ⟨by omega,by omega,fun u h1 h2=>⟨lb u _ (by omega) (by omega),ab _ _ (by omega) (by omega)⟩⟩
theorem Afk {a : Iv} (h : Am (I6 a) = true) : Am a = true ∧ 0 ≤ (I6 a).lo.val ∧ ∀ u : Int,a.lo.val ≤ u → u ≤ a.hi.val → (I6 a).lo.val * 4294967296 ≤ u * u ∧ u * u ≤ (I6 a).hi.val * 4294967296:=by
  unfold I6 at h ⊢
  simp only [Ag] at h ⊢
  cases ha : Am a with
  | false=>rw [ha] at h; simp only [Bool.not_false,Ai,Do] at h; cases h
  | true=>
  simp only [ha,Bool.not_true,Ae] at h ⊢
  cases d1 : (Bb (B9 a).1 (B9 a).1).2 with
  | false=>rw [d1] at h; simp only [Bool.not_false,Ai,Do] at h; cases h
  | true=>
  cases u1 : (Ca (B9 a).2 (B9 a).2).2 with
  | false=>rw [d1,u1] at h; simp only [Bool.not_true,Bool.not_false,Ai,Ae,Do] at h; cases h
  | true=>
  simp only [d1,u1,Bool.not_true,Ae] at h ⊢
  rw [Ic h]
  obtain ⟨_,_,_,v1⟩:=M6 d1
  obtain ⟨_,_,_,w1⟩:=Tq u1
  obtain ⟨e0,e1,e2⟩:=uJ ha
  have n0:=Int.mul_nonneg e0 e0
  refine ⟨trivial,?_,fun u h1 h2=>?_⟩
  · show 0 ≤ (Bb (B9 a).1 (B9 a).1).1.val
    rw [v1]
    omega
  · obtain ⟨g1,g2⟩:=e2 u h1 h2
    show (Bb (B9 a).1 (B9 a).1).1.val * 4294967296 ≤ u * u ∧ u * u ≤ (Ca (B9 a).2 (B9 a).2).1.val * 4294967296
    rw [v1,w1]
    generalize (B9 a).1.val * (B9 a).1.val = r1 at *
    generalize (B9 a).2.val * (B9 a).2.val = r2 at *
    generalize u * u = r3 at *
    omega
theorem qH (x : Dp) (w : Wd) (h : 0 ≤ w.hi.val) (h1 : decide ((Ce x x).1.val < (Ak w.hi.val).val) = false) (h2 : ((Ce x x).1.val == (Ak w.hi.val).val) = false ∨ decide ((Ce x x).2.val ≤ w.lo.val) = false) : w.z < x.val * x.val:=by
  have e:=Xs x x
  have a1:=(Ce x x).2.lo
  have a2:=(Ce x x).2.hi
  have a3:=w.lo.lo
  have a4:=w.lo.hi
  have a5:=w.hi.hi
  have eh : (Ak w.hi.val).val = w.hi.val:=by rw [At]; omega
  have hz : w.z = w.hi.val * 18446744073709551616 + w.lo.val:=rfl
  generalize x.val * x.val = q at *
  rw [eh] at h1 h2
  simp only [decide_eq_false_iff_not,beq_eq_false_iff_ne,ne_eq] at h1 h2
  rcases h2 with h2 | h2 <;> omega
theorem qX (w : Wd) (h : 0 ≤ w.hi.val) : ∀ (N fu : Nat) (x : Dp) (i : Aq),i.val = (N : Int) - 1 → N < fu → N ≤ 64 → (∃ k : Int,x.val = 2 ^ N * k) → x.val * x.val ≤ w.z → w.z < (x.val + 2 ^ N) * (x.val + 2 ^ N) →
    (Cy fu w x i).val * (Cy fu w x i).val ≤ w.z ∧ w.z < ((Cy fu w x i).val + 1) * ((Cy fu w x i).val + 1):=by
  intro N
  induction N with
  | zero=>
    intro fu x i hi hf _ _ h1 h2
    obtain ⟨fu,rfl⟩:=Nat.exists_eq_succ_of_ne_zero (by omega : fu ≠ 0)
    unfold Cy
    have d : decide (i.val ≥ 0) = false:=decide_eq_false (by omega)
    rw [d,Ae]
    exact ⟨h1,by simpa using h2⟩
  | succ N ih=>
    intro fu x i hi hf hN hk h1 h2
    obtain ⟨fu,rfl⟩:=Nat.exists_eq_succ_of_ne_zero (by omega : fu ≠ 0)
    obtain ⟨k,hk⟩:=hk
    have hp : (2 : Int) ^ (N + 1) = 2 ^ N * 2:=Int.pow_succ ..
    have hP : (0 : Int) < 2 ^ N:=Int.pow_pos (by omega)
    have d : decide (i.val ≥ 0) = true:=decide_eq_true (by omega)
    have ei : (Ak i.val).val = (N : Int):=by rw [At]; omega
    have e2 : (An (i.val - 1)).val = (N : Int) - 1:=by rw [Ad]; omega
    have hlt : (2 : Int) ^ N < 18446744073709551616:=by
      have : (2 : Nat) ^ N ≤ 2 ^ 63:=Nat.pow_le_pow_right (by omega) (by omega)
      have e : ((2 : Int) ^ N) = ((2 ^ N : Nat) : Int):=by rw [Int.natCast_pow]; rfl
      rw [e]
      have : (2 : Nat) ^ 63 = 9223372036854775808:=by decide
      omega
    have eb : (Ci .u64 1 (N : Int)).val = 2 ^ N:=by
      show IntKind.u64.wrap (1 * 2 ^ (min ((N : Int)).toNat 64)) = _
      rw [IntKind.wrap_u64,Int.toNat_natCast,Nat.min_eq_left (by omega),Int.one_mul,Int.emod_eq_of_lt (by omega) hlt]
    have ey : (Qg .u64 x.val (Ci .u64 1 (Ak i.val).val).val).val = x.val + 2 ^ N:=by
      rw [ei,eb]
      have x1:=x.hi
      exact Xy (N + 1) _ _ x.lo (by omega) (by rw [hk,Int.mul_emod_right]) (by omega) (by rw [hp]; omega) hN
    unfold Cy
    simp only [Ag,d,Ai]
    generalize Qg .u64 x.val (Ci .u64 1 (Ak i.val).val).val = y at *
    obtain ⟨c1,c2⟩:=m8 y w h
    have yes : y.val * y.val ≤ w.z → (Cy fu w y (An (i.val - 1))).val * (Cy fu w y (An (i.val - 1))).val ≤ w.z ∧ w.z < ((Cy fu w y (An (i.val - 1))).val + 1) * ((Cy fu w y (An (i.val - 1))).val + 1):=fun hy=>
      ih fu y (An (i.val - 1)) e2 (by omega) (by omega) ⟨k * 2 + 1,by rw [ey,hk,hp,Int.mul_add,Int.mul_one,Int.mul_assoc,Int.mul_comm 2 k]⟩ hy (by
        have : y.val + 2 ^ N = x.val + 2 ^ (N + 1):=by rw [ey,hp]; omega
        rw [this]; exact h2)
    have no : w.z < y.val * y.val → (Cy fu w x (An (i.val - 1))).val * (Cy fu w x (An (i.val - 1))).val ≤ w.z ∧ w.z < ((Cy fu w x (An (i.val - 1))).val + 1) * ((Cy fu w x (An (i.val - 1))).val + 1):=fun hy=>
      ih fu x (An (i.val - 1)) e2 (by omega) (by omega) ⟨2 * k,by rw [hk,hp,Int.mul_assoc]⟩ h1 (by rw [← ey]; exact hy)
    cases q1 : decide ((Ce y y).1.val < (Ak w.hi.val).val) with
    | true=>rw [Ai]; exact yes (c1 q1)
    | false=>
      rw [Ae]
      cases q2 : ((Ce y y).1.val == (Ak w.hi.val).val) with
      | false=>rw [Ae]; exact no (qH y w h q1 (.inl q2))
      | true=>
        rw [Ai]
        cases q3 : decide ((Ce y y).2.val ≤ w.lo.val) with
        | false=>rw [Ae]; exact no (qH y w h q1 (.inr q3))
        | true=>rw [Ai]; exact yes (c2 q2 q3)
theorem dJ (a : Aq) (h0 : 0 ≤ a.val) (h1 : a.val ≤ 1152921504606846976) : ∃ r : Aq,Ly a = (r,true) ∧ 0 ≤ r.val ∧ r.val ≤ 70368744177664 ∧ r.val * r.val ≤ a.val * 4294967296 ∧ a.val * 4294967296 < (r.val + 1) * (r.val + 1):=by
  have hz:=Jh a (Ah 4294967296)
  rw [A8] at hz
  have hq:=qX (A3 a (Ah 4294967296)) (aR a _ h0 (by decide)) 64 65 (Eu 0) (Ah 63) (by rw [A8]; rfl) (by omega) (by omega) ⟨0,by decide⟩ (by rw [hz]; show (0 : Int) * 0 ≤ _; omega) (by
    rw [hz]
    show _ < ((0 : Int) + 2 ^ 64) * (0 + 2 ^ 64)
    rw [show ((0 : Int) + 2 ^ 64) * (0 + 2 ^ 64) = 340282366920938463463374607431768211456 by decide]
    omega)
  rw [hz] at hq
  have hx0:=(Cc (A3 a (Ah 4294967296))).lo
  have hx1 : (Cc (A3 a (Ah 4294967296))).val ≤ 70368744177664:=xO (Int.le_trans hq.1 (by omega))
  have e : (An (Cc (A3 a (Ah 4294967296))).val).val = (Cc (A3 a (Ah 4294967296))).val:=by rw [Ad]; omega
  refine ⟨An (Cc (A3 a (Ah 4294967296))).val,?_,by omega,by omega,by rw [e]; exact hq.1,by rw [e]; exact hq.2⟩
  unfold Ly I8
  have d1 : decide (a.val < 0) = false:=decide_eq_false (by omega)
  have d2 : decide ((Ah 4294967296).val < 0) = false:=by decide
  have d3 : Bz a (Ah 0) (Ah 1152921504606846976) = true:=by
    rw [Gk]
    simp only [Bool.and_eq_true,decide_eq_true_eq,A8]
    omega
  simp only [Ag,d1,d2,d3,Bool.not_true,Ae]
theorem x4 (a : Aq) (h0 : 0 ≤ a.val) (h1 : a.val ≤ 1152921504606846976) : ∃ r : Aq,Rm a = (r,true) ∧ 0 ≤ r.val ∧ a.val * 4294967296 ≤ r.val * r.val:=by
  obtain ⟨r,e1,r0,r1,r2,r3⟩:=dJ a h0 h1
  unfold Rm
  simp only [Ag,e1,Bool.not_true,Ae]
  have s0 : 0 ≤ r.val * r.val:=Int.mul_nonneg r0 r0
  have s1 : r.val * r.val ≤ 4951760157141521099596496896:=Int.le_trans r2 (by omega)
  have p1:=Jh r r
  have hm : ∃ n : Aq,Ei r r (Ah 32) = (n,true) ∧ n.val = r.val * r.val / 4294967296:=by
    have hz : (D9 (A3 r r) (Ah 32)).z = r.val * r.val / 4294967296:=by rw [Zg,p1]
    obtain ⟨n,k1,k2⟩:=Yn (D9 (A3 r r) (Ah 32)) (by rw [hz]; omega) (by rw [hz]; omega)
    refine ⟨n,?_,by rw [k1,hz]⟩
    unfold Ei
    have e3 : Bz (Ah 32) (Ah 0) (Ah 126) = true:=by decide
    simp only [Ag,k2,e3,Bool.not_true,Ae]
  obtain ⟨n,hn,hnv⟩:=hm
  have hl:=z7 (r.val * r.val) s0
  have er : (An (r.val + 1)).val = r.val + 1:=by rw [Ad]; omega
  rw [hn]
  simp only [hl]
  by_cases b : n.val = a.val
  · have b1 : (n.val != a.val) = false:=by simp only [bne_eq_false_iff_eq]; exact b
    by_cases c : r.val * r.val % 4294967296 = 0
    · have b2 : (r.val * r.val % 4294967296 != 0) = false:=by simp only [bne_eq_false_iff_eq]; exact c
      refine ⟨r,by simp only [b1,b2,Ae],r0,?_⟩
      generalize r.val * r.val = q at *
      omega
    · have b2 : (r.val * r.val % 4294967296 != 0) = true:=by simp only [bne_iff_ne,ne_eq]; exact c
      refine ⟨An (r.val + 1),by simp only [b1,b2,Ae,Ai],by omega,?_⟩
      rw [er]; omega
  · have b1 : (n.val != a.val) = true:=by simp only [bne_iff_ne,ne_eq]; exact b
    refine ⟨An (r.val + 1),by simp only [b1,Ai],by omega,?_⟩
    rw [er]; omega
theorem Abr {a : Iv} (h : Am (Jw a) = true) : Am a = true ∧ 0 ≤ a.lo.val ∧ 0 ≤ (Jw a).lo.val ∧ (Jw a).lo.val * (Jw a).lo.val ≤ a.lo.val * 4294967296 ∧ a.hi.val * 4294967296 ≤ (Jw a).hi.val * (Jw a).hi.val:=by
  unfold Jw at h ⊢
  simp only [Ag] at h ⊢
  cases ha : Am a with
  | false=>rw [ha] at h; simp only [Bool.not_false,Ai,Do] at h; cases h
  | true=>
  have pa:=Vu ha
  by_cases hn : a.lo.val < 0
  · simp only [ha,decide_eq_true hn,Bool.not_true,Ae,Ai,Do] at h
    cases h
  · obtain ⟨r,e1,k1,_,k2,_⟩:=dJ a.lo (by omega) (by omega)
    obtain ⟨s,e2,_,k3⟩:=x4 a.hi (by omega) (by omega)
    simp only [ha,decide_eq_false hn,e1,e2,Bool.not_true,Ae] at h ⊢
    rw [Ic h]
    exact ⟨trivial,by omega,k1,k2,k3⟩
theorem D3 (x : Int) : 0 ≤ x * x:=by
  by_cases h : 0 ≤ x
  · exact Int.mul_nonneg h h
  · have:=Int.mul_nonneg (a:=-x) (b:=-x) (by omega) (by omega)
    rwa [Int.neg_mul_neg] at this
end Go.Proofs.YtfhnlkinjbakgaaGreat.Abs
