/- Plain laws of the functions on numbers: what the program computes is what the reference computes. -/
import Derived.Test.YtfhnlkinjbakgaaGreatSsQjkl
import Derived.Test.YtfhnlkinjbakgaaGreatSsFx
set_option linter.unusedVariables false
set_option linter.unusedSimpArgs false
namespace Go.Proofs.YtfhnlkinjbakgaaGreat.Abs
open Go
theorem m8 (x : Dp) (w : Wd) (h : 0 ≤ w.hi.val) : (decide ((Ce x x).1.val < (Ak w.hi.val).val) = true → x.val * x.val ≤ w.z) ∧ (((Ce x x).1.val == (Ak w.hi.val).val) = true → decide ((Ce x x).2.val ≤ w.lo.val) = true → x.val * x.val ≤ w.z):=by
  have e:=Xs x x
  have a1:=(Ce x x).2.lo
  have a2:=(Ce x x).2.hi
  have a3:=w.lo.lo
  have a4:=w.lo.hi
  have a5:=w.hi.hi
  have eh : (Ak w.hi.val).val = w.hi.val:=by rw [At]; omega
  have hz : w.z = w.hi.val * 18446744073709551616 + w.lo.val:=rfl
  generalize x.val * x.val = q at *
  rw [eh]
  simp only [decide_eq_true_eq,beq_iff_eq]
  omega
theorem xS (w : Wd) (h : 0 ≤ w.hi.val) : ∀ (fu : Nat) (x : Dp) (i : Aq),x.val * x.val ≤ w.z → (Cy fu w x i).val * (Cy fu w x i).val ≤ w.z:=by
  have z0 : 0 ≤ w.z:=by
    have:=w.lo.lo
    show 0 ≤ w.hi.val * 18446744073709551616 + w.lo.val
    omega
  intro fu
  induction fu with
  | zero=>intro x i _; exact z0
  | succ fu ih=>
    intro x i hx
    unfold Cy
    simp only [Ag]
    generalize Qg .u64 x.val (Ci .u64 1 (Ak i.val).val).val = y
    obtain ⟨c1,c2⟩:=m8 y w h
    cases decide (i.val ≥ 0) with
    | false=>rw [Ae]; exact hx
    | true=>
      rw [Ai]
      cases h1 : decide ((Ce y y).1.val < (Ak w.hi.val).val) with
      | true=>rw [Ai]; exact ih _ _ (c1 h1)
      | false=>
        rw [Ae]
        cases h2 : ((Ce y y).1.val == (Ak w.hi.val).val) with
        | false=>rw [Ae]; exact ih _ _ hx
        | true=>
          rw [Ai]
          cases h3 : decide ((Ce y y).2.val ≤ w.lo.val) with
          | false=>rw [Ae]; exact ih _ _ hx
          | true=>rw [Ai]; exact ih _ _ (c2 h2 h3)
theorem sZ (w : Wd) : ∀ (fu : Nat) (x : Dp) (i : Aq),i.val ≤ 63 → (i.val + 1).toNat < fu → H6 fu w x i = (Cy fu w x i,true):=by
  intro fu
  induction fu with
  | zero=>intro x i _ h; exact absurd h (Nat.not_lt_zero _)
  | succ fu ih=>
    intro x i hi hf
    unfold H6 Cy
    simp only [Ag,tH]
    by_cases h : i.val ≥ 0
    · have ei : (Ak i.val).val = i.val:=by rw [At]; omega
      have e2 : (An (i.val - 1)).val = i.val - 1:=by rw [Ad]; omega
      have ih':=fun x=>ih x (An (i.val - 1)) (by omega) (by omega)
      simp only [h,decide_true,Ai,ei,ih']
      generalize Qg .u64 x.val (Ci .u64 1 i.val).val = y
      cases decide ((Ce y y).1.val < (Ak w.hi.val).val) with
      | true=>rw [Ai,Ai]
      | false=>
        rw [Ae,Ae]
        cases ((Ce y y).1.val == (Ak w.hi.val).val) with
        | false=>rw [Ae,Ae]
        | true=>
          rw [Ai,Ai]
          cases decide ((Ce y y).2.val ≤ w.lo.val) with
          | false=>rw [Ae,Ae]
          | true=>rw [Ai,Ai]
    · simp only [h,decide_false,Ae]
theorem X8 (w : Wd) (h : 0 ≤ w.hi.val) : Qy w = (Cc w,true):=by
  unfold Qy Cc
  have : decide (w.hi.val < 0) = false:=decide_eq_false (by omega)
  rw [this,Ae]
  exact sZ w 65 _ _ (by decide) (by decide)
theorem aR (a b : Aq) (ha : 0 ≤ a.val) (hb : 0 ≤ b.val) : 0 ≤ (A3 a b).hi.val:=by
  have h:=Jh a b
  have h0:=Int.mul_nonneg ha hb
  have h1:=(A3 a b).lo.hi
  have hz : (A3 a b).z = (A3 a b).hi.val * 18446744073709551616 + (A3 a b).lo.val:=rfl
  omega
theorem d7 (a b : Aq) : Pi a b = I8 a b:=by
  unfold Pi I8
  by_cases h1 : a.val < 0
  · simp only [h1,decide_true,Ai]
  · by_cases h2 : b.val < 0
    · simp only [h1,h2,decide_true,decide_false,Ai,Ae]
    · simp only [h1,h2,decide_false,Ae,Ag,On,X8 _ (aR a b (by omega) (by omega))]
theorem xO {r : Int} (h : r * r ≤ 4951760157141521099596496896) : r ≤ 70368744177664:=by
  by_cases q : r ≤ 70368744177664
  · exact q
  · have : 70368744177665 * 70368744177665 ≤ r * r:=Int.mul_le_mul (by omega) (by omega) (by decide) (by omega)
    omega
theorem lY (a : Aq) (h0 : 0 ≤ a.val) (h1 : a.val ≤ 1152921504606846976) : ∃ r : Aq,I8 a (Ah 4294967296) = (r,true) ∧ 0 ≤ r.val ∧ r.val ≤ 70368744177664 ∧ r.val * r.val ≤ a.val * 4294967296:=by
  have hz:=Jh a (Ah 4294967296)
  rw [A8] at hz
  have hq:=xS (A3 a (Ah 4294967296)) (aR a _ h0 (by decide)) 65 (Eu 0) (Ah 63) (by rw [hz]; show (0 : Int) * 0 ≤ _; omega)
  rw [hz] at hq
  have hx0:=(Cc (A3 a (Ah 4294967296))).lo
  have hx1 : (Cc (A3 a (Ah 4294967296))).val ≤ 70368744177664:=xO (Int.le_trans hq (by omega))
  have e : (An (Cc (A3 a (Ah 4294967296))).val).val = (Cc (A3 a (Ah 4294967296))).val:=by rw [Ad]; omega
  refine ⟨An (Cc (A3 a (Ah 4294967296))).val,?_,by omega,by omega,by rw [e]; exact hq⟩
  unfold I8
  have d1 : decide (a.val < 0) = false:=decide_eq_false (by omega)
  have d2 : decide ((Ah 4294967296).val < 0) = false:=by decide
  simp only [d1,d2,Ae,Ag]
theorem x9 {a : Aq} (h : -1152921504606846976 ≤ a.val ∧ a.val ≤ 1152921504606846976) : Fu a true = (a,true):=by
  unfold Fu
  simp only [Ag,Nt h.1 h.2,Bool.not_true,Ae]
theorem dI (a : Aq) (h0 : 0 ≤ a.val) (h1 : a.val ≤ 1152921504606846976) : ∃ r : Aq,Ly a = (r,true) ∧ Q1 a = (r,true) ∧ 0 ≤ r.val ∧ r.val ≤ 70368744177664 ∧ r.val * r.val ≤ a.val * 4294967296:=by
  obtain ⟨r,e,r0,r1,r2⟩:=lY a h0 h1
  refine ⟨r,?_,?_,r0,r1,r2⟩
  · unfold Ly
    have : Bz a (Ah 0) (Ah 1152921504606846976) = true:=by
      rw [Gk]
      simp only [Bool.and_eq_true,decide_eq_true_eq,A8]
      omega
    simp only [Ag,this,e,Bool.not_true,Ae]
  · unfold Q1
    simp only [Ag,Me,d7,Vm,e,Nt (show -1152921504606846976 ≤ a.val by omega) h1,Bool.not_true,Ae,x9 (show -1152921504606846976 ≤ r.val ∧ r.val ≤ 1152921504606846976 by omega)]
theorem z7 (x : Int) (h0 : 0 ≤ x) : (Eo .i64 (An x).val 4294967295).val = x % 4294967296:=by
  have e : (BitVec.ofInt 64 (An x).val &&& BitVec.ofInt 64 4294967295).toNat = (x % 4294967296).toNat:=by
    have e1 : BitVec.ofInt 64 (An x).val = BitVec.ofNat 64 x.toNat:=by
      apply BitVec.eq_of_toNat_eq
      rw [BitVec.toNat_ofInt,BitVec.toNat_ofNat,Ad]
      omega
    have e2 : BitVec.ofInt 64 4294967295 = BitVec.ofNat 64 4294967295:=by decide
    rw [e1,e2,BitVec.toNat_and,BitVec.toNat_ofNat,BitVec.toNat_ofNat]
    have e3 : (4294967295 : Nat) % 2 ^ 64 = 2 ^ 32 - 1:=by decide
    rw [e3,Nat.and_two_pow_sub_one_eq_mod]
    omega
  show IntKind.i64.wrap ((BitVec.ofInt 64 (An x).val &&& BitVec.ofInt 64 4294967295).toNat : Int) = _
  rw [e,IntKind.wrap_i64]
  omega
theorem Aba (a : Aq) (h0 : 0 ≤ a.val) (h1 : a.val ≤ 1152921504606846976) : ∃ r : Aq,Rm a = (r,true) ∧ Yp a = (r,true):=by
  obtain ⟨r,e1,e2,r0,r1,r2⟩:=dI a h0 h1
  unfold Rm Yp
  simp only [Ag,e1,e2,On,Vm,Bool.not_true,Ai,Ae]
  have s0 : 0 ≤ r.val * r.val:=Int.mul_nonneg r0 r0
  have s1 : r.val * r.val ≤ 4951760157141521099596496896:=Int.le_trans r2 (by omega)
  have p1:=Jh r r
  have p2:=Jh a (Ah 4294967296)
  rw [A8] at p2
  have hc : ((A3 r r).hi.val == (A3 a (Ah 4294967296)).hi.val && (A3 r r).lo.val == (A3 a (Ah 4294967296)).lo.val) = decide (r.val * r.val = a.val * 4294967296):=by
    have z1 : (A3 r r).z = (A3 r r).hi.val * 18446744073709551616 + (A3 r r).lo.val:=rfl
    have z2 : (A3 a (Ah 4294967296)).z = (A3 a (Ah 4294967296)).hi.val * 18446744073709551616 + (A3 a (Ah 4294967296)).lo.val:=rfl
    have l1:=(A3 r r).lo.lo
    have l2:=(A3 r r).lo.hi
    have l3:=(A3 a (Ah 4294967296)).lo.lo
    have l4:=(A3 a (Ah 4294967296)).lo.hi
    rw [Bool.eq_iff_iff]
    simp only [Bool.and_eq_true,beq_iff_eq,decide_eq_true_eq]
    generalize r.val * r.val = q at *
    omega
  have hm : ∃ n : Aq,Ei r r (Ah 32) = (n,true) ∧ n.val = r.val * r.val / 4294967296:=by
    have hz : (D9 (A3 r r) (Ah 32)).z = r.val * r.val / 4294967296:=by rw [Zg,p1]
    obtain ⟨n,k1,k2⟩:=Yn (D9 (A3 r r) (Ah 32)) (by rw [hz]; omega) (by rw [hz]; omega)
    refine ⟨n,?_,by rw [k1,hz]⟩
    unfold Ei
    have e3 : Bz (Ah 32) (Ah 0) (Ah 126) = true:=by decide
    simp only [Ag,k2,e3,Bool.not_true,Ae]
  obtain ⟨n,hn,hnv⟩:=hm
  have hl:=z7 (r.val * r.val) s0
  have er : (An (r.val + 1)).val = r.val + 1:=by rw [Ad]; omega
  rw [hc,hn]
  simp only [hl,x9 (show -1152921504606846976 ≤ r.val ∧ r.val ≤ 1152921504606846976 by omega),x9 (show -1152921504606846976 ≤ (An (r.val + 1)).val ∧ (An (r.val + 1)).val ≤ 1152921504606846976 by omega)]
  generalize r.val * r.val = q at *
  by_cases hq : q = a.val * 4294967296
  · have b1 : (n.val != a.val) = false:=by simp only [bne_eq_false_iff_eq]; omega
    have b2 : (q % 4294967296 != 0) = false:=by simp only [bne_eq_false_iff_eq]; omega
    refine ⟨r,?_,?_⟩
    · simp only [b1,b2,Ae]
    · rw [decide_eq_true hq]; simp only [Bool.not_true,Ae]
  · refine ⟨An (r.val + 1),?_,?_⟩
    · by_cases b : n.val = a.val
      · have b1 : (n.val != a.val) = false:=by simp only [bne_eq_false_iff_eq]; exact b
        have b2 : (q % 4294967296 != 0) = true:=by simp only [bne_iff_ne,ne_eq]; omega
        simp only [b1,b2,Ae,Ai]
      · have b1 : (n.val != a.val) = true:=by simp only [bne_iff_ne,ne_eq]; exact b
        simp only [b1,Ai]
    · rw [decide_eq_false hq]; simp only [Bool.not_false,Ai]
theorem X9 (a : Iv) : Sh a = Jw a:=by
  unfold Sh Jw
  simp only [Ag,Hw,Dv]
  cases ha : Am a with
  | false=>simp only [Bool.not_false,Ai]
  | true=>
    obtain ⟨a1,a2,a3⟩:=Xi ha
    simp only [Bool.not_true,Ae]
    by_cases h : a.lo.val < 0
    · simp only [h,decide_true,Ai]
    · obtain ⟨r,e1,e2,_⟩:=dI a.lo (by omega) (by omega)
      obtain ⟨s,f1,f2⟩:=Aba a.hi (by omega) (by omega)
      simp only [h,decide_false,Ae,e1,e2,f1,f2,Ai,Kj]
theorem fF (fu gu : Nat) (a : Aq) (h0 : 0 < a.val) : Ko (fu + 1) a = He (gu + 1) a:=by
  unfold Ko He Kk Cr
  have d1 : decide (a.val < 0) = false:=decide_eq_false (by omega)
  have d2 : (a.val == 0) = false:=by simp only [beq_eq_false_iff_ne,ne_eq]; omega
  simp only [Ag,O5,Dv,P4,d1,d2,Ae]
theorem Mx (a : Aq) : Id a = B8 a:=by
  unfold Id B8
  by_cases h : 0 < a.val
  · exact fF 1 1 a h
  · unfold Ko He Kk Cr
    simp only [Ag,O5,Dv,P4]
    cases hi : Bz a (Ah (-36000000000)) (Ah 36000000000) with
    | false=>simp only [Bool.not_false,Ai]
    | true=>
      rw [Gk] at hi
      simp only [Bool.and_eq_true,decide_eq_true_eq,A8] at hi
      simp only [Bool.not_true,Ae]
      by_cases h2 : a.val = 0
      · have d1 : decide (a.val < 0) = false:=decide_eq_false (by omega)
        have d2 : (a.val == 0) = true:=by simp only [beq_iff_eq]; exact h2
        simp only [d1,d2,Ae,Ai]
      · have d1 : decide (a.val < 0) = true:=decide_eq_true (by omega)
        have d2 : (a.val == 0) = false:=by simp only [beq_eq_false_iff_ne,ne_eq]; exact h2
        have en : (An (0 - a.val)).val = -a.val:=by rw [Ad]; omega
        simp only [d1,d2,Ae,Ai,fF 0 0 (An (0 - a.val)) (by omega),Uh]
theorem Uj (a : Iv) : G4 a = Hp a:=by
  unfold G4 Hp
  simp only [Ag,Z9]
theorem sY (x y : Aq) (hx : -890000000 ≤ x.val ∧ x.val ≤ 890000000) (hy : -890000000 ≤ y.val ∧ y.val ≤ 890000000) : decide ((C3 (An (x.val + y.val))).val ≥ 10000000) = (bif decide ((An (x.val + y.val)).val ≥ 10000000) then true else decide ((An (x.val + y.val)).val ≤ -10000000)):=by
  have e : (An (x.val + y.val)).val = x.val + y.val:=by rw [Ad]; omega
  generalize An (x.val + y.val) = s at *
  unfold C3
  have en : (An (0 - s.val)).val = -s.val:=by rw [Ad]; omega
  have m:=I3 s (An (0 - s.val))
  rw [en] at m
  generalize mx s (An (0 - s.val)) = a at *
  by_cases h : s.val ≥ 10000000
  · rw [decide_eq_true h,Ai]
    exact decide_eq_true (by omega)
  · rw [decide_eq_false h,Ae]
    rw [Bool.eq_iff_iff]
    simp only [decide_eq_true_eq]
    omega
theorem lV (a : Aq) : P7 a = G2 a:=rfl
theorem xN {a : Aq} (h : G2 a = true) : -890000000 ≤ a.val ∧ a.val ≤ 890000000:=by
  unfold G2 at h
  rw [Ag,Gk] at h
  simp only [Bool.and_eq_true,decide_eq_true_eq,A8] at h
  exact h
theorem X7 (p : Pj) : D6 p = Hc p:=by
  unfold D6 Hc
  simp only [Ag,Gx,lV]
  cases h1 : B4 ⟨p.lat0,p.lon0⟩ with
  | false=>simp only [Bool.not_false,Ai]; cases Dg p.kind (Ah 1) (Ah 16) <;> simp only [Bool.not_false,Bool.not_true,Ai,Ae]
  | true=>
    cases h2 : G2 p.lat1 with
    | false=>simp only [Bool.not_false,Bool.not_true,Ai,Ae]; cases Dg p.kind (Ah 1) (Ah 16) <;> simp only [Bool.not_false,Bool.not_true,Ai,Ae]
    | true=>
      cases h3 : G2 p.lat2 with
      | false=>simp only [Bool.not_false,Bool.not_true,Ai,Ae]; cases Dg p.kind (Ah 1) (Ah 16) <;> simp only [Bool.not_false,Bool.not_true,Ai,Ae]
      | true=>
        simp only [Bool.not_true,Ae,sY p.lat1 p.lat2 (xN h2) (xN h3)]
        unfold Ja As
        simp only [Ag,U5,A8]
        generalize p.kind.val = k
        by_cases hk : 1 ≤ k ∧ k ≤ 16
        · obtain rfl | rfl | rfl | rfl | rfl | rfl | rfl | rfl | rfl | rfl | rfl | rfl | rfl | rfl | rfl | rfl : k = 1 ∨ k = 2 ∨ k = 3 ∨ k = 4 ∨ k = 5 ∨ k = 6 ∨ k = 7 ∨ k = 8 ∨ k = 9 ∨ k = 10 ∨ k = 11 ∨ k = 12 ∨ k = 13 ∨ k = 14 ∨ k = 15 ∨ k = 16:=by omega
          all_goals simp [bne]
          all_goals grind
        · have e0 : (decide (1 ≤ k) && decide (k ≤ 16)) = false:=by
            rw [Bool.and_eq_false_iff]
            simp only [decide_eq_false_iff_not]
            omega
          have ne : ∀ n : Int,1 ≤ n → n ≤ 16 → (k == n) = false:=fun n a b=>by
            simp only [beq_eq_false_iff_ne,ne_eq]
            omega
          simp only [e0,Bool.not_false,Ai,ne 1 (by decide) (by decide),ne 2 (by decide) (by decide),ne 3 (by decide) (by decide),ne 4 (by decide) (by decide),ne 5 (by decide) (by decide),ne 6 (by decide) (by decide),ne 7 (by decide) (by decide),ne 8 (by decide) (by decide),ne 9 (by decide) (by decide),ne 10 (by decide) (by decide),ne 11 (by decide) (by decide),ne 12 (by decide) (by decide),ne 13 (by decide) (by decide),ne 14 (by decide) (by decide),ne 15 (by decide) (by decide),ne 16 (by decide) (by decide),Ae]
theorem Oo (p : Pj) : D6 p = A7 p:=by
  unfold A7
  rw [Ag,X7]
theorem Tg (a : Aq) : Na a = D4 a:=by
  unfold Na D4
  have b : -3600000000 < (Jl a 3600000000).val ∧ (Jl a 3600000000).val < 3600000000:=by
    rw [Ll]
    by_cases hs : 0 ≤ a.val
    · rw [Int.tmod_eq_emod_of_nonneg hs]; omega
    · have : Int.tmod a.val 3600000000 = -((-a.val) % 3600000000):=by
        rw [← Int.tmod_eq_emod_of_nonneg (by omega),Int.neg_tmod,Int.neg_neg]
      rw [this]; omega
  generalize Jl a 3600000000 = m at *
  by_cases h : m.val > 1800000000
  · have e : decide ((An (m.val - 3600000000)).val ≤ -1800000000) = false:=decide_eq_false (by rw [Ad]; omega)
    simp only [h,decide_true,Ai,e,Ae]
  · simp only [h,decide_false,Ae]
theorem Yt (a : Aq) : -1800000000 < (D4 a).val ∧ (D4 a).val ≤ 1800000000:=by
  rw [← Tg]
  unfold Na
  have b : -3600000000 < (Jl a 3600000000).val ∧ (Jl a 3600000000).val < 3600000000:=by
    rw [Ll]
    by_cases hs : 0 ≤ a.val
    · rw [Int.tmod_eq_emod_of_nonneg hs]; omega
    · have : Int.tmod a.val 3600000000 = -((-a.val) % 3600000000):=by
        rw [← Int.tmod_eq_emod_of_nonneg (by omega),Int.neg_tmod,Int.neg_neg]
      rw [this]; omega
  generalize Jl a 3600000000 = m at *
  by_cases h : m.val > 1800000000
  · simp only [h,decide_true,Ai,Ad]; omega
  · simp only [h,decide_false,Ae]
    by_cases h2 : m.val ≤ -1800000000
    · simp only [h2,decide_true,Ai,Ad]; omega
    · simp only [h2,decide_false,Ae]; omega
theorem Afb (a : Aq) (n : Int) (hn : 0 < n) (ha : -9223372036854775808 < a.val) : ((C3 a).val == n) = (bif (a.val == n) then true else (a.val == -n)):=by
  unfold C3
  have hi:=a.hi
  have en : (An (0 - a.val)).val = -a.val:=by rw [Ad]; omega
  have m:=I3 a (An (0 - a.val))
  rw [en] at m
  generalize mx a (An (0 - a.val)) = x at *
  by_cases h : a.val = n
  · have e : (a.val == n) = true:=by simp only [beq_iff_eq]; exact h
    rw [e,Ai]
    simp only [beq_iff_eq]
    omega
  · have e : (a.val == n) = false:=by simp only [beq_eq_false_iff_ne,ne_eq]; exact h
    rw [e,Ae,Bool.eq_iff_iff]
    simp only [beq_iff_eq]
    omega
theorem nA (a : Iv) : N7 a = Jp a:=by
  unfold N7 Jp Dt
  simp only [Ag,Hw]
theorem wJ (a : Iv) : Vx a = Cw (Ao (Ah 1)) a:=by
  unfold Vx
  simp only [Ag,F3,Le]
theorem Vn {p : Pt} (h : B4 p = true) : Nd p = B8 p.lat:=by
  unfold Nd
  simp only [Ag,Gx,h,Bool.not_true,Ae,Mx]
theorem wM {p : Pj} {q : Pt} (hp : A7 p = true) (h : B4 q = true) : Ss p q = B8 (D4 (An (q.lon.val - p.lon0.val))):=by
  unfold Ss
  simp only [Ag,Oo,hp,Gx,h,Bool.not_true,Ae,Tg,Mx]
theorem Ahg (p : Pj) (q : Pt) : (bif (q.lat.val == 0) then ((C3 (D4 (An (q.lon.val - p.lon0.val)))).val == 900000000) else false) = Jo p q:=by
  unfold Jo
  have w:=Yt (An (q.lon.val - p.lon0.val))
  rw [Ag,Afb _ _ (by decide) (by omega)]
theorem gC (p : Pj) : Ml p = Hi p:=by
  unfold Ml Hi
  simp only [Ag,Oo]
  cases A7 p <;> cases (p.kind.val == 16) <;> rfl
theorem Agv {p : Pj} (h : Hi p = true) : A7 p = true:=by
  unfold Hi at h
  rw [Ag] at h
  cases hk : (p.kind.val == 16) with
  | false=>rw [hk,Ae] at h; cases h
  | true=>rw [hk,Ai] at h; exact h
theorem lU (p : Pj) (q : Pt) : P6 p q = (bif (!(Hi p)) then ((⟨(Ah 0),(Ah 0)⟩ : Iv),(⟨(Ah 0),(Ah 0)⟩ : Iv),(⟨(Ah 0),(Ah 0)⟩ : Iv),(Ah 1)) else (bif (!(B4 q)) then ((⟨(Ah 0),(Ah 0)⟩ : Iv),(⟨(Ah 0),(Ah 0)⟩ : Iv),(⟨(Ah 0),(Ah 0)⟩ : Iv),(Ah 1)) else
    (bif Jo p q then ((⟨(Ah 0),(Ah 0)⟩ : Iv),(⟨(Ah 0),(Ah 0)⟩ : Iv),(⟨(Ah 0),(Ah 0)⟩ : Iv),(Ah 8)) else (B8 q.lat,P5 p q,Ay (Hp (B8 q.lat)) (Lh (P5 p q)),(Ah 0))))):=by
  unfold P6
  simp only [Ag,gC,Gx]
  cases h1 : Hi p with
  | false=>simp only [Bool.not_false,Ai]
  | true=>
    cases h2 : B4 q with
    | false=>simp only [Bool.not_false,Bool.not_true,Ai,Ae]
    | true=>
      unfold P5
      simp only [Bool.not_true,Ae,← Ahg,Tg,Vn h2,wM (Agv h1) h2,Ag,Uj,Wr,Il]
      cases (q.lat.val == 0) with
      | false=>simp only [Ae]
      | true=>
        simp only [Ai]
theorem aY (p : Pj) (q : Pt) : Kg p q = Bi p q:=by
  unfold Kg Bi Tj
  simp only [Ag,lU]
  cases Hi p with
  | false=>rfl
  | true=>
    cases B4 q with
    | false=>rfl
    | true=>
      cases Jo p q with
      | true=>rfl
      | false=>
        simp only [Bool.not_true,Ae]
        have e : ((Ah 0).val != 0) = false:=by decide
        simp only [e,Ae,F3,Sd,wJ,X9,Im,nA]
theorem kF (k : Aq) (x : Iv) : W6 k x = Ay (Ao k) x:=by
  unfold W6
  simp only [Ag,F3,Il]
theorem Aa8 (x y : Iv) : Rr x y = (bif Dt x then ((⟨(⟨(Ah 0),(Ah 0)⟩ : Iv),(⟨(Ah 0),(Ah 0)⟩ : Iv)⟩ : Pn),(Ah 9)) else (bif Dt y then ((⟨(⟨(Ah 0),(Ah 0)⟩ : Iv),(⟨(Ah 0),(Ah 0)⟩ : Iv)⟩ : Pn),(Ah 9)) else ((⟨x,y⟩ : Pn),(Ah 0)))):=by
  unfold Rr Dt
  simp only [Ag,Hd]
  cases Am x <;> cases Am y <;> rfl
theorem kL (a : Iv) : Jd a = Qu a:=by
  unfold Jd Qu
  rw [Ag,I4]
  unfold Bj
  simp only [Ag]
  have e1 : a.lo.val + a.lo.val = 2 * a.lo.val:=by omega
  have e2 : a.hi.val + a.hi.val = 2 * a.hi.val:=by omega
  rw [e1,e2]
  cases Am a
  · simp only [Bool.not_false,Ai]
  · simp only [Bool.not_true,Ae]
theorem tI (a : Iv) : Zl a = W3 a:=by
  unfold Zl W3
  simp only [Ag,Hw,Dv]
  cases h : Am a with
  | false=>simp only [Bool.not_false,Ai]
  | true=>
    obtain ⟨h1,h2,h3⟩:=Xi h
    simp only [Bool.not_true,Ae]
    rw [Fc (by rw [bR,bR,Ad]; omega)]
theorem Rx {a : Iv} (h : Am a = true) : 0 ≤ (B9 a).1.val ∧ (B9 a).1.val ≤ (B9 a).2.val ∧ (B9 a).2.val < 1152921504606846976:=by
  obtain ⟨h1,h2,h3⟩:=Xi h
  unfold B9 I1
  simp only [Ag,Z8,Z7,Gk,A8]
  have e1 : (An (0 - a.lo.val)).val = -a.lo.val:=by rw [Ad]; omega
  have e2 : (An (0 - a.hi.val)).val = -a.hi.val:=by rw [Ad]; omega
  have m1:=I3 a.lo (An (0 - a.lo.val))
  have m2:=I3 a.hi (An (0 - a.hi.val))
  rw [e1] at m1
  rw [e2] at m2
  generalize mx a.lo (An (0 - a.lo.val)) = p at *
  generalize mx a.hi (An (0 - a.hi.val)) = q at *
  have n1:=I3 p q
  have n2:=Od p q
  cases (decide (a.lo.val ≤ 0) && decide (0 ≤ a.hi.val)) with
  | true=>simp only [Ai,A8]; omega
  | false=>simp only [Ae]; omega
theorem kP (a : Iv) : R6 a = Yk a:=by
  unfold Yk
  simp only [Ag]
  cases h : Am a with
  | false=>
    unfold R6
    simp only [Ag,Hw,h,Bool.not_false,Ai,Dv]
  | true=>
    obtain ⟨h1,h2,h3⟩:=Rx h
    simp only [Bool.not_true,Ae]
    rw [pQ h,Fc (by omega)]
theorem R0 {a : Iv} (h : Am a = true) : Yk a = ⟨(B9 a).1,(B9 a).2⟩:=by rw [← kP,pQ h]
theorem Ael (a b : Iv) : Xa a b = Sf a b:=by
  unfold Xa Sf
  simp only [Ag,Hd]
  cases Am a
  · simp only [Bool.false_and,Bool.not_false,Ai]
  · cases Am b
    · simp only [Bool.and_false,Bool.not_false,Bool.not_true,Ai,Ae]
    · simp only [Bool.and_self,Bool.not_true,Ae]
theorem tL (n : Aq) : T3 n = Tn n:=by
  unfold T3 Tn Zi Ov Cr
  simp only [Ag,O5,Dv,d7,On]
  cases Bz n (Ah (-4294967296)) (Ah 4294967296)
  · simp only [Bool.not_false,Ai]
  · simp only [Bool.not_true,Ae]
    generalize I8 (An (4294967296 - n.val)) (An (4294967296 + n.val)) = p
    generalize A3 p.1 p.1 = a
    generalize A3 (An (4294967296 - n.val)) (An (4294967296 + n.val)) = b
    cases (a.hi.val == b.hi.val && a.lo.val == b.lo.val)
    · simp only [Bool.not_false,Ai,Ae]
    · simp only [Bool.not_true,Ai,Ae]
theorem pP (x : Iv) : Rw x = Ro x:=by
  unfold Rw Ro Cr
  have e : eW = M4:=Eq.trans rfl rfl
  simp only [Ag,b8,Dv,Sd,Yb,Il,Le,I4,e]
theorem Aa9 (x : Iv) : Vz x = Qt x:=by
  unfold Vz Qt
  simp only [Ag,F3,Sd,I4,X9,Im]
theorem tB (x : Iv) : Qx x = So x:=by
  unfold Qx So
  simp only [Ag,Aa9,pP,kL]
theorem eO (n : Aq) : Ty n = G8 n:=rfl
theorem U9 {n : Aq} (h : G8 n = true) : -1152921504606846976 < n.val ∧ n.val < 1152921504606846976:=by
  unfold G8 at h
  by_cases q : -1152921504606846976 < n.val
  · simp only [q,decide_true,Ai,decide_eq_true_eq] at h
    exact ⟨q,h⟩
  · simp only [q,decide_false,Ae] at h
    cases h
theorem yU (n : Aq) : Ov n = Bm n:=Eq.trans rfl rfl
theorem nG (n : Aq) (f g : Aq → Iv) (h : f (An (0 - n.val)) = g (An (0 - n.val)) ∨ ¬ n.val < 0 ∨ G8 n = false) : Xc f n = To g n:=by
  unfold Xc To
  simp only [Ag,eO,U1,Uh,Th,F3,yU,Im,tB,Le]
  rcases h with h | h | h
  · rw [h]
  · rw [decide_eq_false h]; simp only [Ae]
  · rw [h]; simp only [Bool.not_false,Ai]
theorem Abc (n : Aq) : Yr n = Vs n:=by
  unfold Yr Vs Q5 Ot
  refine nG n _ _ ?_
  by_cases h : n.val < 0
  · cases ho : G8 n with
    | false=>exact .inr (.inr rfl)
    | true=>
      left
      obtain ⟨h1,h2⟩:=U9 ho
      unfold Q5 Ot
      exact nG _ _ _ (.inr (.inl (by rw [Ad]; omega)))
  · exact .inr (.inl h)
theorem kO (x : Iv) : P8 x = De x:=by
  unfold P8 De Dt
  simp only [Ag,Hw,U1,Abc,Rh]
theorem Abe (n : Aq) : V1 n = Vt n:=by
  unfold V1 Vt Cr
  simp only [Ag,O5,Dv,yU,F3,tL,I4,Im,kO,kL,U1,d9]
theorem Aeo (x : Iv) : dN x = Zj x:=by
  unfold dN Zj Cr
  have e : Tw = Co:=Eq.trans rfl rfl
  simp only [Ag,e,d9,Dv,Abe,Rh]
theorem Ae5 {α : Type} (p : Prop) [Decidable p] (x y : α) : (bif decide p then x else y) = if p then x else y:=by
  by_cases h : p <;> simp [h]
theorem Ae6 {α : Type} (a b : Int) (x y : α) : (bif (a == b) then x else y) = if a = b then x else y:=by
  by_cases h : a = b
  · subst h; simp
  · have e : (a == b) = false:=by simp only [beq_eq_false_iff_ne,ne_eq]; exact h
    rw [e,if_neg h,Ae]
theorem gS {a : Aq} (h : -1152921504606846976 < a.val ∧ a.val < 1152921504606846976) : (C3 a).val = if a.val < 0 then -a.val else a.val:=by
  unfold C3
  have en : (An (0 - a.val)).val = -a.val:=by rw [Ad]; omega
  have m:=I3 a (An (0 - a.val))
  rw [en] at m
  split <;> omega
theorem Xh {y x : Int} {α : Type} (A1 A2 B C D W : α) :
    (bif (y == 0) then (bif (x == 0) then W else (bif decide ((if y < 0 then -y else y) > (if x < 0 then -x else x)) then (bif decide (y < 0) then A1 else A2) else (bif decide (x > 0) then B else (bif decide (y < 0) then C else D)))) else (bif decide ((if y < 0 then -y else y) > (if x < 0 then -x else x)) then (bif decide (y < 0) then A1 else A2) else (bif decide (x > 0) then B else (bif decide (y < 0) then C else D)))) =
    if x = 0 ∧ y = 0 then W else if (if y < 0 then -y else y) > x ∧ (if y < 0 then -y else y) > -x then (if y < 0 then A1 else A2) else if x > 0 then B else if y < 0 then C else D:=by
  simp only [Ae5,Ae6]
  grind
theorem Yc (y x : Aq) : Ch y x = Bh y x:=by
  unfold Ch Bh Cr
  simp only [Ag,eO,Dv,yU,Th,Im,kO,Le,I4]
  cases hy : G8 y with
  | false=>simp only [Bool.not_false,Ai]
  | true=>
    cases hx : G8 x with
    | false=>simp only [Bool.not_false,Bool.not_true,Ai,Ae]
    | true=>
      have yb:=U9 hy
      have xb:=U9 hx
      have ey : (An (0 - y.val)).val = -y.val:=by rw [Ad]; omega
      have ex : (An (0 - x.val)).val = -x.val:=by rw [Ad]; omega
      simp only [Bool.not_true,Ae,gS yb,gS xb,ey,ex]
      rw [Xh]
      generalize Cw (C5 (Ah (-1))) (De (A4 (Bm x) (Bm y))) = A1
      generalize Cw (C5 (Ah 1)) (De (A4 (Bm x) (Bm y))) = A2
      generalize De (A4 (Bm y) (Bm x)) = B
      generalize Bj B (C5 (Ah (-2))) = C
      generalize Bj B (C5 (Ah 2)) = D
      generalize Aw = W
      generalize y.val = y
      generalize x.val = x
      simp only [Ae5,Ae6]
      grind
theorem a7 (y x : Iv) : Nh y x = H3 y x:=by
  unfold Nh H3 Cr Dt
  simp only [Ag,Hd,Dv,Ahj,Yc,Rh]
  cases Am y
  · simp only [Bool.false_and,Bool.not_false,Ai]
  · cases Am x
    · simp only [Bool.and_false,Bool.not_false,Bool.not_true,Ai,Ae]
    · simp only [Bool.and_self,Bool.not_true,Ae]
theorem Ago (i : Aq) (n : Nat) (h : i.val = n) (hn : n ≤ 63) : (Ci .u64 1 (Ak i.val).val).val = 2 ^ n:=by
  have e : (Ak i.val).val = n:=by rw [At,h]; omega
  rw [e]
  show IntKind.u64.wrap (1 * 2 ^ (min ((n : Int)).toNat 64)) = _
  rw [Int.toNat_natCast,Nat.min_eq_left (by omega),IntKind.wrap_u64,Int.one_mul]
  have h1 : (2 : Int) ^ n = ((2 ^ n : Nat) : Int):=by rw [Int.natCast_pow]; rfl
  have h2 : 2 ^ n ≤ 2 ^ 63:=Nat.pow_le_pow_right (by omega) hn
  have h3 : (2 : Nat) ^ 63 = 9223372036854775808:=by decide
  rw [h1]
  generalize (2 : Nat) ^ n = m at *
  omega
theorem zR (w : Wd) (h : 0 ≤ w.hi.val) : ∀ (N fu : Nat) (x : Dp) (i : Aq),i.val = (N : Int) - 1 → N ≤ 64 → N < fu → x.val % 2 ^ N = 0 → x.val + 2 ^ N ≤ 18446744073709551616 → w.z < (x.val + 2 ^ N) * (x.val + 2 ^ N) →
    w.z < ((Cy fu w x i).val + 1) * ((Cy fu w x i).val + 1):=by
  intro N
  induction N with
  | zero=>
    intro fu x i hi _ hf _ _ hw
    obtain ⟨fu,rfl⟩ : ∃ k,fu = k + 1:=⟨fu - 1,by omega⟩
    unfold Cy
    have : decide (i.val ≥ 0) = false:=decide_eq_false (by omega)
    rw [this,Ae]
    simpa using hw
  | succ N ih=>
    intro fu x i hi hN hf hx hle hw
    obtain ⟨fu,rfl⟩ : ∃ k,fu = k + 1:=⟨fu - 1,by omega⟩
    have hiN : i.val = (N : Int):=by omega
    have e2 : (An (i.val - 1)).val = (N : Int) - 1:=by rw [Ad]; omega
    have x0:=x.lo
    have hp : (2 : Int) ^ (N + 1) = 2 * 2 ^ N:=by rw [Int.pow_succ]; omega
    have pp : (0 : Int) < 2 ^ N:=Int.pow_pos (by decide)
    have hpn : ((2 : Int) ^ N) = ((2 ^ N : Nat) : Int):=by rw [Int.natCast_pow]; rfl
    have ey : (Qg .u64 x.val (Ci .u64 1 (Ak i.val).val).val).val = x.val + 2 ^ N:=by
      rw [Ago i N hiN (by omega)]
      exact Xy (N + 1) x.val (2 ^ N) x0 (by omega) hx (by omega) (by omega) hN
    have hxN : x.val % 2 ^ N = 0:=by
      have h1 : (2 : Int) ^ N ∣ 2 ^ (N + 1):=⟨2,by rw [hp,Int.mul_comm]⟩
      exact Int.emod_eq_zero_of_dvd (Int.dvd_trans h1 (Int.dvd_of_emod_eq_zero hx))
    have hyN : (x.val + 2 ^ N) % 2 ^ N = 0:=by rw [Int.add_emod_right]; exact hxN
    unfold Cy
    simp only [Ag]
    have hge : decide (i.val ≥ 0) = true:=decide_eq_true (by omega)
    rw [hge,Ai]
    generalize Qg .u64 x.val (Ci .u64 1 (Ak i.val).val).val = y at *
    have yes : w.z < (y.val + 2 ^ N) * (y.val + 2 ^ N):=by
      have : y.val + 2 ^ N = x.val + 2 ^ (N + 1):=by omega
      rw [this]; exact hw
    have goY:=ih fu y (An (i.val - 1)) e2 (by omega) (by omega) (by rw [ey]; exact hyN) (by omega) yes
    have goX:=fun (q : w.z < (x.val + 2 ^ N) * (x.val + 2 ^ N))=>ih fu x (An (i.val - 1)) e2 (by omega) (by omega) hxN (by omega) q
    have e:=Xs y y
    have a1:=(Ce y y).2.lo
    have a2:=(Ce y y).2.hi
    have a3:=w.lo.lo
    have a4:=w.lo.hi
    have a5:=w.hi.hi
    have eh : (Ak w.hi.val).val = w.hi.val:=by rw [At]; omega
    have hz : w.z = w.hi.val * 18446744073709551616 + w.lo.val:=rfl
    rw [eh]
    by_cases c1 : (Ce y y).1.val < w.hi.val
    · rw [decide_eq_true c1,Ai]; exact goY
    · rw [decide_eq_false c1,Ae]
      by_cases c2 : (Ce y y).1.val = w.hi.val
      · have b2 : ((Ce y y).1.val == w.hi.val) = true:=by simp only [beq_iff_eq]; exact c2
        rw [b2,Ai]
        by_cases c3 : (Ce y y).2.val ≤ w.lo.val
        · rw [decide_eq_true c3,Ai]; exact goY
        · rw [decide_eq_false c3,Ae]
          refine goX ?_
          rw [← ey]
          generalize y.val * y.val = q at *
          omega
      · have b2 : ((Ce y y).1.val == w.hi.val) = false:=by simp only [beq_eq_false_iff_ne,ne_eq]; exact c2
        rw [b2,Ae]
        refine goX ?_
        rw [← ey]
        generalize y.val * y.val = q at *
        omega
theorem Yl (w : Wd) (h : 0 ≤ w.hi.val) : (Cc w).val * (Cc w).val ≤ w.z ∧ w.z < ((Cc w).val + 1) * ((Cc w).val + 1):=by
  have h1:=w.hi.hi
  have h2:=w.lo.hi
  have h3:=w.lo.lo
  have hz : w.z = w.hi.val * 18446744073709551616 + w.lo.val:=rfl
  unfold Cc
  refine ⟨xS w h 65 (Eu 0) (Ah 63) (by rw [Bt]; omega),zR w h 64 65 (Eu 0) (Ah 63) (by rw [A8]; rfl) (by decide) (by decide) (by rw [Bt]; rfl) (by rw [Bt]; decide) ?_⟩
  rw [Bt]
  have : ((0 : Int) + 2 ^ 64) * (0 + 2 ^ 64) = 340282366920938463463374607431768211456:=by decide
  rw [this]
  omega
theorem xP {a b : Int} (ha : 0 ≤ a) (hb : 0 ≤ b) (h : a * a < b * b) : a < b:=by
  by_cases q : a < b
  · exact q
  · have : b * b ≤ a * a:=Int.mul_le_mul (by omega) (by omega) hb ha
    omega
theorem zS {v w : Wd} (hv : 0 ≤ v.hi.val) (hw : 0 ≤ w.hi.val) (h : v.z ≤ w.z) : (Cc v).val ≤ (Cc w).val:=by
  obtain ⟨a1,_⟩:=Yl v hv
  obtain ⟨_,b2⟩:=Yl w hw
  have x0:=(Cc v).lo
  have y0:=(Cc w).lo
  have:=xP x0 (by omega : (0 : Int) ≤ (Cc w).val + 1) (by omega)
  omega
theorem sP (x y : Int) (hx : 0 ≤ x) (hx2 : x ≤ 9223372036854775807) (hy : 0 ≤ y) (hy2 : y ≤ 9223372036854775807) : 0 ≤ (Mu .i64 x y).val:=by
  obtain ⟨a,rfl⟩:=Int.eq_ofNat_of_zero_le hx
  obtain ⟨b,rfl⟩:=Int.eq_ofNat_of_zero_le hy
  show 0 ≤ IntKind.i64.wrap ((BitVec.ofInt 64 (a : Int) ^^^ BitVec.ofInt 64 (b : Int)).toNat : Int)
  have e : (BitVec.ofInt 64 (a : Int) ^^^ BitVec.ofInt 64 (b : Int)).toNat = a ^^^ b:=by
    rw [BitVec.toNat_xor,BitVec.toNat_ofInt,BitVec.toNat_ofInt]
    have e1 : ((a : Int) % (2 ^ 64 : Nat)).toNat = a:=by omega
    have e2 : ((b : Int) % (2 ^ 64 : Nat)).toNat = b:=by omega
    rw [e1,e2]
  have hlt : a ^^^ b < 2 ^ 63:=Nat.xor_lt_two_pow (by omega) (by omega)
  rw [e,IntKind.wrap_i64]
  omega
theorem sR (x y : Int) (hx : 0 ≤ x) (hx2 : x ≤ 9223372036854775807) : 0 ≤ (Eo .i64 x y).val:=by
  obtain ⟨a,rfl⟩:=Int.eq_ofNat_of_zero_le hx
  show 0 ≤ IntKind.i64.wrap ((BitVec.ofInt 64 (a : Int) &&& BitVec.ofInt 64 y).toNat : Int)
  have e : (BitVec.ofInt 64 (a : Int) &&& BitVec.ofInt 64 y).toNat ≤ a:=by
    rw [BitVec.toNat_and,BitVec.toNat_ofInt]
    have e1 : ((a : Int) % (2 ^ 64 : Nat)).toNat = a:=by omega
    rw [e1]
    exact Nat.and_le_left
  rw [IntKind.wrap_i64]
  omega
theorem kI (a b : Wd) (ha : 0 ≤ a.hi.val) (hb : 0 ≤ b.hi.val) (h : a.z + b.z < 170141183460469231731687303715884105728) : Ph a b = (Fw a b,true) ∧ (Fw a b).z = a.z + b.z ∧ 0 ≤ (Fw a b).hi.val:=by
  have a1:=a.lo.lo
  have a2:=a.lo.hi
  have b1:=b.lo.lo
  have b2:=b.lo.hi
  have a3:=a.hi.hi
  have b3:=b.hi.hi
  have za : a.z = a.hi.val * 18446744073709551616 + a.lo.val:=rfl
  have zb : b.z = b.hi.val * 18446744073709551616 + b.lo.val:=rfl
  have ca : (Lg a.lo b.lo (Eu 0)).val = (a.lo.val + b.lo.val) / 18446744073709551616:=by rw [kY,Bt,Int.add_zero]
  have cl : (L2 a.lo b.lo (Eu 0)).val = (a.lo.val + b.lo.val) % 18446744073709551616:=by rw [bF,Bt,Int.add_zero]
  have ch : (An (L2 (Ak a.hi.val) (Ak b.hi.val) (Lg a.lo b.lo (Eu 0))).val).val = a.hi.val + b.hi.val + (a.lo.val + b.lo.val) / 18446744073709551616:=by
    rw [Ad,bF,ca,At,At]
    omega
  have pz : (Fw a b).z = a.z + b.z:=by
    obtain ⟨k,hk⟩:=x6 a b
    generalize Fw a b = Y at *
    have y1:=Y.lo.lo
    have y2:=Y.lo.hi
    have y3:=Y.hi.lo
    have y4:=Y.hi.hi
    have : Y.z = Y.hi.val * 18446744073709551616 + Y.lo.val:=rfl
    omega
  refine ⟨?_,pz,?_⟩
  · unfold Ph
    have x1:=sP a.hi.val (An (L2 (Ak a.hi.val) (Ak b.hi.val) (Lg a.lo b.lo (Eu 0))).val).val ha a3 (by omega) (by omega)
    have x2:=Aq.hi (Mu .i64 a.hi.val (An (L2 (Ak a.hi.val) (Ak b.hi.val) (Lg a.lo b.lo (Eu 0))).val).val)
    have x3:=sR _ (Mu .i64 b.hi.val (An (L2 (Ak a.hi.val) (Ak b.hi.val) (Lg a.lo b.lo (Eu 0))).val).val).val x1 x2
    rw [decide_eq_false (by omega),Ae]
    have : (⟨An (L2 (Ak a.hi.val) (Ak b.hi.val) (Lg a.lo b.lo (Eu 0))).val,L2 a.lo b.lo (Eu 0)⟩ : Wd) = Fw a b:=by
      refine Wd.z_inj ?_
      rw [pz]
      show (An (L2 (Ak a.hi.val) (Ak b.hi.val) (Lg a.lo b.lo (Eu 0))).val).val * 18446744073709551616 + (L2 a.lo b.lo (Eu 0)).val = _
      rw [ch,cl,za,zb]
      omega
    rw [this]
  · generalize Fw a b = Y at *
    have y1:=Y.lo.lo
    have y2:=Y.lo.hi
    have : Y.z = Y.hi.val * 18446744073709551616 + Y.lo.val:=rfl
    omega
theorem gT (a b c : Aq) (ha : 0 ≤ a.val ∧ a.val < 1152921504606846976) (hb : 0 ≤ b.val ∧ b.val < 1152921504606846976) (hc : 0 ≤ c.val ∧ c.val < 1152921504606846976) :
    (E8 a b c).z = a.val * a.val + b.val * b.val + c.val * c.val ∧ 0 ≤ (E8 a b c).hi.val ∧ Ph (A3 a a) (A3 b b) = (Fw (A3 a a) (A3 b b),true) ∧
      Ph (Fw (A3 a a) (A3 b b)) (A3 c c) = (E8 a b c,true) ∧ (E8 a b c).z < 3987683987354747618711421180841033728:=by
  have key : ∀ x : Aq,0 ≤ x.val ∧ x.val < 1152921504606846976 → 0 ≤ x.val * x.val ∧ x.val * x.val ≤ 1152921504606846975 * 1152921504606846975:=fun x hx=>⟨Int.mul_nonneg hx.1 hx.1,Int.mul_le_mul (by omega) (by omega) hx.1 (by decide)⟩
  have k1:=key a ha
  have k2:=key b hb
  have k3:=key c hc
  have m1:=Jh a a
  have m2:=Jh b b
  have m3:=Jh c c
  obtain ⟨p1,p2,p3⟩:=kI (A3 a a) (A3 b b) (aR a a ha.1 ha.1) (aR b b hb.1 hb.1) (by omega)
  obtain ⟨q1,q2,q3⟩:=kI (Fw (A3 a a) (A3 b b)) (A3 c c) p3 (aR c c hc.1 hc.1) (by omega)
  have es : E8 a b c = Fw (Fw (A3 a a) (A3 b b)) (A3 c c):=by
    unfold E8
    simp only [Ag]
  rw [es]
  exact ⟨by omega,q3,p1,q1,by omega⟩
theorem kJ (v : Vc) : W9 v = W1 v:=by
  unfold W9 W1 Dt Cr Vr
  simp only [Ag,Hd,Dv,Hw,kP,Kj]
  cases hx : Am v.x with
  | false=>simp only [Bool.false_and,Bool.not_false,Ai]
  | true=>
    cases hy : Am v.y with
    | false=>simp only [Bool.and_false,Bool.not_false,Bool.not_true,Ai,Ae]
    | true=>
      cases hz : Am v.z with
      | false=>simp only [Bool.and_self,Bool.not_false,Bool.not_true,Ai,Ae]
      | true=>
        simp only [Bool.and_self,Bool.not_true,Ae,R0 hx,R0 hy,R0 hz]
        obtain ⟨x1,x2,x3⟩:=Rx hx
        obtain ⟨y1,y2,y3⟩:=Rx hy
        obtain ⟨z1,z2,z3⟩:=Rx hz
        generalize B9 v.x = x at *
        generalize B9 v.y = y at *
        generalize B9 v.z = z at *
        obtain ⟨a1,a2,a3,a4,a5⟩:=gT x.1 y.1 z.1 (by omega) (by omega) (by omega)
        obtain ⟨b1,b2,b3,b4,b5⟩:=gT x.2 y.2 z.2 (by omega) (by omega) (by omega)
        have hle : (E8 x.1 y.1 z.1).z ≤ (E8 x.2 y.2 z.2).z:=by
          have s1 : x.1.val * x.1.val ≤ x.2.val * x.2.val:=Int.mul_le_mul x2 x2 x1 (by omega)
          have s2 : y.1.val * y.1.val ≤ y.2.val * y.2.val:=Int.mul_le_mul y2 y2 y1 (by omega)
          have s3 : z.1.val * z.1.val ≤ z.2.val * z.2.val:=Int.mul_le_mul z2 z2 z1 (by omega)
          omega
        have mono:=zS a2 b2 hle
        unfold Ln
        simp only [Ag,On,a3,a4,b3,b4,X8 _ a2,X8 _ b2]
        have r0:=(Cc (E8 x.1 y.1 z.1)).lo
        have s0:=(Cc (E8 x.2 y.2 z.2)).lo
        have rb:=(Yl _ b2).1
        have ru : (Cc (E8 x.2 y.2 z.2)).val < 2305843009213693952:=by
          refine xP s0 (by decide) ?_
          omega
        generalize Cc (E8 x.1 y.1 z.1) = r at *
        generalize Cc (E8 x.2 y.2 z.2) = s at *
        generalize E8 x.2 y.2 z.2 = S2 at *
        have er : (An r.val).val = r.val:=by rw [Ad]; omega
        have e2 : (An s.val).val = s.val:=by rw [Ad]; omega
        have e3 : (An ((An s.val).val + 1)).val = s.val + 1:=by rw [Ad]; omega
        have c1 : ∀ (b : Bool) (x y z : Aq),(bif b then (x,y) else (x,z)).1 = x:=fun b x y z=>by cases b <;> rfl
        rw [c1]
        generalize ((A3 (An s.val) (An s.val)).hi.val == S2.hi.val && (A3 (An s.val) (An s.val)).lo.val == S2.lo.val) = bb
        cases bb with
        | true=>
          simp only [Bool.not_true,Ae]
          by_cases q : (An s.val).val ≥ 1152921504606846976
          · rw [decide_eq_true q,Ai,Ts (by omega)]
          · rw [decide_eq_false q,Ae,Fc (by omega)]
        | false=>
          simp only [Bool.not_false,Ai]
          by_cases q : (An ((An s.val).val + 1)).val ≥ 1152921504606846976
          · rw [decide_eq_true q,Ai,Ts (by omega)]
          · rw [decide_eq_false q,Ae,Fc (by omega)]
theorem t8 (v : Vc) : Tz v = M3 v:=by
  unfold Tz M3
  simp only [Ag,kJ]
theorem d5 (p : Pj) : K0 p = Gg p:=by
  unfold K0 Gg Ja Vq
  simp only [Ag,Oo,O5]
  cases A7 p <;> cases Bz p.kind (Ah 5) (Ah 9) <;> rfl
theorem mM {p : Pj} (h : Gg p = true) : A7 p = true:=by
  unfold Gg at h
  simp only [Ag] at h
  cases hk : Vq p.kind with
  | false=>rw [hk,Ae] at h; cases h
  | true=>rw [hk,Ai] at h; exact h
theorem eR {p : Pj} (h : A7 p = true) : B4 (Dq p) = true:=by
  unfold A7 Hc at h
  simp only [Ag] at h
  show B4 ⟨p.lat0,p.lon0⟩ = true
  cases hk : B4 ⟨p.lat0,p.lon0⟩ with
  | true=>rfl
  | false=>rw [hk,Bool.not_false,Ai] at h; cases h
theorem Do : Am Aw = false:=by decide
end Go.Proofs.YtfhnlkinjbakgaaGreat.Abs
