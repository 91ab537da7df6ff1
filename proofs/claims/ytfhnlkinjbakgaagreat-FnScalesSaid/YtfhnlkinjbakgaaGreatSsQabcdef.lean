/- Plain laws of the functions on numbers: what the program computes is what the reference computes. -/
import Derived.Test.YtfhnlkinjbakgaaGreatSsQpre
import Derived.Test.YtfhnlkinjbakgaaGreatSsFx
set_option linter.unusedVariables false
set_option linter.unusedSimpArgs false
namespace Go.Proofs.YtfhnlkinjbakgaaGreat.Abs
open Go
theorem Ef (n : Aq) : -1000 ≤ (Cl n).val ∧ (Cl n).val ≤ 1000:=by
  have h1:=n.lo
  have h2:=n.hi
  unfold Cl F5 Wz Bz
  simp only [Aa,Aj]
  by_cases ha : n.val ≥ -1099511627776
  · by_cases hb : n.val ≤ 1099511627776
    · simp only [ha,hb,decide_true,cond_true,Bool.not_true,cond_false]
      have e : (An (n.val + 3373259426)).val = n.val + 3373259426:=by rw [Ad]; omega
      have q : -1000 < Int.tdiv (n.val + 3373259426) 6746518852 ∧ Int.tdiv (n.val + 3373259426) 6746518852 ≤ 1000:=by
        by_cases hs : 0 ≤ n.val + 3373259426
        · rw [Int.tdiv_eq_ediv_of_nonneg hs]; omega
        · have : Int.tdiv (n.val + 3373259426) 6746518852 = -((-(n.val + 3373259426)) / 6746518852):=by
            rw [← Int.tdiv_eq_ediv_of_nonneg (by omega),Int.neg_tdiv,Int.neg_neg]
          rw [this]; omega
      rw [e]
      generalize Int.tdiv (n.val + 3373259426) 6746518852 = p at *
      by_cases hm : (Jl (An (n.val + 3373259426)) 6746518852).val < 0
      · simp only [hm,decide_true,cond_true,Ad]; omega
      · simp only [hm,decide_false,cond_false,Ad]; omega
    · simp only [ha,hb,decide_true,decide_false,cond_true,Bool.not_false,Aj]
      omega
  · simp only [ha,decide_false,cond_false,Bool.not_false,cond_true,Aj]
    omega
theorem Bp {α β : Type} (x : α) (φ : α → β) : Aa x φ = φ x:=rfl
theorem Gk (a b c : Aq) : Bz a b c = (decide (b.val ≤ a.val) && decide (a.val ≤ c.val)):=by
  unfold Bz
  by_cases h : b.val ≤ a.val <;> simp [h]
theorem U5 (a b c : Aq) : Dg a b c = (decide (b.val ≤ a.val) && decide (a.val ≤ c.val)):=by
  unfold Dg
  by_cases h : b.val ≤ a.val <;> simp [h]
theorem Gx (p : Pt) : Ew p = B4 p:=by
  unfold Ew B4
  simp only [Bp,Gk,U5,Aj]
  rw [Bool.eq_iff_iff]
  simp
  grind
def Wd.z (w : Wd) : Int:=w.hi.val * 18446744073709551616 + w.lo.val
theorem Wd.z_inj {v w : Wd} (h : v.z = w.z) : v = w:=by
  obtain ⟨a,b⟩:=v
  obtain ⟨c,d⟩:=w
  have h1:=b.lo
  have h2:=b.hi
  have h3:=d.lo
  have h4:=d.hi
  simp only [Wd.z] at h
  have e1 : a.val = c.val:=by omega
  have e2 : b.val = d.val:=by omega
  rw [IK.eq e1,IK.eq e2]
theorem Wd.z_mod {v w : Wd} (h : ∃ k : Int,v.z = w.z + k * 340282366920938463463374607431768211456) : v = w:=by
  refine Wd.z_inj ?_
  have h1:=v.lo.lo
  have h2:=v.lo.hi
  have h3:=w.lo.lo
  have h4:=w.lo.hi
  have h5:=v.hi.lo
  have h6:=v.hi.hi
  have h7:=w.hi.lo
  have h8:=w.hi.hi
  obtain ⟨k,h⟩:=h
  simp only [Wd.z] at h ⊢
  omega
theorem Yh (x : Int) (h0 : 0 ≤ x) (h1 : x < 18446744073709551616) : (Eo .u64 x 4294967295).val = x % 4294967296:=by
  obtain ⟨n,rfl⟩:=Int.eq_ofNat_of_zero_le h0
  have h:=bits_and_u64_nat n 4294967295 (by omega) (by omega)
  have e : n &&& 4294967295 = n % 4294967296:=Nat.and_two_pow_sub_one_eq_mod n 32
  rw [e] at h
  have h' : (Eo .u64 (n : Int) 4294967295).val = ((n % 4294967296 : Nat) : Int):=h
  rw [h']
  omega
theorem xQ (x : Dp) : (Ck x 32).val = x.val / 4294967296:=by
  rw [F2,Int.fdiv_eq_ediv_of_nonneg _ (by decide)]
  rfl
theorem sH (a b : Int) (ha : 0 ≤ a) (hb : 0 ≤ b) (ha' : a < 18446744073709551616) (hb' : b < 18446744073709551616) : ∃ p q r s : Int,a % 4294967296 * (b % 4294967296) = p ∧ a / 4294967296 * (b % 4294967296) = q ∧ a % 4294967296 * (b / 4294967296) = r ∧ a / 4294967296 * (b / 4294967296) = s ∧
    0 ≤ p ∧ p ≤ 18446744065119617025 ∧ 0 ≤ q ∧ q ≤ 18446744065119617025 ∧ 0 ≤ r ∧ r ≤ 18446744065119617025 ∧ 0 ≤ s ∧ s ≤ 18446744065119617025 ∧ a * b = s * 18446744073709551616 + (q + r) * 4294967296 + p:=by
  have key : ∀ x y : Int,0 ≤ x → x ≤ 4294967295 → 0 ≤ y → y ≤ 4294967295 → 0 ≤ x * y ∧ x * y ≤ 18446744065119617025:=fun x y h1 h2 h3 h4=>by
    refine ⟨Int.mul_nonneg h1 h3,?_⟩
    have:=Int.mul_le_mul h2 h4 h3 (by omega : (0 : Int) ≤ 4294967295)
    omega
  have e1 : a = a / 4294967296 * 4294967296 + a % 4294967296:=by omega
  have e2 : b = b / 4294967296 * 4294967296 + b % 4294967296:=by omega
  have r1 : 0 ≤ a / 4294967296 ∧ a / 4294967296 ≤ 4294967295:=by omega
  have r2 : 0 ≤ a % 4294967296 ∧ a % 4294967296 ≤ 4294967295:=by omega
  have r3 : 0 ≤ b / 4294967296 ∧ b / 4294967296 ≤ 4294967295:=by omega
  have r4 : 0 ≤ b % 4294967296 ∧ b % 4294967296 ≤ 4294967295:=by omega
  generalize a / 4294967296 = a1 at *
  generalize a % 4294967296 = a0 at *
  generalize b / 4294967296 = b1 at *
  generalize b % 4294967296 = b0 at *
  have k1:=key _ _ r2.1 r2.2 r4.1 r4.2
  have k2:=key _ _ r1.1 r1.2 r4.1 r4.2
  have k3:=key _ _ r2.1 r2.2 r3.1 r3.2
  have k4:=key _ _ r1.1 r1.2 r3.1 r3.2
  refine ⟨_,_,_,_,rfl,rfl,rfl,rfl,k1.1,k1.2,k2.1,k2.2,k3.1,k3.2,k4.1,k4.2,?_⟩
  rw [e1,e2]
  grind
theorem Xs (a b : Dp) : (Ce a b).1.val * 18446744073709551616 + (Ce a b).2.val = a.val * b.val:=by
  have ha:=a.lo
  have ha':=a.hi
  have hb:=b.lo
  have hb':=b.hi
  obtain ⟨p,q,r,s,e1,e2,e3,e4,p1,p2,q1,q2,r1,r2,s1,s2,e⟩:=sH a.val b.val ha hb (by omega) (by omega)
  unfold Ce
  simp only [xQ,Yh _ ha (by omega : a.val < 18446744073709551616),Yh _ hb (by omega : b.val < 18446744073709551616),At,e1,e2,e3,e4]
  rw [Yh _ (by omega) (by omega)]
  rw [e]
  omega
theorem tH (a b : Dp) : Nj a b = Ce a b:=by
  unfold Nj Ce
  rw [Int.add_comm (Eo .u64 _ 4294967295).val (Ak ((Eo .u64 a.val 4294967295).val * (Ck b 32).val)).val]
theorem Zk (w : Wd) : ∃ k : Int,(Db w).z = -w.z + k * 340282366920938463463374607431768211456:=by
  have h1:=w.lo.lo
  have h2:=w.lo.hi
  have h5:=w.hi.lo
  have h6:=w.hi.hi
  unfold Db
  by_cases h : w.lo.val = 0
  · simp only [h,beq_self_eq_true,cond_true,Wd.z,Ad,At]
    by_cases e : w.hi.val = -9223372036854775808
    · exact ⟨-1,by omega⟩
    · exact ⟨0,by omega⟩
  · have hb : (w.lo.val == 0) = false:=by simpa using h
    have hn : (Aky .i64 w.hi.val).val = -1 - w.hi.val:=by
      show IntKind.i64.wrap (BitVec.ofInt 64 (-1) ^^^ BitVec.ofInt 64 w.hi.val).toNat = _
      have e1 : BitVec.ofInt 64 (-1) = BitVec.allOnes 64:=by decide
      rw [e1,BitVec.xor_comm,BitVec.xor_allOnes,BitVec.toNat_not,BitVec.toNat_ofInt,IntKind.wrap_i64]
      omega
    simp only [hb,cond_false,Wd.z,hn,At]
    exact ⟨0,by omega⟩
theorem Adr (a b : Aq) : ∃ x : Int,a.val * b.val = x ∧ -85070591730234615865843651857942052864 ≤ x ∧ x ≤ 85070591730234615865843651857942052864:=by
  refine ⟨_,rfl,?_⟩
  have h1 : a.val.natAbs ≤ 9223372036854775808:=by have:=a.lo; have:=a.hi; omega
  have h2 : b.val.natAbs ≤ 9223372036854775808:=by have:=b.lo; have:=b.hi; omega
  have h:=Nat.mul_le_mul h1 h2
  rw [← Int.natAbs_mul] at h
  omega
theorem Jh (a b : Aq) : (A3 a b).z = a.val * b.val:=by
  have ha:=a.lo
  have ha':=a.hi
  have hb:=b.lo
  have hb':=b.hi
  have size : ∀ n : Aq,(Gu n).val = (n.val.natAbs : Int):=fun n=>by
    have h1:=n.lo
    have h2:=n.hi
    unfold Gu
    by_cases h : n.val < 0 <;> simp only [h,decide_true,decide_false,cond_true,cond_false,At] <;> omega
  have ht:=Xs (Gu a) (Gu b)
  rw [size,size,← Int.natCast_mul,← Int.natAbs_mul] at ht
  obtain ⟨x,hx,x1,x2⟩:=Adr a b
  rw [hx] at ht
  unfold A3
  simp only [Bp]
  have k1:=(Ce (Gu a) (Gu b)).1.lo
  have k2:=(Ce (Gu a) (Gu b)).1.hi
  have k3:=(Ce (Gu a) (Gu b)).2.lo
  have k4:=(Ce (Gu a) (Gu b)).2.hi
  generalize Ce (Gu a) (Gu b) = p at *
  obtain ⟨hi,lo⟩:=p
  simp only at *
  have hv : Wd.z ⟨An hi.val,lo⟩ = (x.natAbs : Int):=by
    simp only [Wd.z,Ad]
    omega
  rw [hx]
  by_cases hs : (decide (a.val < 0)) = decide (b.val < 0)
  · have e : (!(decide (a.val < 0) == decide (b.val < 0))) = false:=by simp [hs]
    rw [e,cond_false,hv]
    have : 0 ≤ x:=by
      rw [← hx]
      by_cases h : a.val < 0
      · have h' : b.val < 0:=by simpa [h] using hs
        exact Int.mul_nonneg_of_nonpos_of_nonpos (by omega) (by omega)
      · have h' : ¬ b.val < 0:=by simpa [h] using hs
        exact Int.mul_nonneg (by omega) (by omega)
    omega
  · have e : (!(decide (a.val < 0) == decide (b.val < 0))) = true:=by simpa using hs
    rw [e,cond_true]
    obtain ⟨k,hk⟩:=Zk ⟨An hi.val,lo⟩
    rw [hv] at hk
    have : x ≤ 0:=by
      rw [← hx]
      by_cases h : a.val < 0
      · have h' : ¬ b.val < 0:=fun h'=>hs (by simp [h,h'])
        exact Int.mul_nonpos_of_nonpos_of_nonneg (by omega) (by omega)
      · have h' : b.val < 0:=by
          by_cases q : b.val < 0
          · exact q
          · exact absurd (by simp [h,q]) hs
        exact Int.mul_nonpos_of_nonneg_of_nonpos (by omega) (by omega)
    generalize Db ⟨An hi.val,lo⟩ = w at *
    have h1:=w.lo.lo
    have h2:=w.lo.hi
    have h5:=w.hi.lo
    have h6:=w.hi.hi
    simp only [Wd.z] at hk ⊢
    omega
theorem On (a b : Aq) : Hl a b = A3 a b:=by
  refine Wd.z_mod ?_
  rw [Jh]
  have ha:=a.lo
  have ha':=a.hi
  have hb:=b.lo
  have hb':=b.hi
  have ht:=Xs (Ak a.val) (Ak b.val)
  have ea : (Ak a.val).val = bif decide (a.val < 0) then a.val + 18446744073709551616 else a.val:=by
    by_cases h : a.val < 0 <;> simp only [h,decide_true,decide_false,cond_true,cond_false,At] <;> omega
  have eb : (Ak b.val).val = bif decide (b.val < 0) then b.val + 18446744073709551616 else b.val:=by
    by_cases h : b.val < 0 <;> simp only [h,decide_true,decide_false,cond_true,cond_false,At] <;> omega
  unfold Hl
  rw [tH]
  simp only [Bp]
  generalize Ce (Ak a.val) (Ak b.val) = p at *
  obtain ⟨hi,lo⟩:=p
  rw [ea,eb] at ht ⊢
  simp only at ht
  by_cases h : a.val < 0 <;> by_cases h' : b.val < 0 <;> simp only [h,h',decide_true,decide_false,cond_true,cond_false] at ht ⊢
  · have e : (a.val + 18446744073709551616) * (b.val + 18446744073709551616) = a.val * b.val + 18446744073709551616 * a.val + 18446744073709551616 * b.val + 340282366920938463463374607431768211456:=by grind
    rw [e] at ht
    generalize a.val * b.val = x at *
    simp only [Wd.z,Ad,At]
    refine ⟨((((hi.val - (b.val + 18446744073709551616)) % 18446744073709551616 - (a.val + 18446744073709551616)) % 18446744073709551616 + 9223372036854775808) % 18446744073709551616 - 9223372036854775808 - (hi.val - b.val - a.val - 18446744073709551616)) / 18446744073709551616,?_⟩
    omega
  · have e : (a.val + 18446744073709551616) * b.val = a.val * b.val + 18446744073709551616 * b.val:=by grind
    rw [e] at ht
    generalize a.val * b.val = x at *
    simp only [Wd.z,Ad,At]
    refine ⟨(((hi.val - b.val) % 18446744073709551616 + 9223372036854775808) % 18446744073709551616 - 9223372036854775808 - (hi.val - b.val)) / 18446744073709551616,?_⟩
    omega
  · have e : a.val * (b.val + 18446744073709551616) = a.val * b.val + 18446744073709551616 * a.val:=by grind
    rw [e] at ht
    generalize a.val * b.val = x at *
    simp only [Wd.z,Ad,At]
    refine ⟨(((hi.val - a.val) % 18446744073709551616 + 9223372036854775808) % 18446744073709551616 - 9223372036854775808 - (hi.val - a.val)) / 18446744073709551616,?_⟩
    omega
  · generalize a.val * b.val = x at *
    simp only [Wd.z,Ad]
    refine ⟨((hi.val + 9223372036854775808) % 18446744073709551616 - 9223372036854775808 - hi.val) / 18446744073709551616,?_⟩
    omega
theorem aX (w : Wd) : Qz w = Ke w:=by
  have e : ∀ n : Aq,Yo n = I5 n:=fun n=>by
    have h1:=n.lo
    have h2:=n.hi
    unfold Yo I5
    have h : (Ck n 63).val = if n.val < 0 then -1 else 0:=by
      rw [F2,Int.fdiv_eq_ediv_of_nonneg _ (by decide)]
      show n.val / 9223372036854775808 = _
      split <;> omega
    by_cases hn : n.val < 0
    · have e2 : Ck n 63 = Ah (-1):=IK.eq (by rw [h,if_pos hn]; rfl)
      simp [hn,e2]
    · have e2 : Ck n 63 = Ah 0:=IK.eq (by rw [h,if_neg hn]; rfl)
      simp [hn,e2]
  unfold Qz Ke
  rw [e]
theorem Akq {k : IntKind} (x : IK k) : Ck x 0 = x:=IK.eq (by simp [F2,Int.fdiv_one])
theorem Aej (w : Wd) (n : Aq) (h0 : 0 ≤ n.val) (h1 : n.val ≤ 127) : Rt w n = D9 w n:=by
  have e1 : (Dg n (Ah 0) (Ah 127)) = true:=by
    rw [U5]
    simp [Aj,h0,h1]
  have eu : (Ak n.val).val = n.val:=by rw [At]; omega
  unfold Rt D9
  simp only [Bp,e1,eu]
  by_cases hz : n.val = 0
  · have hl : (Qg .u64 w.lo.val (Ci .u64 (Ak w.hi.val).val 64).val) = w.lo:=by
      have : (Ci .u64 (Ak w.hi.val).val 64).val = 0:=by
        show IntKind.u64.wrap ((Ak w.hi.val).val * 2 ^ 64) = 0
        rw [IntKind.wrap_u64]
        omega
      rw [this]
      refine IK.eq ?_
      have b1:=w.lo.lo
      have b2:=w.lo.hi
      show IntKind.u64.wrap ((BitVec.ofInt 64 w.lo.val ||| BitVec.ofInt 64 0).toNat : Int) = w.lo.val
      have : BitVec.ofInt 64 0 = 0#64:=by decide
      rw [this,BitVec.or_zero,BitVec.toNat_ofInt,IntKind.wrap_u64]
      omega
    have e64 : (An (64 - n.val)).val = 64:=by rw [Ad]; omega
    rw [e64]
    simp only [hz,Akq,hl]
    simp
  · have hb : (n.val == 0) = false:=by simpa using hz
    rw [hb]
    by_cases hs : n.val < 64
    · have e2 : (Ak (An (64 - n.val)).val).val = (An (64 - n.val)).val:=by simp only [At,Ad]; omega
      have : ¬ (n.val ≥ 64):=by omega
      simp [hs,this,e2]
    · have e2 : (Ak (An (n.val - 64)).val).val = (An (n.val - 64)).val:=by simp only [At,Ad]; omega
      have : n.val ≥ 64:=by omega
      simp [hs,this,e2]
theorem O5 (a b c : Aq) : Dg a b c = Bz a b c:=rfl
theorem Ui (a b n : Aq) : Mo a b n = Ei a b n:=by
  unfold Mo Ei
  simp only [Bp,O5,On,aX]
  cases h : Bz n (Ah 0) (Ah 126) with
  | false=>rfl
  | true=>
    rw [Gk,Bool.and_eq_true] at h
    have h1 : 0 ≤ n.val:=of_decide_eq_true h.1
    have h2 : n.val ≤ 126:=of_decide_eq_true h.2
    rw [Aej _ _ h1 (Int.le_trans h2 (by decide))]
theorem Me (a : Aq) : Fr a = B7 a:=rfl
theorem V7 (a : Aq) : B7 a = (decide (-1152921504606846976 ≤ a.val) && decide (a.val ≤ 1152921504606846976)):=by
  unfold B7
  rw [Bp,Gk]
  rfl
theorem Vm (a : Aq) (b : Bool) : Og a b = Fu a b:=rfl
theorem aZ (a b : Aq) : L0 a b = Bb a b:=by
  unfold L0 Bb
  simp only [Me,Ui,Vm]
theorem Ab4 (x : Aq) : An x.val = x:=IK.eq (by rw [Ad]; have:=x.lo; have:=x.hi; omega)
theorem W5 (a b : Aq) : ((Bb a b).2 = true ∧ -1152921504606846976 ≤ (Bb a b).1.val ∧ (Bb a b).1.val ≤ 1152921504606846976) ∨ Bb a b = (Ah 0,false):=by
  unfold Bb Fu
  simp only [Bp]
  cases B7 a with
  | false=>exact .inr rfl
  | true=>
    cases B7 b with
    | false=>exact .inr rfl
    | true=>
      generalize Ei a b (Ah 32) = p
      obtain ⟨x,q⟩:=p
      cases q with
      | false=>exact .inr rfl
      | true=>
        cases h : B7 x with
        | false=>right; simp [h]
        | true=>
          left
          have h':=h
          rw [V7] at h'
          simp at h'
          simp [h,h']
theorem uH {a b : Aq} (h : (Bb a b).2 = true) : B7 b = true:=by
  unfold Bb at h
  simp only [Bp] at h
  cases ha : B7 a with
  | false=>simp [ha] at h
  | true=>
    cases hb : B7 b with
    | false=>simp [ha,hb] at h
    | true=>rfl
theorem tG (a b : Aq) : Si a b = Ca a b:=by
  unfold Si Ca
  simp only [Bp,Me,aZ]
  have hn : An (0 - (Ah 0).val) = Ah 0:=IK.eq (by decide)
  cases ha : B7 a with
  | false=>rfl
  | true=>
    cases hb : B7 b with
    | false=>
      rcases W5 (An (0 - a.val)) b with ⟨h,_⟩ | h
      · rw [uH h] at hb; cases hb
      · rw [h]; rfl
    | true=>
      rcases W5 (An (0 - a.val)) b with ⟨h,_⟩ | h
      · rw [h]
      · rw [h]; simp only [hn]; rfl
theorem Afn (a b : Aq) : ((Ca a b).2 = true ∧ -1152921504606846976 ≤ (Ca a b).1.val ∧ (Ca a b).1.val ≤ 1152921504606846976) ∨ Ca a b = (Ah 0,false):=by
  unfold Ca
  simp only [Bp]
  cases B7 a with
  | false=>exact .inr rfl
  | true=>
    rcases W5 (An (0 - a.val)) b with ⟨h,h1,h2⟩ | h
    · left
      rw [h]
      simp only [Bool.not_true,cond_false,Ad]
      refine ⟨trivial,?_⟩
      omega
    · right
      rw [h]; rfl
theorem N5 (a : Iv) : Gc a = Am a:=rfl
theorem Dv : B5 = Aw:=rfl
theorem Kj (a b : Aq) : Ej a b true = C0 a b:=by
  unfold Ej C0
  simp only [Bp,N5,Dv]
  cases Am ⟨a,b⟩ <;> rfl
theorem lW (a b : Aq) : Ej a b false = Aw:=rfl
theorem Hd (a b : Iv) : El a b = (Am a && Am b):=by
  unfold El
  simp only [Bp,N5]
  cases Am a <;> rfl
theorem Ai9 (a b : Aq) : Cq a b = if a.val < b.val then a else b:=by
  unfold Cq
  by_cases h : a.val < b.val <;> simp [h]
theorem Aja (a b : Aq) : Cg a b = if a.val > b.val then a else b:=by
  unfold Cg
  by_cases h : b.val < a.val <;> simp [h]
theorem Z8 (a b : Aq) : Cq a b = mn a b:=by
  rw [Ai9]
  refine IK.eq ?_
  rw [p7]
  split <;> split <;> omega
theorem Z7 (a b : Aq) : Cg a b = mx a b:=by
  rw [Aja]
  refine IK.eq ?_
  rw [oY]
  split <;> split <;> omega
theorem yC (a : Aq) : mn a a = a:=IK.eq (by rw [p7]; split <;> rfl)
theorem y9 (a : Aq) : mx a a = a:=IK.eq (by rw [oY]; split <;> rfl)
theorem Ads (a : Aq) (h : a.val ≤ 1152921504606846976) : mn (Ah 1152921504606846976) a = a:=IK.eq (by rw [p7,Aj]; split <;> omega)
theorem Adq (a : Aq) (h : -1152921504606846976 ≤ a.val) : mx (Ah (-1152921504606846976)) a = a:=IK.eq (by rw [oY,Aj]; split <;> omega)
theorem Il (a b : Iv) : B0 a b = Ay a b:=by
  unfold B0 Ay E4
  simp only [Bp,Hd,Dv,aZ,tG,Kj,Z8,Z7]
  cases Am a with
  | false=>rfl
  | true=>
    cases Am b with
    | false=>rfl
    | true=>
      simp only [Bool.and_self,Bool.not_true,cond_false]
      rcases W5 a.lo b.lo with ⟨h1,h2,h3⟩ | h1
      · rcases Afn a.lo b.lo with ⟨k1,k2,k3⟩ | k1
        · simp only [Ads _ h3,Adq _ k2,yC,y9]
        · simp [k1]
      · simp [h1]
theorem I4 (a b : Iv) : Dc a b = Bj a b:=by
  unfold Dc Bj
  simp only [Bp,Hd,Dv,Kj]
  cases Am a with
  | false=>rfl
  | true=>cases Am b <;> rfl
theorem Ahk (a b : Vc) : lE a b = l8 a b:=by
  unfold lE l8
  simp only [Il,I4]
theorem Ahw (x : Dp) : (Eo .u64 x.val 1).val = x.val % 2:=by
  have h0:=x.lo
  have h1:=x.hi
  obtain ⟨n,hn⟩:=Int.eq_ofNat_of_zero_le h0
  rw [hn]
  have h:=bits_and_u64_nat n 1 (by omega) (by omega)
  rw [Nat.and_one_is_mod] at h
  have h' : (Eo .u64 (n : Int) 1).val = ((n % 2 : Nat) : Int):=h
  rw [h']
  omega
theorem Xy (k : Nat) (x b : Int) (h0 : 0 ≤ x) (h1 : x < 18446744073709551616) (hx : x % 2 ^ k = 0) (b0 : 0 ≤ b) (b1 : b < 2 ^ k) (hk : k ≤ 64) : (Qg .u64 x b).val = x + b:=by
  obtain ⟨n,rfl⟩:=Int.eq_ofNat_of_zero_le h0
  obtain ⟨m,rfl⟩:=Int.eq_ofNat_of_zero_le b0
  have hp : ((2 : Int) ^ k) = ((2 ^ k : Nat) : Int):=by rw [Int.natCast_pow]; rfl
  rw [hp] at hx b1
  have hm : m < 2 ^ k:=by omega
  have hle : 2 ^ k ≤ 2 ^ 64:=Nat.pow_le_pow_right (by omega) hk
  have hn : n % 2 ^ k = 0:=by
    have : ((n % 2 ^ k : Nat) : Int) = 0:=by rw [Int.natCast_emod]; exact hx
    omega
  have h64 : (2 : Nat) ^ 64 = 18446744073709551616:=by decide
  have hor : n ||| m = n + m:=by
    have e : n = 2 ^ k * (n / 2 ^ k):=by
      have:=Nat.div_add_mod n (2 ^ k)
      omega
    rw [e,Nat.two_pow_add_eq_or_of_lt hm]
  have hlt : n + m < 18446744073709551616:=by
    rw [← hor,← h64]
    exact Nat.or_lt_two_pow (by rw [h64]; omega) (Nat.lt_of_lt_of_le hm hle)
  have h:=bits_or_u64_nat n m (by omega) (by omega)
  rw [hor] at h
  have h' : (Qg .u64 (n : Int) (m : Int)).val = ((n + m : Nat) : Int):=h
  rw [h']
  omega
theorem gJ (x : Dp) (y : Int) (h0 : 0 ≤ y) (h1 : y ≤ 64) : (Ck x y).val = x.val / 2 ^ y.toNat:=by
  rw [F2,Int.fdiv_eq_ediv_of_nonneg _ (Int.le_of_lt (Int.pow_pos (by decide)))]
  rw [show min y.toNat IntKind.u64.bits = y.toNat from Nat.min_eq_left (by show y.toNat ≤ 64; omega)]
theorem qT (x : Dp) : (Ci .u64 x.val 1).val = (x.val * 2) % 18446744073709551616:=by
  show IntKind.u64.wrap (x.val * 2 ^ 1) = _
  rw [IntKind.wrap_u64]
  rfl
theorem Ak2 (x : Int) (i : Nat) : x % 2 ^ (i + 1) = (x / 2 ^ i) % 2 * 2 ^ i + x % 2 ^ i:=by
  have hp : (0 : Int) < 2 ^ i:=Int.pow_pos (by decide)
  have h1:=Int.emod_add_mul_ediv x (2 ^ i)
  have h2:=Int.emod_add_mul_ediv (x / 2 ^ i) 2
  have h3 : 0 ≤ x % 2 ^ i:=Int.emod_nonneg _ (by omega)
  have h4 : x % 2 ^ i < 2 ^ i:=Int.emod_lt_of_pos _ hp
  have e : x = 2 ^ (i + 1) * (x / 2 ^ i / 2) + ((x / 2 ^ i) % 2 * 2 ^ i + x % 2 ^ i):=by
    rw [Int.pow_succ]
    generalize x / 2 ^ i = y at *
    generalize x % 2 ^ i = z at *
    generalize (2 : Int) ^ i = p at *
    generalize y / 2 = u at *
    generalize y % 2 = v at *
    subst h2
    rw [← h1]
    grind
  have hb : 0 ≤ (x / 2 ^ i) % 2:=Int.emod_nonneg _ (by decide)
  have hb2 : (x / 2 ^ i) % 2 ≤ 1:=by have:=Int.emod_lt_of_pos (x / 2 ^ i) (by decide : (0 : Int) < 2); omega
  have hpp : (2 : Int) ^ (i + 1) = 2 * 2 ^ i:=by rw [Int.pow_succ]; omega
  have X5 : 0 ≤ (x / 2 ^ i) % 2 * 2 ^ i:=Int.mul_nonneg hb (Int.le_of_lt hp)
  have hhi : (x / 2 ^ i) % 2 * 2 ^ i ≤ 2 ^ i:=by
    have:=Int.mul_le_mul_of_nonneg_right hb2 (Int.le_of_lt hp)
    omega
  have q:=congrArg (· % (2 : Int) ^ (i + 1)) e
  simp only [Int.mul_add_emod_self_left] at q
  rw [q]
  exact Int.emod_eq_of_lt (by omega) (by omega)
theorem Xt (lo d qh : Dp) (hd : 0 < d.val) : ∀ (N fu : Nat) (rest q : Dp) (i : Aq),i.val = (N : Int) - 1 → N < fu → N ≤ 64 → rest.val < d.val → (q.val + 1) * 2 ^ N ≤ 18446744073709551616 →
    ∃ q' r' : Dp,Ib fu lo d qh rest q i = (qh,q',r') ∧ q'.val * d.val + r'.val = q.val * 2 ^ N * d.val + rest.val * 2 ^ N + lo.val % 2 ^ N ∧ r'.val < d.val
  | 0,fu,rest,q,i,hi,hf,hN,hr,hq=>by
    obtain ⟨f,rfl⟩:=Nat.exists_eq_succ_of_ne_zero (by omega : fu ≠ 0)
    have hneg : ¬ i.val ≥ 0:=by omega
    refine ⟨q,rest,?_,?_,hr⟩
    · unfold Ib
      simp only [hneg,decide_false,cond_false]
    · simp only [Int.pow_zero,Int.mul_one,Int.emod_one]
      omega
  | N + 1,fu,rest,q,i,hi,hf,hN,hr,hq=>by
    obtain ⟨f,rfl⟩:=Nat.exists_eq_succ_of_ne_zero (by omega : fu ≠ 0)
    have hpos : i.val ≥ 0:=by omega
    have hiN : i.val = N:=by omega
    have hwi : (Ak i.val).val = i.val:=by rw [At]; omega
    have d1:=d.hi
    have r0:=rest.lo
    have r1:=rest.hi
    have q0:=q.lo
    have l0:=lo.lo
    have hp : (0 : Int) < 2 ^ N:=Int.pow_pos (by decide)
    have hpp : (2 : Int) ^ (N + 1) = 2 * 2 ^ N:=by rw [Int.pow_succ]; omega
    have hq2 : (q.val + 1) * 2 * 2 ^ N ≤ 18446744073709551616:=by rw [Int.mul_assoc,← hpp]; exact hq
    have hq3 : (q.val + 1) * 2 ≤ (q.val + 1) * 2 * 2 ^ N:=by
      have:=Int.mul_le_mul_of_nonneg_left (by omega : (1 : Int) ≤ 2 ^ N) (by omega : 0 ≤ (q.val + 1) * 2)
      omega
    have hbit : (Eo .u64 (Ck lo (Ak i.val).val).val 1).val = (lo.val / 2 ^ N) % 2:=by
      rw [Ahw,hwi,gJ lo i.val hpos (by omega),hiN]
      rfl
    have hbr:=Ak2 lo.val N
    have hb0 : 0 ≤ (lo.val / 2 ^ N) % 2:=Int.emod_nonneg _ (by decide)
    have hb1 : (lo.val / 2 ^ N) % 2 < 2:=Int.emod_lt_of_pos _ (by decide)
    generalize (lo.val / 2 ^ N) % 2 = b at *
    have hor : (Qg .u64 (Ci .u64 rest.val 1).val (Eo .u64 (Ck lo (Ak i.val).val).val 1).val).val = (rest.val * 2) % 18446744073709551616 + b:=by
      rw [hbit,qT]
      exact Xy 1 _ b (by omega) (by omega) (by show _ % 2 = 0; omega) hb0 (by show b < 2; omega) (by omega)
    have hqs : (Ci .u64 q.val 1).val = q.val * 2:=by rw [qT]; omega
    have hqo : (Qg .u64 (Ci .u64 q.val 1).val 1).val = q.val * 2 + 1:=by
      rw [hqs]
      exact Xy 1 _ 1 (by omega) (by omega) (by show _ % 2 = 0; omega) (by omega) (by show (1 : Int) < 2; omega) (by omega)
    have htop : (Ck rest 63).val = rest.val / 9223372036854775808:=gJ rest 63 (by omega) (by omega)
    have hi' : (An (i.val - 1)).val = (N : Int) - 1:=by rw [Ad]; omega
    have fin : ∀ (rest' q2 : Dp),rest'.val < d.val → q2.val * 1 * d.val + rest'.val = q.val * 2 * d.val + rest.val * 2 + b → q2.val ≤ q.val * 2 + 1 →
        ∃ q' r' : Dp,Ib f lo d qh rest' q2 (An (i.val - 1)) = (qh,q',r') ∧ q'.val * d.val + r'.val = q.val * 2 ^ (N + 1) * d.val + rest.val * 2 ^ (N + 1) + lo.val % 2 ^ (N + 1) ∧ r'.val < d.val:=fun rest' q2 h1 h2 h3=>by
      have hq4 : (q2.val + 1) * 2 ^ N ≤ 18446744073709551616:=by
        have:=Int.mul_le_mul_of_nonneg_right (by omega : q2.val + 1 ≤ (q.val + 1) * 2) (Int.le_of_lt hp)
        omega
      obtain ⟨q',r',e1,e2,e3⟩:=Xt lo d qh hd N f rest' q2 (An (i.val - 1)) hi' (by omega) (by omega) h1 hq4
      refine ⟨q',r',e1,?_,e3⟩
      rw [e2,hbr,hpp]
      have : (q2.val * 1 * d.val + rest'.val) * 2 ^ N = (q.val * 2 * d.val + rest.val * 2 + b) * 2 ^ N:=by rw [h2]
      generalize lo.val % 2 ^ N = m at *
      generalize (2 : Int) ^ N = p at *
      grind
    unfold Ib
    simp only [hpos,decide_true,cond_true]
    by_cases ht : (Ck rest 63).val = 1
    · have hb : ((Ck rest 63).val == 1) = true:=by simpa using ht
      rw [hb,cond_true]
      have hv : (Ak ((Qg .u64 (Ci .u64 rest.val 1).val (Eo .u64 (Ck lo (Ak i.val).val).val 1).val).val - d.val)).val = rest.val * 2 + b - d.val:=by
        rw [At,hor]
        omega
      refine fin _ _ (by rw [hv]; omega) ?_ (by rw [hqo]; omega)
      rw [hv,hqo]
      grind
    · have hb : ((Ck rest 63).val == 1) = false:=by simpa using ht
      rw [hb,cond_false]
      have hor2 : (Qg .u64 (Ci .u64 rest.val 1).val (Eo .u64 (Ck lo (Ak i.val).val).val 1).val).val = rest.val * 2 + b:=by rw [hor]; omega
      by_cases hge : (Qg .u64 (Ci .u64 rest.val 1).val (Eo .u64 (Ck lo (Ak i.val).val).val 1).val).val ≥ d.val
      · simp only [hge,decide_true,cond_true]
        have hv : (Ak ((Qg .u64 (Ci .u64 rest.val 1).val (Eo .u64 (Ck lo (Ak i.val).val).val 1).val).val - d.val)).val = rest.val * 2 + b - d.val:=by
          rw [At,hor2]
          omega
        refine fin _ _ (by rw [hv]; omega) ?_ (by rw [hqo]; omega)
        rw [hv,hqo]
        grind
      · simp only [hge,decide_false,cond_false]
        refine fin _ _ (by omega) ?_ (by rw [hqs]; omega)
        rw [hor2,hqs]
        grind
theorem mE (hi lo d : Dp) (hd : 0 < d.val) : ∃ q r : Dp,O8 hi lo d = (Ak (Int.tdiv hi.val d.val),q,r) ∧ q.val * d.val + r.val = hi.val % d.val * 18446744073709551616 + lo.val ∧ r.val < d.val:=by
  have hm : (Jl hi d.val).val = hi.val % d.val:=by rw [Ll,Int.tmod_eq_emod_of_nonneg hi.lo]
  obtain ⟨q,r,e1,e2,e3⟩:=Xt lo d (Ak (Int.tdiv hi.val d.val)) hd 64 65 (Jl hi d.val) (Eu 0) (Ah 63) rfl (by omega) (by omega) (Y7 _ _ (by omega)) (by decide)
  refine ⟨q,r,e1,?_,e3⟩
  rw [e2,hm]
  have h : lo.val % 2 ^ 64 = lo.val:=Int.emod_eq_of_lt lo.lo (by have:=lo.hi; omega)
  rw [h]
  show 0 * 2 ^ 64 * d.val + hi.val % d.val * 18446744073709551616 + lo.val = _
  omega
structure N9 (u w y y1 y0 q rh Q : Int) : Prop where
  hy : y = y1 * 4294967296 + y0
  y1l : 1 ≤ y1
  y1h : y1 ≤ 4294967295
  y0l : 0 ≤ y0
  y0h : y0 ≤ 4294967295
  w0 : 0 ≤ w
  w1 : w ≤ 4294967295
  u0 : 0 ≤ u
  uy : u < y
  eq : q * y1 + rh = u
  r0 : 0 ≤ rh
  Q0 : 0 ≤ Q
  Qlo : Q * y ≤ u * 4294967296 + w
  Qhi : u * 4294967296 + w < (Q + 1) * y
  le : Q ≤ q
theorem N9.small {u w y y1 y0 q rh Q : Int} (D : N9 u w y y1 y0 q rh Q) : Q ≤ 4294967295:=by
  obtain ⟨hy,y1l,y1h,y0l,y0h,w0,w1,u0,uy,eq,r0,Q0,Qlo,Qhi,le⟩:=D
  rcases Int.lt_or_le Q 4294967296 with h | h
  · omega
  · have:=Int.mul_le_mul_of_nonneg_right h (by omega : 0 ≤ y)
    omega
theorem N9.prod {u w y y1 y0 q rh Q : Int} (D : N9 u w y y1 y0 q rh Q) : q * y = (u - rh) * 4294967296 + q * y0:=by
  have h1:=D.hy
  have h2:=D.eq
  rw [h1,Int.mul_add,← Int.mul_assoc]
  omega
theorem N9.over {u w y y1 y0 q rh Q : Int} (D : N9 u w y y1 y0 q rh Q) (h : q ≥ 4294967296 ∨ q * y0 > 4294967296 * rh + w) : Q ≤ q - 1:=by
  have hs:=D.small
  have hp:=D.prod
  rcases h with h | h
  · omega
  · rcases Int.lt_or_le Q q with k | k
    · omega
    · have:=Int.mul_le_mul_of_nonneg_right k (by have:=D.u0; have:=D.uy; omega : 0 ≤ y)
      have:=D.Qlo
      omega
theorem N9.under {u w y y1 y0 q rh Q : Int} (D : N9 u w y y1 y0 q rh Q) (h : q * y0 ≤ 4294967296 * rh + w) : q = Q:=by
  have hp:=D.prod
  rcases Int.lt_or_le Q q with k | k
  · have:=Int.mul_le_mul_of_nonneg_right (by omega : Q + 1 ≤ q) (by have:=D.u0; have:=D.uy; omega : 0 ≤ y)
    have:=D.Qhi
    omega
  · have:=D.le
    omega
theorem N9.out {u w y y1 y0 q rh Q : Int} (D : N9 u w y y1 y0 q rh Q) (h : rh ≥ 4294967296) : q = Q:=by
  have hy:=D.hy
  have he:=D.eq
  have hu:=D.uy
  have a1:=D.y1l
  have a2:=D.y0h
  have a3:=D.y0l
  have a4:=D.w0
  have hq : q ≤ 4294967295:=by
    rcases Int.lt_or_le q 4294967296 with k | k
    · omega
    · have:=Int.mul_le_mul_of_nonneg_right k (by omega : 0 ≤ y1)
      omega
  refine D.under ?_
  have q0 : 0 ≤ q:=Int.le_trans D.Q0 D.le
  have:=Int.mul_le_mul hq a2 a3 (by omega : (0 : Int) ≤ 4294967295)
  omega
theorem N9.next {u w y y1 y0 q rh Q : Int} (D : N9 u w y y1 y0 q rh Q) (h : Q ≤ q - 1) : N9 u w y y1 y0 (q - 1) (rh + y1) Q:=by
  obtain ⟨hy,y1l,y1h,y0l,y0h,w0,w1,u0,uy,eq,r0,Q0,Qlo,Qhi,le⟩:=D
  exact ⟨hy,y1l,y1h,y0l,y0h,w0,w1,u0,uy,by rw [Int.sub_mul]; omega,by omega,Q0,Qlo,Qhi,h⟩
theorem N9.first {u w y y1 y0 : Int} (hy : y = y1 * 4294967296 + y0) (y1l : 1 ≤ y1) (y1h : y1 ≤ 4294967295) (y0l : 0 ≤ y0) (y0h : y0 ≤ 4294967295) (w0 : 0 ≤ w) (w1 : w ≤ 4294967295) (u0 : 0 ≤ u) (uy : u < y) :
    N9 u w y y1 y0 (u / y1) (u % y1) ((u * 4294967296 + w) / y):=by
  have hyp : 0 < y:=by omega
  have e:=Int.emod_add_mul_ediv u y1
  have e2:=Int.emod_add_mul_ediv (u * 4294967296 + w) y
  have m0 : 0 ≤ (u * 4294967296 + w) % y:=Int.emod_nonneg _ (by omega)
  have m1 : (u * 4294967296 + w) % y < y:=Int.emod_lt_of_pos _ hyp
  have Q0 : 0 ≤ (u * 4294967296 + w) / y:=Int.ediv_nonneg (by omega) (by omega)
  generalize (u * 4294967296 + w) / y = Q at *
  have hc : Q * y = y * Q:=Int.mul_comm _ _
  refine ⟨hy,y1l,y1h,y0l,y0h,w0,w1,u0,uy,by rw [Int.mul_comm]; omega,Int.emod_nonneg _ (by omega),Q0,by omega,by rw [Int.add_mul]; omega,?_⟩
  rw [Int.le_ediv_iff_mul_le (by omega)]
  have h1 : Q * y = Q * y1 * 4294967296 + Q * y0:=by rw [hy,Int.mul_add,← Int.mul_assoc]
  have h2 : 0 ≤ Q * y0:=Int.mul_nonneg Q0 y0l
  omega
theorem mV {a b : Int} (a0 : 0 ≤ a) (a1 : a ≤ 4294967295) (b0 : 0 ≤ b) (b1 : b ≤ 4294967295) : 0 ≤ a * b ∧ a * b ≤ 18446744065119617025:=by
  refine ⟨Int.mul_nonneg a0 b0,?_⟩
  have:=Int.mul_le_mul a1 b1 b0 (by omega : (0 : Int) ≤ 4294967295)
  omega
theorem qY (u w q y : Dp) (Q : Int) (hq : q.val = Q) (h0 : 0 ≤ u.val * 4294967296 + w.val - Q * y.val) (h1 : u.val * 4294967296 + w.val - Q * y.val ≤ 18446744073709551615) :
    (Ak ((Ak ((Ak (u.val * 4294967296)).val + w.val)).val - (Ak (q.val * y.val)).val)).val = u.val * 4294967296 + w.val - Q * y.val:=by
  rw [hq]
  generalize Q * y.val = p at *
  simp only [At]
  omega
theorem uL (y s y1 y0 w q1 u : Dp) : ∀ (fu : Nat) (rh q : Dp) (Q : Int),N9 u.val w.val y.val y1.val y0.val q.val rh.val Q → rh.val < 4294967296 → (4294967296 - rh.val).toNat < fu →
    ∃ q' : Dp,q'.val = Q ∧ Ey fu y s y1 y0 w q1 u rh q = ((Ak ((Ak (q1.val * 4294967296)).val + q'.val)),(Ck (Ak ((Ak ((Ak (u.val * 4294967296)).val + w.val)).val - (Ak (q'.val * y.val)).val)) s.val))
  | 0,_,_,_,_,_,h=>absurd h (Nat.not_lt_zero _)
  | fu + 1,rh,q,Q,D,hr,hf=>by
    have hs:=D.small
    have hQ:=D.Q0
    have hle:=D.le
    have a1:=D.y1l
    have a2:=D.y1h
    have q0:=q.lo
    have qh:=q.hi
    have r0:=rh.lo
    have hrv : (Ak (rh.val + y1.val)).val = rh.val + y1.val:=by rw [At]; omega
    have step : Q ≤ q.val - 1 → ∃ q' : Dp,q'.val = Q ∧ (bif (decide ((Ak (rh.val + y1.val)).val ≥ 4294967296)) then ((Ak ((Ak (q1.val * 4294967296)).val + (Ak (q.val - 1)).val)),(Ck (Ak ((Ak ((Ak (u.val * 4294967296)).val + w.val)).val - (Ak ((Ak (q.val - 1)).val * y.val)).val)) s.val)) else Ey fu y s y1 y0 w q1 u (Ak (rh.val + y1.val)) (Ak (q.val - 1))) = ((Ak ((Ak (q1.val * 4294967296)).val + q'.val)),(Ck (Ak ((Ak ((Ak (u.val * 4294967296)).val + w.val)).val - (Ak (q'.val * y.val)).val)) s.val)):=fun h=>by
      have hqv : (Ak (q.val - 1)).val = q.val - 1:=by rw [At]; omega
      have D2 : N9 u.val w.val y.val y1.val y0.val (Ak (q.val - 1)).val (Ak (rh.val + y1.val)).val Q:=by
        rw [hqv,hrv]; exact D.next h
      by_cases hb : (Ak (rh.val + y1.val)).val ≥ 4294967296
      · refine ⟨Ak (q.val - 1),D2.out hb,?_⟩
        simp only [hb,decide_true,cond_true]
      · obtain ⟨q',e1,e2⟩:=uL y s y1 y0 w q1 u fu _ _ Q D2 (by omega) (by omega)
        refine ⟨q',e1,?_⟩
        simp only [hb,decide_false,cond_false]
        exact e2
    unfold Ey
    by_cases h1 : q.val ≥ 4294967296
    · simp only [h1,decide_true,cond_true]
      exact step (D.over (.inl h1))
    · simp only [h1,decide_false,cond_false]
      have hm:=mV q0 (by omega) D.y0l D.y0h
      have w0:=D.w0
      have w1:=D.w1
      have e1 : (Ak (q.val * y0.val)).val = q.val * y0.val:=by
        generalize q.val * y0.val = p at *
        rw [At]; omega
      have e2 : (Ak ((Ak (4294967296 * rh.val)).val + w.val)).val = 4294967296 * rh.val + w.val:=by simp only [At]; omega
      rw [e1,e2]
      by_cases h2 : q.val * y0.val > 4294967296 * rh.val + w.val
      · simp only [h2,decide_true,cond_true]
        exact step (D.over (.inr h2))
      · simp only [h2,decide_false,cond_false]
        exact ⟨q,D.under (by omega),rfl⟩
theorem est (u y1 : Dp) (h : 1 ≤ y1.val) : (Ak (Int.tdiv u.val y1.val)).val = u.val / y1.val:=by
  have h1:=u.lo
  have h2:=u.hi
  have hd : Int.tdiv u.val y1.val = u.val / y1.val:=Int.tdiv_eq_ediv_of_nonneg h1
  have q0 : 0 ≤ u.val / y1.val:=Int.ediv_nonneg h1 (by omega)
  have q1 : u.val / y1.val ≤ u.val:=Int.ediv_le_self _ h1
  rw [At,hd]
  omega
theorem qB (y s y1 y0 w q1 u : Dp) (hy : y.val = y1.val * 4294967296 + y0.val) (y1l : 1 ≤ y1.val) (y1h : y1.val ≤ 4294967295) (y0h : y0.val ≤ 4294967295) (w1 : w.val ≤ 4294967295) (uy : u.val < y.val) (hq1 : q1.val ≤ 4294967295) :
    ∃ q r : Dp,Ey ((4294967296 - (Ak (u.val - (Ak ((Ak (Int.tdiv u.val y1.val)).val * y1.val)).val)).val).toNat + 1) y s y1 y0 w q1 u (Ak (u.val - (Ak ((Ak (Int.tdiv u.val y1.val)).val * y1.val)).val)) (Ak (Int.tdiv u.val y1.val)) = (q,Ck r s.val) ∧
      q.val = q1.val * 4294967296 + (u.val * 4294967296 + w.val) / y.val ∧ r.val = (u.val * 4294967296 + w.val) % y.val:=by
  have D:=N9.first (u:=u.val) (w:=w.val) hy y1l y1h y0.lo y0h w.lo w1 u.lo uy
  have hr:=vH u y1 y1l
  have hq:=est u y1 y1l
  have hlt : (Ak (u.val - (Ak ((Ak (Int.tdiv u.val y1.val)).val * y1.val)).val)).val < 4294967296:=Pu u y1 y1l y1h
  rw [← hr,← hq] at D
  have hs:=D.small
  have hQ:=D.Q0
  obtain ⟨q',e1,e2⟩:=uL y s y1 y0 w q1 u _ _ _ _ D hlt (Nat.lt_succ_self _)
  refine ⟨_,_,e2,?_,?_⟩
  · have a0:=q1.lo
    simp only [At,e1]
    omega
  · have e3:=Int.emod_add_mul_ediv (u.val * 4294967296 + w.val) y.val
    have u0:=u.lo
    have m0 : 0 ≤ (u.val * 4294967296 + w.val) % y.val:=Int.emod_nonneg _ (by omega)
    have m1 : (u.val * 4294967296 + w.val) % y.val < y.val:=Int.emod_lt_of_pos _ (by omega)
    have y1':=y.hi
    have hc : (u.val * 4294967296 + w.val) / y.val * y.val = y.val * ((u.val * 4294967296 + w.val) / y.val):=Int.mul_comm _ _
    rw [qY u w q' y _ e1 (by omega) (by omega)]
    omega
theorem lH (y s y1 y0 un32 w w0 : Dp) (hw0 : w0.val ≤ 4294967295) : ∀ (fu : Nat) (rh q : Dp) (Q : Int),N9 un32.val w.val y.val y1.val y0.val q.val rh.val Q → rh.val < 4294967296 → (4294967296 - rh.val).toNat < fu →
    ∃ q' r' : Dp,Iz fu y s y1 y0 un32 w w0 q rh = (q',Ck r' s.val) ∧ q'.val * y.val + r'.val = un32.val * 18446744073709551616 + w.val * 4294967296 + w0.val ∧ 0 ≤ r'.val ∧ r'.val < y.val
  | 0,_,_,_,_,_,h=>absurd h (Nat.not_lt_zero _)
  | fu + 1,rh,q,Q,D,hr,hf=>by
    have hs:=D.small
    have hQ:=D.Q0
    have hle:=D.le
    have a1:=D.y1l
    have a2:=D.y1h
    have q0:=q.lo
    have qh:=q.hi
    have r0:=rh.lo
    have hrv : (Ak (rh.val + y1.val)).val = rh.val + y1.val:=by rw [At]; omega
    have last : ∀ (q2 : Dp),q2.val = Q → ∃ q' r' : Dp,Ey ((4294967296 - (Ak ((Ak ((Ak ((Ak (un32.val * 4294967296)).val + w.val)).val - (Ak (q2.val * y.val)).val)).val - (Ak ((Ak (Int.tdiv (Ak ((Ak ((Ak (un32.val * 4294967296)).val + w.val)).val - (Ak (q2.val * y.val)).val)).val y1.val)).val * y1.val)).val)).val).toNat + 1) y s y1 y0 w0 q2 (Ak ((Ak ((Ak (un32.val * 4294967296)).val + w.val)).val - (Ak (q2.val * y.val)).val)) (Ak ((Ak ((Ak ((Ak (un32.val * 4294967296)).val + w.val)).val - (Ak (q2.val * y.val)).val)).val - (Ak ((Ak (Int.tdiv (Ak ((Ak ((Ak (un32.val * 4294967296)).val + w.val)).val - (Ak (q2.val * y.val)).val)).val y1.val)).val * y1.val)).val)) (Ak (Int.tdiv (Ak ((Ak ((Ak (un32.val * 4294967296)).val + w.val)).val - (Ak (q2.val * y.val)).val)).val y1.val)) = (q',Ck r' s.val) ∧ q'.val * y.val + r'.val = un32.val * 18446744073709551616 + w.val * 4294967296 + w0.val ∧ 0 ≤ r'.val ∧ r'.val < y.val:=fun q2 h2=>by
      have yh:=y.hi
      have k1:=D.Qlo
      have k2:=D.Qhi
      have k3 : (Q + 1) * y.val = Q * y.val + y.val:=by rw [Int.add_mul,Int.one_mul]
      have hu:=qY un32 w q2 y Q h2 (by omega) (by omega)
      have hw0':=w0.lo
      obtain ⟨q',r',e1,e2,e3⟩:=qB y s y1 y0 w0 q2 (Ak ((Ak ((Ak (un32.val * 4294967296)).val + w.val)).val - (Ak (q2.val * y.val)).val)) D.hy a1 a2 D.y0h hw0 (by rw [hu]; omega) (by omega)
      rw [hu] at e2 e3
      have e4:=Int.emod_add_mul_ediv ((un32.val * 4294967296 + w.val - Q * y.val) * 4294967296 + w0.val) y.val
      have hc : y.val * (((un32.val * 4294967296 + w.val - Q * y.val) * 4294967296 + w0.val) / y.val) = (((un32.val * 4294967296 + w.val - Q * y.val) * 4294967296 + w0.val) / y.val) * y.val:=Int.mul_comm _ _
      refine ⟨q',r',e1,?_,?_,?_⟩
      · rw [e2,e3,h2,Int.add_mul]
        have : Q * 4294967296 * y.val = Q * y.val * 4294967296:=by rw [Int.mul_assoc,Int.mul_comm 4294967296,← Int.mul_assoc]
        rw [this]
        generalize Q * y.val = p at *
        omega
      · rw [e3]; exact Int.emod_nonneg _ (by omega)
      · rw [e3]; exact Int.emod_lt_of_pos _ (by omega)
    have step : Q ≤ q.val - 1 → (Ak (q.val - 1)).val = q.val - 1 ∧ N9 un32.val w.val y.val y1.val y0.val (Ak (q.val - 1)).val (Ak (rh.val + y1.val)).val Q:=fun h=>by
      have hqv : (Ak (q.val - 1)).val = q.val - 1:=by rw [At]; omega
      refine ⟨hqv,?_⟩
      rw [hqv,hrv]; exact D.next h
    unfold Iz
    by_cases h1 : q.val ≥ 4294967296
    · simp only [h1,decide_true,cond_true]
      obtain ⟨_,D2⟩:=step (D.over (.inl h1))
      by_cases hb : (Ak (rh.val + y1.val)).val ≥ 4294967296
      · simp only [hb,decide_true,cond_true]
        exact last _ (D2.out hb)
      · simp only [hb,decide_false,cond_false]
        exact lH y s y1 y0 un32 w w0 hw0 fu _ _ Q D2 (by omega) (by omega)
    · simp only [h1,decide_false,cond_false]
      have hm:=mV q0 (by omega) D.y0l D.y0h
      have b0:=D.w0
      have b1:=D.w1
      have e1 : (Ak (q.val * y0.val)).val = q.val * y0.val:=by
        generalize q.val * y0.val = p at *
        rw [At]; omega
      have e2 : (Ak ((Ak (4294967296 * rh.val)).val + w.val)).val = 4294967296 * rh.val + w.val:=by simp only [At]; omega
      rw [e1,e2]
      by_cases h2 : q.val * y0.val > 4294967296 * rh.val + w.val
      · simp only [h2,decide_true,cond_true]
        obtain ⟨_,D2⟩:=step (D.over (.inr h2))
        by_cases hb : (Ak (rh.val + y1.val)).val ≥ 4294967296
        · simp only [hb,decide_true,cond_true]
          exact last _ (D2.out hb)
        · simp only [hb,decide_false,cond_false]
          exact lH y s y1 y0 un32 w w0 hw0 fu _ _ Q D2 (by omega) (by omega)
      · simp only [h2,decide_false,cond_false]
        exact last q (D.under (by omega))
theorem Acp (hi lo d : Dp) (h : hi.val < d.val) : ∃ q r : Dp,P9 hi lo d = (q,r) ∧ q.val * d.val + r.val = hi.val * 18446744073709551616 + lo.val ∧ r.val < d.val:=by
  have hi0:=hi.lo
  have lo0:=lo.lo
  have loh:=lo.hi
  have dh:=d.hi
  unfold P9
  simp only [Bp]
  by_cases hz : hi.val = 0
  · have hb : (hi.val == 0) = true:=by simpa using hz
    rw [hb,cond_true]
    have e:=Int.emod_add_mul_ediv lo.val d.val
    have hc : d.val * (lo.val / d.val) = lo.val / d.val * d.val:=Int.mul_comm _ _
    refine ⟨_,_,rfl,?_,Y7 _ _ (by omega)⟩
    rw [est lo d (by omega),Ll,Int.tmod_eq_emod_of_nonneg lo0,hz]
    omega
  · have hb : (hi.val == 0) = false:=by simpa using hz
    rw [hb,cond_false]
    obtain ⟨s,hs,e1,e2,e3,e4⟩:=Adn d (by omega)
    have hn:=J8 d (by omega)
    have hp : (0 : Int) < 2 ^ s:=Int.pow_pos (by decide)
    have hcp : (0 : Int) < 2 ^ (64 - s):=Int.pow_pos (by decide)
    have hpc : (2 : Int) ^ s * 2 ^ (64 - s) = 18446744073709551616:=by rw [← Int.pow_add,show s + (64 - s) = 64 by omega]; rfl
    have ple : (2 : Int) ^ s ≤ 18446744073709551616:=by
      have:=Int.mul_le_mul_of_nonneg_left (by omega : (1 : Int) ≤ 2 ^ (64 - s)) (Int.le_of_lt hp)
      omega
    have hdp : (hi.val + 1) * 2 ^ s ≤ d.val * 2 ^ s:=Int.mul_le_mul_of_nonneg_right (by omega) (Int.le_of_lt hp)
    have hdp2 : (hi.val + 1) * 2 ^ s = hi.val * 2 ^ s + 2 ^ s:=by rw [Int.add_mul,Int.one_mul]
    have hp0 : 0 ≤ hi.val * 2 ^ s:=Int.mul_nonneg hi0 (Int.le_of_lt hp)
    have shl : ∀ x : Dp,(Ci .u64 x.val (Ak (Bg d).val).val).val = (x.val * 2 ^ s) % 18446744073709551616:=fun x=>by
      rw [e1]
      show IntKind.u64.wrap (x.val * 2 ^ (min ((s : Int).toNat) 64)) = _
      rw [Int.toNat_natCast,Nat.min_eq_left (by omega),IntKind.wrap_u64]
    have hsh : (Ci .u64 hi.val (Ak (Bg d).val).val).val = hi.val * 2 ^ s:=by rw [shl]; omega
    have h64 : (Ak (64 - (Ak (Bg d).val).val)).val = ((64 - s : Nat) : Int):=by rw [e1,At]; omega
    have X5 : (Ck lo (Ak (64 - (Ak (Bg d).val).val)).val).val = lo.val / 2 ^ (64 - s):=by
      rw [h64,gJ lo _ (by omega) (by omega),Int.toNat_natCast]
    have l0 : 0 ≤ lo.val / 2 ^ (64 - s):=Int.ediv_nonneg lo0 (Int.le_of_lt hcp)
    have l1 : lo.val / 2 ^ (64 - s) < 2 ^ s:=by
      rw [Int.ediv_lt_iff_lt_mul hcp,hpc]
      omega
    have hor : (Qg .u64 (Ci .u64 hi.val (Ak (Bg d).val).val).val (Ck lo (Ak (64 - (Ak (Bg d).val).val)).val).val).val = hi.val * 2 ^ s + lo.val / 2 ^ (64 - s):=by
      rw [hsh,X5]
      exact Xy s _ _ hp0 (by omega) (Int.mul_emod_left _ _) l0 l1 (by omega)
    have hm:=shl lo
    have hdiv : (lo.val * 2 ^ s) / 18446744073709551616 = lo.val / 2 ^ (64 - s):=by
      rw [← hpc,Int.mul_comm lo.val,Int.mul_ediv_mul_of_pos _ _ hp]
    have hem:=Int.emod_add_mul_ediv (lo.val * 2 ^ s) 18446744073709551616
    rw [hdiv] at hem
    have m0 : 0 ≤ (Ci .u64 lo.val (Ak (Bg d).val).val).val:=Dp.lo _
    have m1 : (Ci .u64 lo.val (Ak (Bg d).val).val).val ≤ 18446744073709551615:=Dp.hi _
    have un1:=xQ (Ci .u64 lo.val (Ak (Bg d).val).val)
    have un0:=Yh _ m0 (by omega)
    have yn1:=xQ (Ci .u64 d.val (Ak (Bg d).val).val)
    have yn0:=Yh (Ci .u64 d.val (Ak (Bg d).val).val).val (Dp.lo _) (by have:=Dp.hi (Ci .u64 d.val (Ak (Bg d).val).val); omega)
    have hse : (Ak (Bg d).val).val = s:=e1
    have hy : (Ci .u64 d.val (Ak (Bg d).val).val).val = d.val * 2 ^ s:=e2
    clear shl e1 e2 h64 X5 hsh
    generalize (Ak (Bg d).val) = sv at *
    generalize Ci .u64 d.val sv.val = y at *
    generalize Ci .u64 lo.val sv.val = ll at *
    generalize Qg .u64 (Ci .u64 hi.val sv.val).val (Ck lo (Ak (64 - sv.val)).val).val = un32 at *
    generalize Ck y 32 = y1 at *
    generalize Eo .u64 y.val 4294967295 = y0 at *
    generalize Ck ll 32 = w at *
    generalize Eo .u64 ll.val 4294967295 = w0 at *
    have hu : un32.val < y.val:=by rw [hor,hy]; omega
    have D:=N9.first (u:=un32.val) (w:=w.val) (y:=y.val) (y1:=y1.val) (y0:=y0.val) (by omega) hn.1 hn.2 (by omega) (by omega) (by omega) (by omega) (Dp.lo un32) hu
    have hr:=vH un32 y1 hn.1
    have hq:=est un32 y1 hn.1
    have hlt:=Pu un32 y1 hn.1 hn.2
    rw [← hr,← hq] at D
    obtain ⟨q',r',k1,k2,k3,k4⟩:=lH y sv y1 y0 un32 w w0 (by omega) _ _ _ _ D hlt (Nat.lt_succ_self _)
    have tot : q'.val * y.val + r'.val = (hi.val * 18446744073709551616 + lo.val) * 2 ^ s:=by
      rw [k2,hor,Int.add_mul (hi.val * 18446744073709551616)]
      have : hi.val * 18446744073709551616 * 2 ^ s = hi.val * 2 ^ s * 18446744073709551616:=by rw [Int.mul_assoc,Int.mul_comm 18446744073709551616,← Int.mul_assoc]
      rw [this]
      omega
    rw [hy] at tot k4
    have hre : r'.val = (hi.val * 18446744073709551616 + lo.val - q'.val * d.val) * 2 ^ s:=by
      rw [Int.sub_mul,← tot,← Int.mul_assoc]
      omega
    have hsr : (Ck r' sv.val).val = hi.val * 18446744073709551616 + lo.val - q'.val * d.val:=by
      rw [hse,gJ r' _ (by omega) (by omega),Int.toNat_natCast,hre,Int.mul_ediv_cancel _ (by omega)]
    refine ⟨q',Ck r' sv.val,k1,by rw [hsr]; omega,?_⟩
    rw [hsr]
    rw [hre] at k4
    exact Int.lt_of_mul_lt_mul_right k4 (Int.le_of_lt hp)
theorem wP {q1 r1 q2 r2 d : Int} (e : q1 * d + r1 = q2 * d + r2) (a0 : 0 ≤ r1) (a1 : r1 < d) (b0 : 0 ≤ r2) (b1 : r2 < d) : q1 = q2 ∧ r1 = r2:=by
  have h : q1 = q2:=by
    rcases Int.lt_trichotomy q1 q2 with h | h | h
    · have:=Int.mul_le_mul_of_nonneg_right (by omega : q1 + 1 ≤ q2) (by omega : 0 ≤ d)
      rw [Int.add_mul] at this
      omega
    · exact h
    · have:=Int.mul_le_mul_of_nonneg_right (by omega : q2 + 1 ≤ q1) (by omega : 0 ≤ d)
      rw [Int.add_mul] at this
      omega
  subst h
  exact ⟨rfl,by omega⟩
theorem kG (hi lo d : Dp) (hd : 0 < d.val) : Sq hi lo d = O8 hi lo d:=by
  have hm : (Jl hi d.val).val = hi.val % d.val:=by rw [Ll,Int.tmod_eq_emod_of_nonneg hi.lo]
  obtain ⟨q1,r1,a1,a2,a3⟩:=Acp (Jl hi d.val) lo d (Y7 _ _ (by omega))
  obtain ⟨q2,r2,b1,b2,b3⟩:=mE hi lo d hd
  obtain ⟨h1,h2⟩:=wP (a2.trans (by rw [hm,b2])) r1.lo a3 r2.lo b3
  unfold Sq
  rw [Bp,a1,b1,IK.eq h1,IK.eq h2]
theorem t7 (w : Wd) : Iy w = Db w:=by
  refine Wd.z_mod ?_
  obtain ⟨k,hk⟩:=Zk w
  rw [hk]
  have h1:=w.lo.lo
  have h2:=w.lo.hi
  have h5:=w.hi.lo
  have h6:=w.hi.hi
  unfold Iy
  simp only [Wd.z,Ad,At,vC,vE,Bt]
  refine ⟨(((((0 - w.hi.val % 18446744073709551616 - (if (0 : Int) < w.lo.val + 0 then 1 else 0)) % 18446744073709551616 + 9223372036854775808) % 18446744073709551616 - 9223372036854775808) * 18446744073709551616 + (0 - w.lo.val - 0) % 18446744073709551616 + (w.hi.val * 18446744073709551616 + w.lo.val)) / 340282366920938463463374607431768211456) - k,?_⟩
  split <;> omega
end Go.Proofs.YtfhnlkinjbakgaaGreat.Abs
