/- Plain laws: what the program computes is what the reference computes. -/
import Derived.Test.YtfhnlkinjbakgaaGreatDoorShfQpre
import Derived.Test.YtfhnlkinjbakgaaGreatDoorShfFa
set_option linter.unusedVariables false
set_option linter.unusedSimpArgs false
namespace Go.Proofs.YtfhnlkinjbakgaaGreatDoor.Abs
open Go
theorem bindP_eq {α β : Type} (x : α) (φ : α → β) : bindP x φ = φ x:=rfl
theorem sp_in (a b c : I64) : S_l00In a b c = (decide (b.val ≤ a.val) && decide (a.val ≤ c.val)):=by
  unfold S_l00In
  by_cases h : b.val ≤ a.val <;> simp [h]
theorem sp_within (a b c : I64) : I_within a b c = (decide (b.val ≤ a.val) && decide (a.val ≤ c.val)):=by
  unfold I_within
  by_cases h : b.val ≤ a.val <;> simp [h]
theorem eq_ValidShift (s : Sf) : I_ValidShift s = S_l23Ok__pSf s:=by
  unfold I_ValidShift S_l23Ok__pSf I_areWithin__s3 I_areWithin__s1
  simp only [bindP_eq,sp_in,sp_within,c64_val,w64_val]
  rw [Bool.eq_iff_iff]
  simp
  grind
theorem eq_OppositeShift (s : Sf) : I_OppositeShift s = S_OppositeShift s:=by
  unfold I_OppositeShift S_OppositeShift
  rw [eq_ValidShift]
def Wd.z (w : Wd) : Int:=w.hi.val * 18446744073709551616 + w.lo.val
theorem Wd.z_inj {v w : Wd} (h : v.z = w.z) : v = w:=by
  obtain ⟨a,b⟩:=v
  obtain ⟨c,d⟩:=w
  have h1:=b.lo
  have h2:=b.hi
  have h3:=d.lo
  have h4:=d.hi
  simp only [Wd.z] at h
  have e1 : a.val = c.val:=by omega
  have e2 : b.val = d.val:=by omega
  rw [IK.eq e1,IK.eq e2]
theorem Wd.z_mod {v w : Wd} (h : ∃ k : Int,v.z = w.z + k * 340282366920938463463374607431768211456) : v = w:=by
  refine Wd.z_inj ?_
  have h1:=v.lo.lo
  have h2:=v.lo.hi
  have h3:=w.lo.lo
  have h4:=w.lo.hi
  have h5:=v.hi.lo
  have h6:=v.hi.hi
  have h7:=w.hi.lo
  have h8:=w.hi.hi
  obtain ⟨k,h⟩:=h
  simp only [Wd.z] at h ⊢
  omega
theorem and_mask (x : Int) (h0 : 0 ≤ x) (h1 : x < 18446744073709551616) : (iand .u64 x 4294967295).val = x % 4294967296:=by
  obtain ⟨n,rfl⟩:=Int.eq_ofNat_of_zero_le h0
  have h:=bits_and_u64_nat n 4294967295 (by omega) (by omega)
  have e : n &&& 4294967295 = n % 4294967296:=Nat.and_two_pow_sub_one_eq_mod n 32
  rw [e] at h
  have h' : (iand .u64 (n : Int) 4294967295).val = ((n % 4294967296 : Nat) : Int):=h
  rw [h']
  omega
theorem shr32 (x : U64) : (ishr x 32).val = x.val / 4294967296:=by
  rw [ishr_val,Int.fdiv_eq_ediv_of_nonneg _ (by decide)]
  rfl
theorem mul64_split (a b : Int) (ha : 0 ≤ a) (hb : 0 ≤ b) (ha' : a < 18446744073709551616) (hb' : b < 18446744073709551616) : ∃ p q r s : Int,a % 4294967296 * (b % 4294967296) = p ∧ a / 4294967296 * (b % 4294967296) = q ∧ a % 4294967296 * (b / 4294967296) = r ∧ a / 4294967296 * (b / 4294967296) = s ∧
    0 ≤ p ∧ p ≤ 18446744065119617025 ∧ 0 ≤ q ∧ q ≤ 18446744065119617025 ∧ 0 ≤ r ∧ r ≤ 18446744065119617025 ∧ 0 ≤ s ∧ s ≤ 18446744065119617025 ∧ a * b = s * 18446744073709551616 + (q + r) * 4294967296 + p:=by
  have key : ∀ x y : Int,0 ≤ x → x ≤ 4294967295 → 0 ≤ y → y ≤ 4294967295 → 0 ≤ x * y ∧ x * y ≤ 18446744065119617025:=fun x y h1 h2 h3 h4=>by
    refine ⟨Int.mul_nonneg h1 h3,?_⟩
    have:=Int.mul_le_mul h2 h4 h3 (by omega : (0 : Int) ≤ 4294967295)
    omega
  have e1 : a = a / 4294967296 * 4294967296 + a % 4294967296:=by omega
  have e2 : b = b / 4294967296 * 4294967296 + b % 4294967296:=by omega
  have r1 : 0 ≤ a / 4294967296 ∧ a / 4294967296 ≤ 4294967295:=by omega
  have r2 : 0 ≤ a % 4294967296 ∧ a % 4294967296 ≤ 4294967295:=by omega
  have r3 : 0 ≤ b / 4294967296 ∧ b / 4294967296 ≤ 4294967295:=by omega
  have r4 : 0 ≤ b % 4294967296 ∧ b % 4294967296 ≤ 4294967295:=by omega
  generalize a / 4294967296 = a1 at *
  generalize a % 4294967296 = a0 at *
  generalize b / 4294967296 = b1 at *
  generalize b % 4294967296 = b0 at *
  have k1:=key _ _ r2.1 r2.2 r4.1 r4.2
  have k2:=key _ _ r1.1 r1.2 r4.1 r4.2
  have k3:=key _ _ r2.1 r2.2 r3.1 r3.2
  have k4:=key _ _ r1.1 r1.2 r3.1 r3.2
  refine ⟨_,_,_,_,rfl,rfl,rfl,rfl,k1.1,k1.2,k2.1,k2.2,k3.1,k3.2,k4.1,k4.2,?_⟩
  rw [e1,e2]
  grind
theorem sp_Times (a b : U64) : (S_l02Times a b).1.val * 18446744073709551616 + (S_l02Times a b).2.val = a.val * b.val:=by
  have ha:=a.lo
  have ha':=a.hi
  have hb:=b.lo
  have hb':=b.hi
  obtain ⟨p,q,r,s,e1,e2,e3,e4,p1,p2,q1,q2,r1,r2,s1,s2,e⟩:=mul64_split a.val b.val ha hb (by omega) (by omega)
  unfold S_l02Times
  simp only [shr32,and_mask _ ha (by omega : a.val < 18446744073709551616),and_mask _ hb (by omega : b.val < 18446744073709551616),wu64_val,e1,e2,e3,e4]
  rw [and_mask _ (by omega) (by omega)]
  rw [e]
  omega
theorem eq_Mul64 (a b : U64) : F_bits_Mul64 a b = S_l02Times a b:=by
  unfold F_bits_Mul64 S_l02Times
  rw [Int.add_comm (iand .u64 _ 4294967295).val (wu64 ((iand .u64 a.val 4294967295).val * (ishr b 32).val)).val]
theorem Minus_z (w : Wd) : ∃ k : Int,(S_l02Minus w).z = -w.z + k * 340282366920938463463374607431768211456:=by
  have h1:=w.lo.lo
  have h2:=w.lo.hi
  have h5:=w.hi.lo
  have h6:=w.hi.hi
  unfold S_l02Minus
  by_cases h : w.lo.val = 0
  · simp only [h,beq_self_eq_true,cond_true,Wd.z,w64_val,wu64_val]
    by_cases e : w.hi.val = -9223372036854775808
    · exact ⟨-1,by omega⟩
    · exact ⟨0,by omega⟩
  · have hb : (w.lo.val == 0) = false:=by simpa using h
    have hn : (inot .i64 w.hi.val).val = -1 - w.hi.val:=by
      show IntKind.i64.wrap (BitVec.ofInt 64 (-1) ^^^ BitVec.ofInt 64 w.hi.val).toNat = _
      have e1 : BitVec.ofInt 64 (-1) = BitVec.allOnes 64:=by decide
      rw [e1,BitVec.xor_comm,BitVec.xor_allOnes,BitVec.toNat_not,BitVec.toNat_ofInt,IntKind.wrap_i64]
      omega
    simp only [hb,cond_false,Wd.z,hn,wu64_val]
    exact ⟨0,by omega⟩
theorem mul_size (a b : I64) : ∃ x : Int,a.val * b.val = x ∧ -85070591730234615865843651857942052864 ≤ x ∧ x ≤ 85070591730234615865843651857942052864:=by
  refine ⟨_,rfl,?_⟩
  have h1 : a.val.natAbs ≤ 9223372036854775808:=by have:=a.lo; have:=a.hi; omega
  have h2 : b.val.natAbs ≤ 9223372036854775808:=by have:=b.lo; have:=b.hi; omega
  have h:=Nat.mul_le_mul h1 h2
  rw [← Int.natAbs_mul] at h
  omega
theorem sp_Mul (a b : I64) : (S_l02Mul a b).z = a.val * b.val:=by
  have ha:=a.lo
  have ha':=a.hi
  have hb:=b.lo
  have hb':=b.hi
  have size : ∀ n : I64,(S_l02Size n).val = (n.val.natAbs : Int):=fun n=>by
    have h1:=n.lo
    have h2:=n.hi
    unfold S_l02Size
    by_cases h : n.val < 0 <;> simp only [h,decide_true,decide_false,cond_true,cond_false,wu64_val] <;> omega
  have ht:=sp_Times (S_l02Size a) (S_l02Size b)
  rw [size,size,← Int.natCast_mul,← Int.natAbs_mul] at ht
  obtain ⟨x,hx,x1,x2⟩:=mul_size a b
  rw [hx] at ht
  unfold S_l02Mul
  simp only [bindP_eq]
  have k1:=(S_l02Times (S_l02Size a) (S_l02Size b)).1.lo
  have k2:=(S_l02Times (S_l02Size a) (S_l02Size b)).1.hi
  have k3:=(S_l02Times (S_l02Size a) (S_l02Size b)).2.lo
  have k4:=(S_l02Times (S_l02Size a) (S_l02Size b)).2.hi
  generalize S_l02Times (S_l02Size a) (S_l02Size b) = p at *
  obtain ⟨hi,lo⟩:=p
  simp only at *
  have hv : Wd.z ⟨w64 hi.val,lo⟩ = (x.natAbs : Int):=by
    simp only [Wd.z,w64_val]
    omega
  rw [hx]
  by_cases hs : (decide (a.val < 0)) = decide (b.val < 0)
  · have e : (!(decide (a.val < 0) == decide (b.val < 0))) = false:=by simp [hs]
    rw [e,cond_false,hv]
    have : 0 ≤ x:=by
      rw [← hx]
      by_cases h : a.val < 0
      · have h' : b.val < 0:=by simpa [h] using hs
        exact Int.mul_nonneg_of_nonpos_of_nonpos (by omega) (by omega)
      · have h' : ¬ b.val < 0:=by simpa [h] using hs
        exact Int.mul_nonneg (by omega) (by omega)
    omega
  · have e : (!(decide (a.val < 0) == decide (b.val < 0))) = true:=by simpa using hs
    rw [e,cond_true]
    obtain ⟨k,hk⟩:=Minus_z ⟨w64 hi.val,lo⟩
    rw [hv] at hk
    have : x ≤ 0:=by
      rw [← hx]
      by_cases h : a.val < 0
      · have h' : ¬ b.val < 0:=fun h'=>hs (by simp [h,h'])
        exact Int.mul_nonpos_of_nonpos_of_nonneg (by omega) (by omega)
      · have h' : b.val < 0:=by
          by_cases q : b.val < 0
          · exact q
          · exact absurd (by simp [h,q]) hs
        exact Int.mul_nonpos_of_nonneg_of_nonpos (by omega) (by omega)
    generalize S_l02Minus ⟨w64 hi.val,lo⟩ = w at *
    have h1:=w.lo.lo
    have h2:=w.lo.hi
    have h5:=w.hi.lo
    have h6:=w.hi.hi
    simp only [Wd.z] at hk ⊢
    omega
theorem eq_WideMul (a b : I64) : I_WideMul a b = S_l02Mul a b:=by
  refine Wd.z_mod ?_
  rw [sp_Mul]
  have ha:=a.lo
  have ha':=a.hi
  have hb:=b.lo
  have hb':=b.hi
  have ht:=sp_Times (wu64 a.val) (wu64 b.val)
  have ea : (wu64 a.val).val = bif decide (a.val < 0) then a.val + 18446744073709551616 else a.val:=by
    by_cases h : a.val < 0 <;> simp only [h,decide_true,decide_false,cond_true,cond_false,wu64_val] <;> omega
  have eb : (wu64 b.val).val = bif decide (b.val < 0) then b.val + 18446744073709551616 else b.val:=by
    by_cases h : b.val < 0 <;> simp only [h,decide_true,decide_false,cond_true,cond_false,wu64_val] <;> omega
  unfold I_WideMul
  rw [eq_Mul64]
  simp only [bindP_eq]
  generalize S_l02Times (wu64 a.val) (wu64 b.val) = p at *
  obtain ⟨hi,lo⟩:=p
  rw [ea,eb] at ht ⊢
  simp only at ht
  by_cases h : a.val < 0 <;> by_cases h' : b.val < 0 <;> simp only [h,h',decide_true,decide_false,cond_true,cond_false] at ht ⊢
  · have e : (a.val + 18446744073709551616) * (b.val + 18446744073709551616) = a.val * b.val + 18446744073709551616 * a.val + 18446744073709551616 * b.val + 340282366920938463463374607431768211456:=by grind
    rw [e] at ht
    generalize a.val * b.val = x at *
    simp only [Wd.z,w64_val,wu64_val]
    refine ⟨((((hi.val - (b.val + 18446744073709551616)) % 18446744073709551616 - (a.val + 18446744073709551616)) % 18446744073709551616 + 9223372036854775808) % 18446744073709551616 - 9223372036854775808 - (hi.val - b.val - a.val - 18446744073709551616)) / 18446744073709551616,?_⟩
    omega
  · have e : (a.val + 18446744073709551616) * b.val = a.val * b.val + 18446744073709551616 * b.val:=by grind
    rw [e] at ht
    generalize a.val * b.val = x at *
    simp only [Wd.z,w64_val,wu64_val]
    refine ⟨(((hi.val - b.val) % 18446744073709551616 + 9223372036854775808) % 18446744073709551616 - 9223372036854775808 - (hi.val - b.val)) / 18446744073709551616,?_⟩
    omega
  · have e : a.val * (b.val + 18446744073709551616) = a.val * b.val + 18446744073709551616 * a.val:=by grind
    rw [e] at ht
    generalize a.val * b.val = x at *
    simp only [Wd.z,w64_val,wu64_val]
    refine ⟨(((hi.val - a.val) % 18446744073709551616 + 9223372036854775808) % 18446744073709551616 - 9223372036854775808 - (hi.val - a.val)) / 18446744073709551616,?_⟩
    omega
  · generalize a.val * b.val = x at *
    simp only [Wd.z,w64_val]
    refine ⟨((hi.val + 9223372036854775808) % 18446744073709551616 - 9223372036854775808 - hi.val) / 18446744073709551616,?_⟩
    omega
theorem eq_WideInt (w : Wd) : I_WideInt w = S_l02Int w:=by
  have e : ∀ n : I64,I_WideOf n = S_l02Of n:=fun n=>by
    have h1:=n.lo
    have h2:=n.hi
    unfold I_WideOf S_l02Of
    have h : (ishr n 63).val = if n.val < 0 then -1 else 0:=by
      rw [ishr_val,Int.fdiv_eq_ediv_of_nonneg _ (by decide)]
      show n.val / 9223372036854775808 = _
      split <;> omega
    by_cases hn : n.val < 0
    · have e2 : ishr n 63 = c64 (-1):=IK.eq (by rw [h,if_pos hn]; rfl)
      simp [hn,e2]
    · have e2 : ishr n 63 = c64 0:=IK.eq (by rw [h,if_neg hn]; rfl)
      simp [hn,e2]
  unfold I_WideInt S_l02Int
  rw [e]
theorem shr0 {k : IntKind} (x : IK k) : ishr x 0 = x:=IK.eq (by simp [ishr_val,Int.fdiv_one])
theorem eq_Shift (w : Wd) (n : I64) (h0 : 0 ≤ n.val) (h1 : n.val ≤ 127) : I_WideShift w n = S_l02Shift w n:=by
  have e1 : (I_within n (c64 0) (c64 127)) = true:=by
    rw [sp_within]
    simp [c64_val,h0,h1]
  have eu : (wu64 n.val).val = n.val:=by rw [wu64_val]; omega
  unfold I_WideShift S_l02Shift
  simp only [bindP_eq,e1,eu]
  by_cases hz : n.val = 0
  · have hl : (ior .u64 w.lo.val (ishl .u64 (wu64 w.hi.val).val 64).val) = w.lo:=by
      have : (ishl .u64 (wu64 w.hi.val).val 64).val = 0:=by
        show IntKind.u64.wrap ((wu64 w.hi.val).val * 2 ^ 64) = 0
        rw [IntKind.wrap_u64]
        omega
      rw [this]
      refine IK.eq ?_
      have b1:=w.lo.lo
      have b2:=w.lo.hi
      show IntKind.u64.wrap ((BitVec.ofInt 64 w.lo.val ||| BitVec.ofInt 64 0).toNat : Int) = w.lo.val
      have : BitVec.ofInt 64 0 = 0#64:=by decide
      rw [this,BitVec.or_zero,BitVec.toNat_ofInt,IntKind.wrap_u64]
      omega
    have e64 : (w64 (64 - n.val)).val = 64:=by rw [w64_val]; omega
    rw [e64]
    simp only [hz,shr0,hl]
    simp
  · have hb : (n.val == 0) = false:=by simpa using hz
    rw [hb]
    by_cases hs : n.val < 64
    · have e2 : (wu64 (w64 (64 - n.val)).val).val = (w64 (64 - n.val)).val:=by simp only [wu64_val,w64_val]; omega
      have : ¬ (n.val ≥ 64):=by omega
      simp [hs,this,e2]
    · have e2 : (wu64 (w64 (n.val - 64)).val).val = (w64 (n.val - 64)).val:=by simp only [wu64_val,w64_val]; omega
      have : n.val ≥ 64:=by omega
      simp [hs,this,e2]
theorem eq_in (a b c : I64) : I_within a b c = S_l00In a b c:=rfl
theorem eq_MulFloor (a b n : I64) : I_MulFloor a b n = S_MulFloor a b n:=by
  unfold I_MulFloor S_MulFloor
  simp only [bindP_eq,eq_in,eq_WideMul,eq_WideInt]
  cases h : S_l00In n (c64 0) (c64 126) with
  | false=>rfl
  | true=>
    rw [sp_in,Bool.and_eq_true] at h
    have h1 : 0 ≤ n.val:=of_decide_eq_true h.1
    have h2 : n.val ≤ 126:=of_decide_eq_true h.2
    rw [eq_Shift _ _ h1 (Int.le_trans h2 (by decide))]
theorem eq_ValidFix (a : I64) : I_ValidFix a = S_l03Ok a:=rfl
theorem sp_Ok3 (a : I64) : S_l03Ok a = (decide (-1152921504606846976 ≤ a.val) && decide (a.val ≤ 1152921504606846976)):=by
  unfold S_l03Ok
  rw [bindP_eq,sp_in]
  rfl
theorem eq_fixed (a : I64) (b : Bool) : I_fixed a b = S_l03End a b:=rfl
theorem eq_MulDown (a b : I64) : I_MulDown a b = S_l03MulDown a b:=by
  unfold I_MulDown S_l03MulDown
  simp only [eq_ValidFix,eq_MulFloor,eq_fixed]
theorem MulDown_ok (a b : I64) : ((S_l03MulDown a b).2 = true ∧ -1152921504606846976 ≤ (S_l03MulDown a b).1.val ∧ (S_l03MulDown a b).1.val ≤ 1152921504606846976) ∨ S_l03MulDown a b = (c64 0,false):=by
  unfold S_l03MulDown S_l03End
  simp only [bindP_eq]
  cases S_l03Ok a with
  | false=>exact .inr rfl
  | true=>
    cases S_l03Ok b with
    | false=>exact .inr rfl
    | true=>
      generalize S_MulFloor a b (c64 32) = p
      obtain ⟨x,q⟩:=p
      cases q with
      | false=>exact .inr rfl
      | true=>
        cases h : S_l03Ok x with
        | false=>right; simp [h]
        | true=>
          left
          have h':=h
          rw [sp_Ok3] at h'
          simp at h'
          simp [h,h']
theorem MulDown_ok2 {a b : I64} (h : (S_l03MulDown a b).2 = true) : S_l03Ok b = true:=by
  unfold S_l03MulDown at h
  simp only [bindP_eq] at h
  cases ha : S_l03Ok a with
  | false=>simp [ha] at h
  | true=>
    cases hb : S_l03Ok b with
    | false=>simp [ha,hb] at h
    | true=>rfl
theorem eq_MulUp (a b : I64) : I_MulUp a b = S_l03MulUp a b:=by
  unfold I_MulUp S_l03MulUp
  simp only [bindP_eq,eq_ValidFix,eq_MulDown]
  have hn : w64 (0 - (c64 0).val) = c64 0:=IK.eq (by decide)
  cases ha : S_l03Ok a with
  | false=>rfl
  | true=>
    cases hb : S_l03Ok b with
    | false=>
      rcases MulDown_ok (w64 (0 - a.val)) b with ⟨h,_⟩ | h
      · rw [MulDown_ok2 h] at hb; cases hb
      · rw [h]; rfl
    | true=>
      rcases MulDown_ok (w64 (0 - a.val)) b with ⟨h,_⟩ | h
      · rw [h]
      · rw [h]; simp only [hn]; rfl
theorem MulUp_ok (a b : I64) : ((S_l03MulUp a b).2 = true ∧ -1152921504606846976 ≤ (S_l03MulUp a b).1.val ∧ (S_l03MulUp a b).1.val ≤ 1152921504606846976) ∨ S_l03MulUp a b = (c64 0,false):=by
  unfold S_l03MulUp
  simp only [bindP_eq]
  cases S_l03Ok a with
  | false=>exact .inr rfl
  | true=>
    rcases MulDown_ok (w64 (0 - a.val)) b with ⟨h,h1,h2⟩ | h
    · left
      rw [h]
      simp only [Bool.not_true,cond_false,w64_val]
      refine ⟨trivial,?_⟩
      omega
    · right
      rw [h]; rfl
theorem eq_Valid (a : Iv) : I_ValidInterval a = S_l04Ok a:=rfl
theorem eq_Whole : I_Whole = S_l04Whole:=rfl
theorem eq_bounded (a b : I64) : I_bounded a b true = S_l04Make a b:=by
  unfold I_bounded S_l04Make
  simp only [bindP_eq,eq_Valid,eq_Whole]
  cases S_l04Ok ⟨a,b⟩ <;> rfl
theorem eq_areBounded (a b : Iv) : I_areBounded a b = (S_l04Ok a && S_l04Ok b):=by
  unfold I_areBounded
  simp only [bindP_eq,eq_Valid]
  cases S_l04Ok a <;> rfl
theorem sp_Min (a b : I64) : S_l00Min a b = if a.val < b.val then a else b:=by
  unfold S_l00Min
  by_cases h : a.val < b.val <;> simp [h]
theorem sp_Max (a b : I64) : S_l00Max a b = if a.val > b.val then a else b:=by
  unfold S_l00Max
  by_cases h : b.val < a.val <;> simp [h]
theorem eq_mn (a b : I64) : S_l00Min a b = mn a b:=by
  rw [sp_Min]
  refine IK.eq ?_
  rw [mn_val]
  split <;> split <;> omega
theorem eq_mx (a b : I64) : S_l00Max a b = mx a b:=by
  rw [sp_Max]
  refine IK.eq ?_
  rw [mx_val]
  split <;> split <;> omega
theorem mn_self (a : I64) : mn a a = a:=IK.eq (by rw [mn_val]; split <;> rfl)
theorem mx_self (a : I64) : mx a a = a:=IK.eq (by rw [mx_val]; split <;> rfl)
theorem mn_top (a : I64) (h : a.val ≤ 1152921504606846976) : mn (c64 1152921504606846976) a = a:=IK.eq (by rw [mn_val,c64_val]; split <;> omega)
theorem mx_low (a : I64) (h : -1152921504606846976 ≤ a.val) : mx (c64 (-1152921504606846976)) a = a:=IK.eq (by rw [mx_val,c64_val]; split <;> omega)
theorem eq_MulI (a b : Iv) : I_MulI a b = S_MulI a b:=by
  unfold I_MulI S_MulI I_combine__impl_MulDown__impl_MulUp
  simp only [bindP_eq,eq_areBounded,eq_Whole,eq_MulDown,eq_MulUp,eq_bounded,eq_mn,eq_mx]
  cases S_l04Ok a with
  | false=>rfl
  | true=>
    cases S_l04Ok b with
    | false=>rfl
    | true=>
      simp only [Bool.and_self,Bool.not_true,cond_false]
      rcases MulDown_ok a.lo b.lo with ⟨h1,h2,h3⟩ | h1
      · rcases MulUp_ok a.lo b.lo with ⟨k1,k2,k3⟩ | k1
        · simp only [mn_top _ h3,mx_low _ k2,mn_self,mx_self]
        · simp [k1]
      · simp [h1]
theorem eq_AddI (a b : Iv) : I_AddI a b = S_AddI a b:=by
  unfold I_AddI S_AddI
  simp only [bindP_eq,eq_areBounded,eq_Whole,eq_bounded]
  cases S_l04Ok a with
  | false=>rfl
  | true=>cases S_l04Ok b <;> rfl
theorem eq_DotV (a b : Vc) : I_DotV a b = S_DotV a b:=by
  unfold I_DotV S_DotV
  simp only [eq_MulI,eq_AddI]
theorem eq_ApplyM (a : Mt) (b : Vc) : I_ApplyM a b = S_ApplyM a b:=by
  unfold I_ApplyM S_ApplyM
  simp only [eq_DotV]
theorem eq_AddV (a b : Vc) : I_AddV a b = S_AddV a b:=by
  unfold I_AddV S_AddV
  simp only [eq_AddI]
theorem eq_ApplyAffine (a : Af) (b : Vc) : I_ApplyAffine a b = S_ApplyAffine a b:=by
  unfold I_ApplyAffine S_ApplyAffine
  simp only [eq_ApplyM,eq_AddV]
theorem eq_ThenAffine (a b : Af) : I_ThenAffine a b = S_ThenAffine a b:=by
  unfold I_ThenAffine S_ThenAffine I_MulM S_MulM
  simp only [eq_ApplyM,eq_AddV,eq_ApplyAffine,bindP_eq]
  rfl
theorem and_one (x : U64) : (iand .u64 x.val 1).val = x.val % 2:=by
  have h0:=x.lo
  have h1:=x.hi
  obtain ⟨n,hn⟩:=Int.eq_ofNat_of_zero_le h0
  rw [hn]
  have h:=bits_and_u64_nat n 1 (by omega) (by omega)
  rw [Nat.and_one_is_mod] at h
  have h' : (iand .u64 (n : Int) 1).val = ((n % 2 : Nat) : Int):=h
  rw [h']
  omega
theorem or_add (k : Nat) (x b : Int) (h0 : 0 ≤ x) (h1 : x < 18446744073709551616) (hx : x % 2 ^ k = 0) (b0 : 0 ≤ b) (b1 : b < 2 ^ k) (hk : k ≤ 64) : (ior .u64 x b).val = x + b:=by
  obtain ⟨n,rfl⟩:=Int.eq_ofNat_of_zero_le h0
  obtain ⟨m,rfl⟩:=Int.eq_ofNat_of_zero_le b0
  have hp : ((2 : Int) ^ k) = ((2 ^ k : Nat) : Int):=by rw [Int.natCast_pow]; rfl
  rw [hp] at hx b1
  have hm : m < 2 ^ k:=by omega
  have hle : 2 ^ k ≤ 2 ^ 64:=Nat.pow_le_pow_right (by omega) hk
  have hn : n % 2 ^ k = 0:=by
    have : ((n % 2 ^ k : Nat) : Int) = 0:=by rw [Int.natCast_emod]; exact hx
    omega
  have h64 : (2 : Nat) ^ 64 = 18446744073709551616:=by decide
  have hor : n ||| m = n + m:=by
    have e : n = 2 ^ k * (n / 2 ^ k):=by
      have:=Nat.div_add_mod n (2 ^ k)
      omega
    rw [e,Nat.two_pow_add_eq_or_of_lt hm]
  have hlt : n + m < 18446744073709551616:=by
    rw [← hor,← h64]
    exact Nat.or_lt_two_pow (by rw [h64]; omega) (Nat.lt_of_lt_of_le hm hle)
  have h:=bits_or_u64_nat n m (by omega) (by omega)
  rw [hor] at h
  have h' : (ior .u64 (n : Int) (m : Int)).val = ((n + m : Nat) : Int):=h
  rw [h']
  omega
theorem shr_val (x : U64) (y : Int) (h0 : 0 ≤ y) (h1 : y ≤ 64) : (ishr x y).val = x.val / 2 ^ y.toNat:=by
  rw [ishr_val,Int.fdiv_eq_ediv_of_nonneg _ (Int.le_of_lt (Int.pow_pos (by decide)))]
  rw [show min y.toNat IntKind.u64.bits = y.toNat from Nat.min_eq_left (by show y.toNat ≤ 64; omega)]
theorem shl1_val (x : U64) : (ishl .u64 x.val 1).val = (x.val * 2) % 18446744073709551616:=by
  show IntKind.u64.wrap (x.val * 2 ^ 1) = _
  rw [IntKind.wrap_u64]
  rfl
theorem bring (x : Int) (i : Nat) : x % 2 ^ (i + 1) = (x / 2 ^ i) % 2 * 2 ^ i + x % 2 ^ i:=by
  have hp : (0 : Int) < 2 ^ i:=Int.pow_pos (by decide)
  have h1:=Int.emod_add_mul_ediv x (2 ^ i)
  have h2:=Int.emod_add_mul_ediv (x / 2 ^ i) 2
  have h3 : 0 ≤ x % 2 ^ i:=Int.emod_nonneg _ (by omega)
  have h4 : x % 2 ^ i < 2 ^ i:=Int.emod_lt_of_pos _ hp
  have e : x = 2 ^ (i + 1) * (x / 2 ^ i / 2) + ((x / 2 ^ i) % 2 * 2 ^ i + x % 2 ^ i):=by
    rw [Int.pow_succ]
    generalize x / 2 ^ i = y at *
    generalize x % 2 ^ i = z at *
    generalize (2 : Int) ^ i = p at *
    generalize y / 2 = u at *
    generalize y % 2 = v at *
    subst h2
    rw [← h1]
    grind
  have hb : 0 ≤ (x / 2 ^ i) % 2:=Int.emod_nonneg _ (by decide)
  have hb2 : (x / 2 ^ i) % 2 ≤ 1:=by have:=Int.emod_lt_of_pos (x / 2 ^ i) (by decide : (0 : Int) < 2); omega
  have hpp : (2 : Int) ^ (i + 1) = 2 * 2 ^ i:=by rw [Int.pow_succ]; omega
  have hlo : 0 ≤ (x / 2 ^ i) % 2 * 2 ^ i:=Int.mul_nonneg hb (Int.le_of_lt hp)
  have hhi : (x / 2 ^ i) % 2 * 2 ^ i ≤ 2 ^ i:=by
    have:=Int.mul_le_mul_of_nonneg_right hb2 (Int.le_of_lt hp)
    omega
  have q:=congrArg (· % (2 : Int) ^ (i + 1)) e
  simp only [Int.mul_add_emod_self_left] at q
  rw [q]
  exact Int.emod_eq_of_lt (by omega) (by omega)
theorem sp_Divide_loop (lo d qh : U64) (hd : 0 < d.val) : ∀ (N fu : Nat) (rest q : U64) (i : I64),i.val = (N : Int) - 1 → N < fu → N ≤ 64 → rest.val < d.val → (q.val + 1) * 2 ^ N ≤ 18446744073709551616 →
    ∃ q' r' : U64,S_l02Divide_L0 fu lo d qh rest q i = (qh,q',r') ∧ q'.val * d.val + r'.val = q.val * 2 ^ N * d.val + rest.val * 2 ^ N + lo.val % 2 ^ N ∧ r'.val < d.val
  | 0,fu,rest,q,i,hi,hf,hN,hr,hq=>by
    obtain ⟨f,rfl⟩:=Nat.exists_eq_succ_of_ne_zero (by omega : fu ≠ 0)
    have hneg : ¬ i.val ≥ 0:=by omega
    refine ⟨q,rest,?_,?_,hr⟩
    · unfold S_l02Divide_L0
      simp only [hneg,decide_false,cond_false]
    · simp only [Int.pow_zero,Int.mul_one,Int.emod_one]
      omega
  | N + 1,fu,rest,q,i,hi,hf,hN,hr,hq=>by
    obtain ⟨f,rfl⟩:=Nat.exists_eq_succ_of_ne_zero (by omega : fu ≠ 0)
    have hpos : i.val ≥ 0:=by omega
    have hiN : i.val = N:=by omega
    have hwi : (wu64 i.val).val = i.val:=by rw [wu64_val]; omega
    have d1:=d.hi
    have r0:=rest.lo
    have r1:=rest.hi
    have q0:=q.lo
    have l0:=lo.lo
    have hp : (0 : Int) < 2 ^ N:=Int.pow_pos (by decide)
    have hpp : (2 : Int) ^ (N + 1) = 2 * 2 ^ N:=by rw [Int.pow_succ]; omega
    have hq2 : (q.val + 1) * 2 * 2 ^ N ≤ 18446744073709551616:=by rw [Int.mul_assoc,← hpp]; exact hq
    have hq3 : (q.val + 1) * 2 ≤ (q.val + 1) * 2 * 2 ^ N:=by
      have:=Int.mul_le_mul_of_nonneg_left (by omega : (1 : Int) ≤ 2 ^ N) (by omega : 0 ≤ (q.val + 1) * 2)
      omega
    have hbit : (iand .u64 (ishr lo (wu64 i.val).val).val 1).val = (lo.val / 2 ^ N) % 2:=by
      rw [and_one,hwi,shr_val lo i.val hpos (by omega),hiN]
      rfl
    have hbr:=bring lo.val N
    have hb0 : 0 ≤ (lo.val / 2 ^ N) % 2:=Int.emod_nonneg _ (by decide)
    have hb1 : (lo.val / 2 ^ N) % 2 < 2:=Int.emod_lt_of_pos _ (by decide)
    generalize (lo.val / 2 ^ N) % 2 = b at *
    have hor : (ior .u64 (ishl .u64 rest.val 1).val (iand .u64 (ishr lo (wu64 i.val).val).val 1).val).val = (rest.val * 2) % 18446744073709551616 + b:=by
      rw [hbit,shl1_val]
      exact or_add 1 _ b (by omega) (by omega) (by show _ % 2 = 0; omega) hb0 (by show b < 2; omega) (by omega)
    have hqs : (ishl .u64 q.val 1).val = q.val * 2:=by rw [shl1_val]; omega
    have hqo : (ior .u64 (ishl .u64 q.val 1).val 1).val = q.val * 2 + 1:=by
      rw [hqs]
      exact or_add 1 _ 1 (by omega) (by omega) (by show _ % 2 = 0; omega) (by omega) (by show (1 : Int) < 2; omega) (by omega)
    have htop : (ishr rest 63).val = rest.val / 9223372036854775808:=shr_val rest 63 (by omega) (by omega)
    have hi' : (w64 (i.val - 1)).val = (N : Int) - 1:=by rw [w64_val]; omega
    have fin : ∀ (rest' q2 : U64),rest'.val < d.val → q2.val * 1 * d.val + rest'.val = q.val * 2 * d.val + rest.val * 2 + b → q2.val ≤ q.val * 2 + 1 →
        ∃ q' r' : U64,S_l02Divide_L0 f lo d qh rest' q2 (w64 (i.val - 1)) = (qh,q',r') ∧ q'.val * d.val + r'.val = q.val * 2 ^ (N + 1) * d.val + rest.val * 2 ^ (N + 1) + lo.val % 2 ^ (N + 1) ∧ r'.val < d.val:=fun rest' q2 h1 h2 h3=>by
      have hq4 : (q2.val + 1) * 2 ^ N ≤ 18446744073709551616:=by
        have:=Int.mul_le_mul_of_nonneg_right (by omega : q2.val + 1 ≤ (q.val + 1) * 2) (Int.le_of_lt hp)
        omega
      obtain ⟨q',r',e1,e2,e3⟩:=sp_Divide_loop lo d qh hd N f rest' q2 (w64 (i.val - 1)) hi' (by omega) (by omega) h1 hq4
      refine ⟨q',r',e1,?_,e3⟩
      rw [e2,hbr,hpp]
      have : (q2.val * 1 * d.val + rest'.val) * 2 ^ N = (q.val * 2 * d.val + rest.val * 2 + b) * 2 ^ N:=by rw [h2]
      generalize lo.val % 2 ^ N = m at *
      generalize (2 : Int) ^ N = p at *
      grind
    unfold S_l02Divide_L0
    simp only [hpos,decide_true,cond_true]
    by_cases ht : (ishr rest 63).val = 1
    · have hb : ((ishr rest 63).val == 1) = true:=by simpa using ht
      rw [hb,cond_true]
      have hv : (wu64 ((ior .u64 (ishl .u64 rest.val 1).val (iand .u64 (ishr lo (wu64 i.val).val).val 1).val).val - d.val)).val = rest.val * 2 + b - d.val:=by
        rw [wu64_val,hor]
        omega
      refine fin _ _ (by rw [hv]; omega) ?_ (by rw [hqo]; omega)
      rw [hv,hqo]
      grind
    · have hb : ((ishr rest 63).val == 1) = false:=by simpa using ht
      rw [hb,cond_false]
      have hor2 : (ior .u64 (ishl .u64 rest.val 1).val (iand .u64 (ishr lo (wu64 i.val).val).val 1).val).val = rest.val * 2 + b:=by rw [hor]; omega
      by_cases hge : (ior .u64 (ishl .u64 rest.val 1).val (iand .u64 (ishr lo (wu64 i.val).val).val 1).val).val ≥ d.val
      · simp only [hge,decide_true,cond_true]
        have hv : (wu64 ((ior .u64 (ishl .u64 rest.val 1).val (iand .u64 (ishr lo (wu64 i.val).val).val 1).val).val - d.val)).val = rest.val * 2 + b - d.val:=by
          rw [wu64_val,hor2]
          omega
        refine fin _ _ (by rw [hv]; omega) ?_ (by rw [hqo]; omega)
        rw [hv,hqo]
        grind
      · simp only [hge,decide_false,cond_false]
        refine fin _ _ (by omega) ?_ (by rw [hqs]; omega)
        rw [hor2,hqs]
        grind
theorem sp_Divide (hi lo d : U64) (hd : 0 < d.val) : ∃ q r : U64,S_l02Divide hi lo d = (wu64 (Int.tdiv hi.val d.val),q,r) ∧ q.val * d.val + r.val = hi.val % d.val * 18446744073709551616 + lo.val ∧ r.val < d.val:=by
  have hm : (imod hi d.val).val = hi.val % d.val:=by rw [imod_val,Int.tmod_eq_emod_of_nonneg hi.lo]
  obtain ⟨q,r,e1,e2,e3⟩:=sp_Divide_loop lo d (wu64 (Int.tdiv hi.val d.val)) hd 64 65 (imod hi d.val) (cu64 0) (c64 63) rfl (by omega) (by omega) (imod_lt _ _ (by omega)) (by decide)
  refine ⟨q,r,e1,?_,e3⟩
  rw [e2,hm]
  have h : lo.val % 2 ^ 64 = lo.val:=Int.emod_eq_of_lt lo.lo (by have:=lo.hi; omega)
  rw [h]
  show 0 * 2 ^ 64 * d.val + hi.val % d.val * 18446744073709551616 + lo.val = _
  omega
structure Digit (u w y y1 y0 q rh Q : Int) : Prop where
  hy : y = y1 * 4294967296 + y0
  y1l : 1 ≤ y1
  y1h : y1 ≤ 4294967295
  y0l : 0 ≤ y0
  y0h : y0 ≤ 4294967295
  w0 : 0 ≤ w
  w1 : w ≤ 4294967295
  u0 : 0 ≤ u
  uy : u < y
  eq : q * y1 + rh = u
  r0 : 0 ≤ rh
  Q0 : 0 ≤ Q
  Qlo : Q * y ≤ u * 4294967296 + w
  Qhi : u * 4294967296 + w < (Q + 1) * y
  le : Q ≤ q
theorem Digit.small {u w y y1 y0 q rh Q : Int} (D : Digit u w y y1 y0 q rh Q) : Q ≤ 4294967295:=by
  obtain ⟨hy,y1l,y1h,y0l,y0h,w0,w1,u0,uy,eq,r0,Q0,Qlo,Qhi,le⟩:=D
  rcases Int.lt_or_le Q 4294967296 with h | h
  · omega
  · have:=Int.mul_le_mul_of_nonneg_right h (by omega : 0 ≤ y)
    omega
theorem Digit.prod {u w y y1 y0 q rh Q : Int} (D : Digit u w y y1 y0 q rh Q) : q * y = (u - rh) * 4294967296 + q * y0:=by
  have h1:=D.hy
  have h2:=D.eq
  rw [h1,Int.mul_add,← Int.mul_assoc]
  omega
theorem Digit.over {u w y y1 y0 q rh Q : Int} (D : Digit u w y y1 y0 q rh Q) (h : q ≥ 4294967296 ∨ q * y0 > 4294967296 * rh + w) : Q ≤ q - 1:=by
  have hs:=D.small
  have hp:=D.prod
  rcases h with h | h
  · omega
  · rcases Int.lt_or_le Q q with k | k
    · omega
    · have:=Int.mul_le_mul_of_nonneg_right k (by have:=D.u0; have:=D.uy; omega : 0 ≤ y)
      have:=D.Qlo
      omega
theorem Digit.under {u w y y1 y0 q rh Q : Int} (D : Digit u w y y1 y0 q rh Q) (h : q * y0 ≤ 4294967296 * rh + w) : q = Q:=by
  have hp:=D.prod
  rcases Int.lt_or_le Q q with k | k
  · have:=Int.mul_le_mul_of_nonneg_right (by omega : Q + 1 ≤ q) (by have:=D.u0; have:=D.uy; omega : 0 ≤ y)
    have:=D.Qhi
    omega
  · have:=D.le
    omega
theorem Digit.out {u w y y1 y0 q rh Q : Int} (D : Digit u w y y1 y0 q rh Q) (h : rh ≥ 4294967296) : q = Q:=by
  have hy:=D.hy
  have he:=D.eq
  have hu:=D.uy
  have a1:=D.y1l
  have a2:=D.y0h
  have a3:=D.y0l
  have a4:=D.w0
  have hq : q ≤ 4294967295:=by
    rcases Int.lt_or_le q 4294967296 with k | k
    · omega
    · have:=Int.mul_le_mul_of_nonneg_right k (by omega : 0 ≤ y1)
      omega
  refine D.under ?_
  have q0 : 0 ≤ q:=Int.le_trans D.Q0 D.le
  have:=Int.mul_le_mul hq a2 a3 (by omega : (0 : Int) ≤ 4294967295)
  omega
theorem Digit.next {u w y y1 y0 q rh Q : Int} (D : Digit u w y y1 y0 q rh Q) (h : Q ≤ q - 1) : Digit u w y y1 y0 (q - 1) (rh + y1) Q:=by
  obtain ⟨hy,y1l,y1h,y0l,y0h,w0,w1,u0,uy,eq,r0,Q0,Qlo,Qhi,le⟩:=D
  exact ⟨hy,y1l,y1h,y0l,y0h,w0,w1,u0,uy,by rw [Int.sub_mul]; omega,by omega,Q0,Qlo,Qhi,h⟩
theorem Digit.first {u w y y1 y0 : Int} (hy : y = y1 * 4294967296 + y0) (y1l : 1 ≤ y1) (y1h : y1 ≤ 4294967295) (y0l : 0 ≤ y0) (y0h : y0 ≤ 4294967295) (w0 : 0 ≤ w) (w1 : w ≤ 4294967295) (u0 : 0 ≤ u) (uy : u < y) :
    Digit u w y y1 y0 (u / y1) (u % y1) ((u * 4294967296 + w) / y):=by
  have hyp : 0 < y:=by omega
  have e:=Int.emod_add_mul_ediv u y1
  have e2:=Int.emod_add_mul_ediv (u * 4294967296 + w) y
  have m0 : 0 ≤ (u * 4294967296 + w) % y:=Int.emod_nonneg _ (by omega)
  have m1 : (u * 4294967296 + w) % y < y:=Int.emod_lt_of_pos _ hyp
  have Q0 : 0 ≤ (u * 4294967296 + w) / y:=Int.ediv_nonneg (by omega) (by omega)
  generalize (u * 4294967296 + w) / y = Q at *
  have hc : Q * y = y * Q:=Int.mul_comm _ _
  refine ⟨hy,y1l,y1h,y0l,y0h,w0,w1,u0,uy,by rw [Int.mul_comm]; omega,Int.emod_nonneg _ (by omega),Q0,by omega,by rw [Int.add_mul]; omega,?_⟩
  rw [Int.le_ediv_iff_mul_le (by omega)]
  have h1 : Q * y = Q * y1 * 4294967296 + Q * y0:=by rw [hy,Int.mul_add,← Int.mul_assoc]
  have h2 : 0 ≤ Q * y0:=Int.mul_nonneg Q0 y0l
  omega
theorem mul_small {a b : Int} (a0 : 0 ≤ a) (a1 : a ≤ 4294967295) (b0 : 0 ≤ b) (b1 : b ≤ 4294967295) : 0 ≤ a * b ∧ a * b ≤ 18446744065119617025:=by
  refine ⟨Int.mul_nonneg a0 b0,?_⟩
  have:=Int.mul_le_mul a1 b1 b0 (by omega : (0 : Int) ≤ 4294967295)
  omega
theorem rest_val (u w q y : U64) (Q : Int) (hq : q.val = Q) (h0 : 0 ≤ u.val * 4294967296 + w.val - Q * y.val) (h1 : u.val * 4294967296 + w.val - Q * y.val ≤ 18446744073709551615) :
    (wu64 ((wu64 ((wu64 (u.val * 4294967296)).val + w.val)).val - (wu64 (q.val * y.val)).val)).val = u.val * 4294967296 + w.val - Q * y.val:=by
  rw [hq]
  generalize Q * y.val = p at *
  simp only [wu64_val]
  omega
theorem Div64_L1 (y s y1 y0 w q1 u : U64) : ∀ (fu : Nat) (rh q : U64) (Q : Int),Digit u.val w.val y.val y1.val y0.val q.val rh.val Q → rh.val < 4294967296 → (4294967296 - rh.val).toNat < fu →
    ∃ q' : U64,q'.val = Q ∧ F_bits_Div64_L1 fu y s y1 y0 w q1 u rh q = ((wu64 ((wu64 (q1.val * 4294967296)).val + q'.val)),(ishr (wu64 ((wu64 ((wu64 (u.val * 4294967296)).val + w.val)).val - (wu64 (q'.val * y.val)).val)) s.val))
  | 0,_,_,_,_,_,h=>absurd h (Nat.not_lt_zero _)
  | fu + 1,rh,q,Q,D,hr,hf=>by
    have hs:=D.small
    have hQ:=D.Q0
    have hle:=D.le
    have a1:=D.y1l
    have a2:=D.y1h
    have q0:=q.lo
    have qh:=q.hi
    have r0:=rh.lo
    have hrv : (wu64 (rh.val + y1.val)).val = rh.val + y1.val:=by rw [wu64_val]; omega
    have step : Q ≤ q.val - 1 → ∃ q' : U64,q'.val = Q ∧ (bif (decide ((wu64 (rh.val + y1.val)).val ≥ 4294967296)) then ((wu64 ((wu64 (q1.val * 4294967296)).val + (wu64 (q.val - 1)).val)),(ishr (wu64 ((wu64 ((wu64 (u.val * 4294967296)).val + w.val)).val - (wu64 ((wu64 (q.val - 1)).val * y.val)).val)) s.val)) else F_bits_Div64_L1 fu y s y1 y0 w q1 u (wu64 (rh.val + y1.val)) (wu64 (q.val - 1))) = ((wu64 ((wu64 (q1.val * 4294967296)).val + q'.val)),(ishr (wu64 ((wu64 ((wu64 (u.val * 4294967296)).val + w.val)).val - (wu64 (q'.val * y.val)).val)) s.val)):=fun h=>by
      have hqv : (wu64 (q.val - 1)).val = q.val - 1:=by rw [wu64_val]; omega
      have D2 : Digit u.val w.val y.val y1.val y0.val (wu64 (q.val - 1)).val (wu64 (rh.val + y1.val)).val Q:=by
        rw [hqv,hrv]; exact D.next h
      by_cases hb : (wu64 (rh.val + y1.val)).val ≥ 4294967296
      · refine ⟨wu64 (q.val - 1),D2.out hb,?_⟩
        simp only [hb,decide_true,cond_true]
      · obtain ⟨q',e1,e2⟩:=Div64_L1 y s y1 y0 w q1 u fu _ _ Q D2 (by omega) (by omega)
        refine ⟨q',e1,?_⟩
        simp only [hb,decide_false,cond_false]
        exact e2
    unfold F_bits_Div64_L1
    by_cases h1 : q.val ≥ 4294967296
    · simp only [h1,decide_true,cond_true]
      exact step (D.over (.inl h1))
    · simp only [h1,decide_false,cond_false]
      have hm:=mul_small q0 (by omega) D.y0l D.y0h
      have w0:=D.w0
      have w1:=D.w1
      have e1 : (wu64 (q.val * y0.val)).val = q.val * y0.val:=by
        generalize q.val * y0.val = p at *
        rw [wu64_val]; omega
      have e2 : (wu64 ((wu64 (4294967296 * rh.val)).val + w.val)).val = 4294967296 * rh.val + w.val:=by simp only [wu64_val]; omega
      rw [e1,e2]
      by_cases h2 : q.val * y0.val > 4294967296 * rh.val + w.val
      · simp only [h2,decide_true,cond_true]
        exact step (D.over (.inr h2))
      · simp only [h2,decide_false,cond_false]
        exact ⟨q,D.under (by omega),rfl⟩
theorem est (u y1 : U64) (h : 1 ≤ y1.val) : (wu64 (Int.tdiv u.val y1.val)).val = u.val / y1.val:=by
  have h1:=u.lo
  have h2:=u.hi
  have hd : Int.tdiv u.val y1.val = u.val / y1.val:=Int.tdiv_eq_ediv_of_nonneg h1
  have q0 : 0 ≤ u.val / y1.val:=Int.ediv_nonneg h1 (by omega)
  have q1 : u.val / y1.val ≤ u.val:=Int.ediv_le_self _ h1
  rw [wu64_val,hd]
  omega
theorem Div64_second (y s y1 y0 w q1 u : U64) (hy : y.val = y1.val * 4294967296 + y0.val) (y1l : 1 ≤ y1.val) (y1h : y1.val ≤ 4294967295) (y0h : y0.val ≤ 4294967295) (w1 : w.val ≤ 4294967295) (uy : u.val < y.val) (hq1 : q1.val ≤ 4294967295) :
    ∃ q r : U64,F_bits_Div64_L1 ((4294967296 - (wu64 (u.val - (wu64 ((wu64 (Int.tdiv u.val y1.val)).val * y1.val)).val)).val).toNat + 1) y s y1 y0 w q1 u (wu64 (u.val - (wu64 ((wu64 (Int.tdiv u.val y1.val)).val * y1.val)).val)) (wu64 (Int.tdiv u.val y1.val)) = (q,ishr r s.val) ∧
      q.val = q1.val * 4294967296 + (u.val * 4294967296 + w.val) / y.val ∧ r.val = (u.val * 4294967296 + w.val) % y.val:=by
  have D:=Digit.first (u:=u.val) (w:=w.val) hy y1l y1h y0.lo y0h w.lo w1 u.lo uy
  have hr:=rem_eq u y1 y1l
  have hq:=est u y1 y1l
  have hlt : (wu64 (u.val - (wu64 ((wu64 (Int.tdiv u.val y1.val)).val * y1.val)).val)).val < 4294967296:=rem_lt u y1 y1l y1h
  rw [← hr,← hq] at D
  have hs:=D.small
  have hQ:=D.Q0
  obtain ⟨q',e1,e2⟩:=Div64_L1 y s y1 y0 w q1 u _ _ _ _ D hlt (Nat.lt_succ_self _)
  refine ⟨_,_,e2,?_,?_⟩
  · have a0:=q1.lo
    simp only [wu64_val,e1]
    omega
  · have e3:=Int.emod_add_mul_ediv (u.val * 4294967296 + w.val) y.val
    have u0:=u.lo
    have m0 : 0 ≤ (u.val * 4294967296 + w.val) % y.val:=Int.emod_nonneg _ (by omega)
    have m1 : (u.val * 4294967296 + w.val) % y.val < y.val:=Int.emod_lt_of_pos _ (by omega)
    have y1':=y.hi
    have hc : (u.val * 4294967296 + w.val) / y.val * y.val = y.val * ((u.val * 4294967296 + w.val) / y.val):=Int.mul_comm _ _
    rw [rest_val u w q' y _ e1 (by omega) (by omega)]
    omega
theorem Div64_L0 (y s y1 y0 un32 w w0 : U64) (hw0 : w0.val ≤ 4294967295) : ∀ (fu : Nat) (rh q : U64) (Q : Int),Digit un32.val w.val y.val y1.val y0.val q.val rh.val Q → rh.val < 4294967296 → (4294967296 - rh.val).toNat < fu →
    ∃ q' r' : U64,F_bits_Div64_L0 fu y s y1 y0 un32 w w0 q rh = (q',ishr r' s.val) ∧ q'.val * y.val + r'.val = un32.val * 18446744073709551616 + w.val * 4294967296 + w0.val ∧ 0 ≤ r'.val ∧ r'.val < y.val
  | 0,_,_,_,_,_,h=>absurd h (Nat.not_lt_zero _)
  | fu + 1,rh,q,Q,D,hr,hf=>by
    have hs:=D.small
    have hQ:=D.Q0
    have hle:=D.le
    have a1:=D.y1l
    have a2:=D.y1h
    have q0:=q.lo
    have qh:=q.hi
    have r0:=rh.lo
    have hrv : (wu64 (rh.val + y1.val)).val = rh.val + y1.val:=by rw [wu64_val]; omega
    have last : ∀ (q2 : U64),q2.val = Q → ∃ q' r' : U64,F_bits_Div64_L1 ((4294967296 - (wu64 ((wu64 ((wu64 ((wu64 (un32.val * 4294967296)).val + w.val)).val - (wu64 (q2.val * y.val)).val)).val - (wu64 ((wu64 (Int.tdiv (wu64 ((wu64 ((wu64 (un32.val * 4294967296)).val + w.val)).val - (wu64 (q2.val * y.val)).val)).val y1.val)).val * y1.val)).val)).val).toNat + 1) y s y1 y0 w0 q2 (wu64 ((wu64 ((wu64 (un32.val * 4294967296)).val + w.val)).val - (wu64 (q2.val * y.val)).val)) (wu64 ((wu64 ((wu64 ((wu64 (un32.val * 4294967296)).val + w.val)).val - (wu64 (q2.val * y.val)).val)).val - (wu64 ((wu64 (Int.tdiv (wu64 ((wu64 ((wu64 (un32.val * 4294967296)).val + w.val)).val - (wu64 (q2.val * y.val)).val)).val y1.val)).val * y1.val)).val)) (wu64 (Int.tdiv (wu64 ((wu64 ((wu64 (un32.val * 4294967296)).val + w.val)).val - (wu64 (q2.val * y.val)).val)).val y1.val)) = (q',ishr r' s.val) ∧ q'.val * y.val + r'.val = un32.val * 18446744073709551616 + w.val * 4294967296 + w0.val ∧ 0 ≤ r'.val ∧ r'.val < y.val:=fun q2 h2=>by
      have yh:=y.hi
      have k1:=D.Qlo
      have k2:=D.Qhi
      have k3 : (Q + 1) * y.val = Q * y.val + y.val:=by rw [Int.add_mul,Int.one_mul]
      have hu:=rest_val un32 w q2 y Q h2 (by omega) (by omega)
      have hw0':=w0.lo
      obtain ⟨q',r',e1,e2,e3⟩:=Div64_second y s y1 y0 w0 q2 (wu64 ((wu64 ((wu64 (un32.val * 4294967296)).val + w.val)).val - (wu64 (q2.val * y.val)).val)) D.hy a1 a2 D.y0h hw0 (by rw [hu]; omega) (by omega)
      rw [hu] at e2 e3
      have e4:=Int.emod_add_mul_ediv ((un32.val * 4294967296 + w.val - Q * y.val) * 4294967296 + w0.val) y.val
      have hc : y.val * (((un32.val * 4294967296 + w.val - Q * y.val) * 4294967296 + w0.val) / y.val) = (((un32.val * 4294967296 + w.val - Q * y.val) * 4294967296 + w0.val) / y.val) * y.val:=Int.mul_comm _ _
      refine ⟨q',r',e1,?_,?_,?_⟩
      · rw [e2,e3,h2,Int.add_mul]
        have : Q * 4294967296 * y.val = Q * y.val * 4294967296:=by rw [Int.mul_assoc,Int.mul_comm 4294967296,← Int.mul_assoc]
        rw [this]
        generalize Q * y.val = p at *
        omega
      · rw [e3]; exact Int.emod_nonneg _ (by omega)
      · rw [e3]; exact Int.emod_lt_of_pos _ (by omega)
    have step : Q ≤ q.val - 1 → (wu64 (q.val - 1)).val = q.val - 1 ∧ Digit un32.val w.val y.val y1.val y0.val (wu64 (q.val - 1)).val (wu64 (rh.val + y1.val)).val Q:=fun h=>by
      have hqv : (wu64 (q.val - 1)).val = q.val - 1:=by rw [wu64_val]; omega
      refine ⟨hqv,?_⟩
      rw [hqv,hrv]; exact D.next h
    unfold F_bits_Div64_L0
    by_cases h1 : q.val ≥ 4294967296
    · simp only [h1,decide_true,cond_true]
      obtain ⟨_,D2⟩:=step (D.over (.inl h1))
      by_cases hb : (wu64 (rh.val + y1.val)).val ≥ 4294967296
      · simp only [hb,decide_true,cond_true]
        exact last _ (D2.out hb)
      · simp only [hb,decide_false,cond_false]
        exact Div64_L0 y s y1 y0 un32 w w0 hw0 fu _ _ Q D2 (by omega) (by omega)
    · simp only [h1,decide_false,cond_false]
      have hm:=mul_small q0 (by omega) D.y0l D.y0h
      have b0:=D.w0
      have b1:=D.w1
      have e1 : (wu64 (q.val * y0.val)).val = q.val * y0.val:=by
        generalize q.val * y0.val = p at *
        rw [wu64_val]; omega
      have e2 : (wu64 ((wu64 (4294967296 * rh.val)).val + w.val)).val = 4294967296 * rh.val + w.val:=by simp only [wu64_val]; omega
      rw [e1,e2]
      by_cases h2 : q.val * y0.val > 4294967296 * rh.val + w.val
      · simp only [h2,decide_true,cond_true]
        obtain ⟨_,D2⟩:=step (D.over (.inr h2))
        by_cases hb : (wu64 (rh.val + y1.val)).val ≥ 4294967296
        · simp only [hb,decide_true,cond_true]
          exact last _ (D2.out hb)
        · simp only [hb,decide_false,cond_false]
          exact Div64_L0 y s y1 y0 un32 w w0 hw0 fu _ _ Q D2 (by omega) (by omega)
      · simp only [h2,decide_false,cond_false]
        exact last q (D.under (by omega))
theorem sp_Div64 (hi lo d : U64) (h : hi.val < d.val) : ∃ q r : U64,F_bits_Div64 hi lo d = (q,r) ∧ q.val * d.val + r.val = hi.val * 18446744073709551616 + lo.val ∧ r.val < d.val:=by
  have hi0:=hi.lo
  have lo0:=lo.lo
  have loh:=lo.hi
  have dh:=d.hi
  unfold F_bits_Div64
  simp only [bindP_eq]
  by_cases hz : hi.val = 0
  · have hb : (hi.val == 0) = true:=by simpa using hz
    rw [hb,cond_true]
    have e:=Int.emod_add_mul_ediv lo.val d.val
    have hc : d.val * (lo.val / d.val) = lo.val / d.val * d.val:=Int.mul_comm _ _
    refine ⟨_,_,rfl,?_,imod_lt _ _ (by omega)⟩
    rw [est lo d (by omega),imod_val,Int.tmod_eq_emod_of_nonneg lo0,hz]
    omega
  · have hb : (hi.val == 0) = false:=by simpa using hz
    rw [hb,cond_false]
    obtain ⟨s,hs,e1,e2,e3,e4⟩:=norm_y d (by omega)
    have hn:=norm_yn d (by omega)
    have hp : (0 : Int) < 2 ^ s:=Int.pow_pos (by decide)
    have hcp : (0 : Int) < 2 ^ (64 - s):=Int.pow_pos (by decide)
    have hpc : (2 : Int) ^ s * 2 ^ (64 - s) = 18446744073709551616:=by rw [← Int.pow_add,show s + (64 - s) = 64 by omega]; rfl
    have ple : (2 : Int) ^ s ≤ 18446744073709551616:=by
      have:=Int.mul_le_mul_of_nonneg_left (by omega : (1 : Int) ≤ 2 ^ (64 - s)) (Int.le_of_lt hp)
      omega
    have hdp : (hi.val + 1) * 2 ^ s ≤ d.val * 2 ^ s:=Int.mul_le_mul_of_nonneg_right (by omega) (Int.le_of_lt hp)
    have hdp2 : (hi.val + 1) * 2 ^ s = hi.val * 2 ^ s + 2 ^ s:=by rw [Int.add_mul,Int.one_mul]
    have hp0 : 0 ≤ hi.val * 2 ^ s:=Int.mul_nonneg hi0 (Int.le_of_lt hp)
    have shl : ∀ x : U64,(ishl .u64 x.val (wu64 (F_bits_LeadingZeros64 d).val).val).val = (x.val * 2 ^ s) % 18446744073709551616:=fun x=>by
      rw [e1]
      show IntKind.u64.wrap (x.val * 2 ^ (min ((s : Int).toNat) 64)) = _
      rw [Int.toNat_natCast,Nat.min_eq_left (by omega),IntKind.wrap_u64]
    have hsh : (ishl .u64 hi.val (wu64 (F_bits_LeadingZeros64 d).val).val).val = hi.val * 2 ^ s:=by rw [shl]; omega
    have h64 : (wu64 (64 - (wu64 (F_bits_LeadingZeros64 d).val).val)).val = ((64 - s : Nat) : Int):=by rw [e1,wu64_val]; omega
    have hlo : (ishr lo (wu64 (64 - (wu64 (F_bits_LeadingZeros64 d).val).val)).val).val = lo.val / 2 ^ (64 - s):=by
      rw [h64,shr_val lo _ (by omega) (by omega),Int.toNat_natCast]
    have l0 : 0 ≤ lo.val / 2 ^ (64 - s):=Int.ediv_nonneg lo0 (Int.le_of_lt hcp)
    have l1 : lo.val / 2 ^ (64 - s) < 2 ^ s:=by
      rw [Int.ediv_lt_iff_lt_mul hcp,hpc]
      omega
    have hor : (ior .u64 (ishl .u64 hi.val (wu64 (F_bits_LeadingZeros64 d).val).val).val (ishr lo (wu64 (64 - (wu64 (F_bits_LeadingZeros64 d).val).val)).val).val).val = hi.val * 2 ^ s + lo.val / 2 ^ (64 - s):=by
      rw [hsh,hlo]
      exact or_add s _ _ hp0 (by omega) (Int.mul_emod_left _ _) l0 l1 (by omega)
    have hm:=shl lo
    have hdiv : (lo.val * 2 ^ s) / 18446744073709551616 = lo.val / 2 ^ (64 - s):=by
      rw [← hpc,Int.mul_comm lo.val,Int.mul_ediv_mul_of_pos _ _ hp]
    have hem:=Int.emod_add_mul_ediv (lo.val * 2 ^ s) 18446744073709551616
    rw [hdiv] at hem
    have m0 : 0 ≤ (ishl .u64 lo.val (wu64 (F_bits_LeadingZeros64 d).val).val).val:=U64.lo _
    have m1 : (ishl .u64 lo.val (wu64 (F_bits_LeadingZeros64 d).val).val).val ≤ 18446744073709551615:=U64.hi _
    have un1:=shr32 (ishl .u64 lo.val (wu64 (F_bits_LeadingZeros64 d).val).val)
    have un0:=and_mask _ m0 (by omega)
    have yn1:=shr32 (ishl .u64 d.val (wu64 (F_bits_LeadingZeros64 d).val).val)
    have yn0:=and_mask (ishl .u64 d.val (wu64 (F_bits_LeadingZeros64 d).val).val).val (U64.lo _) (by have:=U64.hi (ishl .u64 d.val (wu64 (F_bits_LeadingZeros64 d).val).val); omega)
    have hse : (wu64 (F_bits_LeadingZeros64 d).val).val = s:=e1
    have hy : (ishl .u64 d.val (wu64 (F_bits_LeadingZeros64 d).val).val).val = d.val * 2 ^ s:=e2
    clear shl e1 e2 h64 hlo hsh
    generalize (wu64 (F_bits_LeadingZeros64 d).val) = sv at *
    generalize ishl .u64 d.val sv.val = y at *
    generalize ishl .u64 lo.val sv.val = ll at *
    generalize ior .u64 (ishl .u64 hi.val sv.val).val (ishr lo (wu64 (64 - sv.val)).val).val = un32 at *
    generalize ishr y 32 = y1 at *
    generalize iand .u64 y.val 4294967295 = y0 at *
    generalize ishr ll 32 = w at *
    generalize iand .u64 ll.val 4294967295 = w0 at *
    have hu : un32.val < y.val:=by rw [hor,hy]; omega
    have D:=Digit.first (u:=un32.val) (w:=w.val) (y:=y.val) (y1:=y1.val) (y0:=y0.val) (by omega) hn.1 hn.2 (by omega) (by omega) (by omega) (by omega) (U64.lo un32) hu
    have hr:=rem_eq un32 y1 hn.1
    have hq:=est un32 y1 hn.1
    have hlt:=rem_lt un32 y1 hn.1 hn.2
    rw [← hr,← hq] at D
    obtain ⟨q',r',k1,k2,k3,k4⟩:=Div64_L0 y sv y1 y0 un32 w w0 (by omega) _ _ _ _ D hlt (Nat.lt_succ_self _)
    have tot : q'.val * y.val + r'.val = (hi.val * 18446744073709551616 + lo.val) * 2 ^ s:=by
      rw [k2,hor,Int.add_mul (hi.val * 18446744073709551616)]
      have : hi.val * 18446744073709551616 * 2 ^ s = hi.val * 2 ^ s * 18446744073709551616:=by rw [Int.mul_assoc,Int.mul_comm 18446744073709551616,← Int.mul_assoc]
      rw [this]
      omega
    rw [hy] at tot k4
    have hre : r'.val = (hi.val * 18446744073709551616 + lo.val - q'.val * d.val) * 2 ^ s:=by
      rw [Int.sub_mul,← tot,← Int.mul_assoc]
      omega
    have hsr : (ishr r' sv.val).val = hi.val * 18446744073709551616 + lo.val - q'.val * d.val:=by
      rw [hse,shr_val r' _ (by omega) (by omega),Int.toNat_natCast,hre,Int.mul_ediv_cancel _ (by omega)]
    refine ⟨q',ishr r' sv.val,k1,by rw [hsr]; omega,?_⟩
    rw [hsr]
    rw [hre] at k4
    exact Int.lt_of_mul_lt_mul_right k4 (Int.le_of_lt hp)
theorem div_unique {q1 r1 q2 r2 d : Int} (e : q1 * d + r1 = q2 * d + r2) (a0 : 0 ≤ r1) (a1 : r1 < d) (b0 : 0 ≤ r2) (b1 : r2 < d) : q1 = q2 ∧ r1 = r2:=by
  have h : q1 = q2:=by
    rcases Int.lt_trichotomy q1 q2 with h | h | h
    · have:=Int.mul_le_mul_of_nonneg_right (by omega : q1 + 1 ≤ q2) (by omega : 0 ≤ d)
      rw [Int.add_mul] at this
      omega
    · exact h
    · have:=Int.mul_le_mul_of_nonneg_right (by omega : q2 + 1 ≤ q1) (by omega : 0 ≤ d)
      rw [Int.add_mul] at this
      omega
  subst h
  exact ⟨rfl,by omega⟩
theorem eq_divided (hi lo d : U64) (hd : 0 < d.val) : I_divided hi lo d = S_l02Divide hi lo d:=by
  have hm : (imod hi d.val).val = hi.val % d.val:=by rw [imod_val,Int.tmod_eq_emod_of_nonneg hi.lo]
  obtain ⟨q1,r1,a1,a2,a3⟩:=sp_Div64 (imod hi d.val) lo d (imod_lt _ _ (by omega))
  obtain ⟨q2,r2,b1,b2,b3⟩:=sp_Divide hi lo d hd
  obtain ⟨h1,h2⟩:=div_unique (a2.trans (by rw [hm,b2])) r1.lo a3 r2.lo b3
  unfold I_divided
  rw [bindP_eq,a1,b1,IK.eq h1,IK.eq h2]
theorem eq_negative (w : Wd) : I_Wide_negative w = S_l02Minus w:=by
  refine Wd.z_mod ?_
  obtain ⟨k,hk⟩:=Minus_z w
  rw [hk]
  have h1:=w.lo.lo
  have h2:=w.lo.hi
  have h5:=w.hi.lo
  have h6:=w.hi.hi
  unfold I_Wide_negative
  simp only [Wd.z,w64_val,wu64_val,sbb_lo_val,sbb_hi_val,cu64_val]
  refine ⟨(((((0 - w.hi.val % 18446744073709551616 - (if (0 : Int) < w.lo.val + 0 then 1 else 0)) % 18446744073709551616 + 9223372036854775808) % 18446744073709551616 - 9223372036854775808) * 18446744073709551616 + (0 - w.lo.val - 0) % 18446744073709551616 + (w.hi.val * 18446744073709551616 + w.lo.val)) / 340282366920938463463374607431768211456) - k,?_⟩
  split <;> omega
end Go.Proofs.YtfhnlkinjbakgaaGreatDoor.Abs
set_option linter.unusedVariables false
set_option linter.unusedSimpArgs false
namespace Go.Proofs.YtfhnlkinjbakgaaGreatDoor.Abs
open Go
theorem Plus_z (a b : Wd) : ∃ k : Int,(S_l02Plus a b).z = a.z + b.z + k * 340282366920938463463374607431768211456:=by
  have h1:=a.lo.lo
  have h2:=a.lo.hi
  have h3:=b.lo.lo
  have h4:=b.lo.hi
  unfold S_l02Plus
  by_cases h : (wu64 (a.lo.val + b.lo.val)).val < a.lo.val
  · simp only [h,decide_true,cond_true]
    simp only [wu64_val] at h
    simp only [Wd.z,w64_val,wu64_val]
    refine ⟨((((a.hi.val + b.hi.val + 9223372036854775808) % 18446744073709551616 - 9223372036854775808 + 1 + 9223372036854775808) % 18446744073709551616 - 9223372036854775808) - (a.hi.val + b.hi.val + 1)) / 18446744073709551616,?_⟩
    omega
  · simp only [h,decide_false,cond_false]
    simp only [wu64_val] at h
    simp only [Wd.z,w64_val,wu64_val]
    refine ⟨(((a.hi.val + b.hi.val + 9223372036854775808) % 18446744073709551616 - 9223372036854775808) - (a.hi.val + b.hi.val)) / 18446744073709551616,?_⟩
    omega
theorem Of_minus : (S_l02Of (c64 (-1))).z = -1:=by decide
theorem adc_z (h l : U64) : ∃ k : Int,Wd.z ⟨w64 (wu64 (h.val + (adc_hi l (cu64 1) (cu64 0)).val)).val,adc_lo l (cu64 1) (cu64 0)⟩ = Wd.z ⟨w64 h.val,l⟩ + 1 + k * 340282366920938463463374607431768211456:=by
  have h1:=l.lo
  have h2:=l.hi
  have h3:=h.lo
  have h4:=h.hi
  simp only [Wd.z,w64_val,wu64_val,adc_lo_val,adc_hi_val,cu64_val]
  refine ⟨((((h.val + (l.val + 1 + 0) / 18446744073709551616) % 18446744073709551616 + 9223372036854775808) % 18446744073709551616 - 9223372036854775808) - ((h.val + 9223372036854775808) % 18446744073709551616 - 9223372036854775808) - (l.val + 1 + 0) / 18446744073709551616) / 18446744073709551616,?_⟩
  omega
theorem eq_WideDiv (w : Wd) (d : I64) (hd : 0 < d.val) : I_WideDiv w d = ((S_l02Div w d).1,(S_l02Div w d).2,true):=by
  have hdh:=d.hi
  have hwd : 0 < (wu64 d.val).val:=by rw [wu64_val]; omega
  have hn : ¬ d.val ≤ 0:=by omega
  unfold I_WideDiv S_l02Div
  simp only [hn,decide_false,cond_false,bindP_eq,eq_negative]
  rw [eq_divided _ _ _ hwd,eq_divided _ _ _ hwd]
  by_cases h : w.hi.val ≥ 0
  · simp only [h,decide_true,cond_true]
  · simp only [h,decide_false,cond_false]
    generalize S_l02Divide (wu64 (S_l02Minus w).hi.val) (S_l02Minus w).lo (wu64 d.val) = p
    obtain ⟨qh,q,r⟩:=p
    simp only
    cases hr : (r.val == 0) with
    | true=>rfl
    | false=>
      simp only [cond_false]
      have e : S_l02Minus ⟨w64 (wu64 (qh.val + (adc_hi q (cu64 1) (cu64 0)).val)).val,adc_lo q (cu64 1) (cu64 0)⟩ = S_l02Plus (S_l02Minus ⟨w64 qh.val,q⟩) (S_l02Of (c64 (-1))):=by
        refine Wd.z_mod ?_
        obtain ⟨k1,e1⟩:=Minus_z ⟨w64 (wu64 (qh.val + (adc_hi q (cu64 1) (cu64 0)).val)).val,adc_lo q (cu64 1) (cu64 0)⟩
        obtain ⟨k2,e2⟩:=adc_z qh q
        obtain ⟨k3,e3⟩:=Plus_z (S_l02Minus ⟨w64 qh.val,q⟩) (S_l02Of (c64 (-1)))
        obtain ⟨k4,e4⟩:=Minus_z ⟨w64 qh.val,q⟩
        refine ⟨k1 - k2 - k3 - k4,?_⟩
        rw [e1,e2,e3,e4,Of_minus]
        omega
      rw [e]
theorem WideDiv_neg (w : Wd) (d : I64) (hd : d.val ≤ 0) : I_WideDiv w d = (⟨c64 0,cu64 0⟩,c64 0,false):=by
  unfold I_WideDiv
  simp only [hd,decide_true,cond_true]
theorem eq_MulDivFloor (a b d : I64) : I_MulDivFloor a b d = S_MulDivFloor a b d:=by
  unfold I_MulDivFloor S_MulDivFloor
  simp only [bindP_eq,eq_WideMul,eq_WideInt]
  by_cases h : d.val ≤ 0
  · rw [WideDiv_neg _ _ h]
    simp only [h,decide_true,cond_true]
    rfl
  · rw [eq_WideDiv _ _ (by omega)]
    simp only [h,decide_false,cond_false]
    rfl
theorem sp_Div (w : Wd) (d : I64) (hd : 0 < d.val) (h1 : -85070591730234615865843651857942052864 ≤ w.z) (h2 : w.z ≤ 85070591730234615865843651857942052864) :
    (S_l02Div w d).1.z * d.val + (S_l02Div w d).2.val = w.z ∧ 0 ≤ (S_l02Div w d).2.val ∧ (S_l02Div w d).2.val < d.val:=by
  have hdh:=d.hi
  have hwd : (wu64 d.val).val = d.val:=by rw [wu64_val]; omega
  have key : ∀ v : Wd,v.hi.val ≥ 0 → ∃ q r : U64,S_l02Divide (wu64 v.hi.val) v.lo (wu64 d.val) = (wu64 (Int.tdiv (wu64 v.hi.val).val (wu64 d.val).val),q,r) ∧ Wd.z ⟨w64 (wu64 (Int.tdiv (wu64 v.hi.val).val (wu64 d.val).val)).val,q⟩ * d.val + r.val = v.z ∧ r.val < d.val ∧ 0 ≤ Wd.z ⟨w64 (wu64 (Int.tdiv (wu64 v.hi.val).val (wu64 d.val).val)).val,q⟩:=fun v hv=>by
    have hvh:=v.hi.hi
    obtain ⟨q,r,e1,e2,e3⟩:=sp_Divide (wu64 v.hi.val) v.lo (wu64 d.val) (by omega)
    have hvv : (wu64 v.hi.val).val = v.hi.val:=by rw [wu64_val]; omega
    rw [hvv,hwd] at e2
    rw [hwd] at e3
    have e4:=Int.emod_add_mul_ediv v.hi.val d.val
    have q0 : 0 ≤ v.hi.val / d.val:=Int.ediv_nonneg hv (by omega)
    have q1 : v.hi.val / d.val ≤ v.hi.val:=Int.ediv_le_self _ hv
    have eq1 : (wu64 (Int.tdiv (wu64 v.hi.val).val (wu64 d.val).val)).val = v.hi.val / d.val:=by
      rw [hvv,hwd,Int.tdiv_eq_ediv_of_nonneg hv,wu64_val]
      omega
    have eq2 : (w64 (wu64 (Int.tdiv (wu64 v.hi.val).val (wu64 d.val).val)).val).val = v.hi.val / d.val:=by
      rw [eq1,w64_val]
      omega
    refine ⟨q,r,e1,?_,e3,?_⟩
    · simp only [Wd.z,eq2]
      rw [Int.add_mul]
      have : v.hi.val / d.val * 18446744073709551616 * d.val = d.val * (v.hi.val / d.val) * 18446744073709551616:=by rw [Int.mul_assoc,Int.mul_comm 18446744073709551616,← Int.mul_assoc,Int.mul_comm (v.hi.val / d.val)]
      rw [this]
      omega
    · simp only [Wd.z,eq2]
      have:=q.lo
      omega
  unfold S_l02Div
  simp only [bindP_eq]
  by_cases h : w.hi.val ≥ 0
  · simp only [h,decide_true,cond_true]
    obtain ⟨q,r,e1,e2,e3,_⟩:=key w h
    rw [e1]
    have r0:=r.lo
    have er : (w64 r.val).val = r.val:=by rw [w64_val]; omega
    rw [er]
    exact ⟨e2,r0,e3⟩
  · simp only [h,decide_false,cond_false]
    obtain ⟨k,hk⟩:=Minus_z w
    have mz : (S_l02Minus w).z = -w.z ∧ (S_l02Minus w).hi.val ≥ 0:=by
      have a1:=(S_l02Minus w).lo.lo
      have a2:=(S_l02Minus w).lo.hi
      have a3:=(S_l02Minus w).hi.lo
      have a4:=(S_l02Minus w).hi.hi
      have b1:=w.lo.lo
      have b2:=w.lo.hi
      simp only [Wd.z] at hk h1 h2 ⊢
      omega
    obtain ⟨q,r,e1,e2,e3,e4⟩:=key _ mz.2
    rw [e1]
    have r0:=r.lo
    have er : (w64 r.val).val = r.val:=by rw [w64_val]; omega
    simp only [er]
    generalize hX : (⟨w64 (wu64 (Int.tdiv (wu64 (S_l02Minus w).hi.val).val (wu64 d.val).val)).val,q⟩ : Wd) = X at *
    have Xle : X.z ≤ 85070591730234615865843651857942052864:=by
      have:=Int.mul_le_mul_of_nonneg_left (by omega : (1 : Int) ≤ d.val) e4
      omega
    have nz : (S_l02Minus X).z = -X.z:=by
      obtain ⟨k2,hk2⟩:=Minus_z X
      have a1:=(S_l02Minus X).lo.lo
      have a2:=(S_l02Minus X).lo.hi
      have a3:=(S_l02Minus X).hi.lo
      have a4:=(S_l02Minus X).hi.hi
      generalize S_l02Minus X = Y at *
      have : Y.z = Y.hi.val * 18446744073709551616 + Y.lo.val:=rfl
      omega
    cases hr : (r.val == 0) with
    | true=>
      have hr' : r.val = 0:=by simpa using hr
      simp only [cond_true,c64_val]
      rw [nz,Int.neg_mul]
      omega
    | false=>
      have hr' : r.val ≠ 0:=by simpa using hr
      simp only [cond_false]
      have dz : (w64 (d.val - r.val)).val = d.val - r.val:=by rw [w64_val]; omega
      have pz : (S_l02Plus (S_l02Minus X) (S_l02Of (c64 (-1)))).z = -X.z - 1:=by
        obtain ⟨k3,hk3⟩:=Plus_z (S_l02Minus X) (S_l02Of (c64 (-1)))
        rw [nz,Of_minus] at hk3
        generalize S_l02Plus (S_l02Minus X) (S_l02Of (c64 (-1))) = Y at *
        have a1:=Y.lo.lo
        have a2:=Y.lo.hi
        have a3:=Y.hi.lo
        have a4:=Y.hi.hi
        have : Y.z = Y.hi.val * 18446744073709551616 + Y.lo.val:=rfl
        omega
      rw [dz,pz,Int.sub_mul,Int.neg_mul,Int.one_mul]
      omega
theorem sp_Int (w : Wd) : (∃ n : I64,n.val = w.z ∧ S_l02Int w = (n,true)) ∨ S_l02Int w = (c64 0,false):=by
  have h1:=w.lo.lo
  have h2:=w.lo.hi
  unfold S_l02Int
  simp only [bindP_eq]
  by_cases h : ((S_l02Of (w64 w.lo.val)).hi.val == w.hi.val && (S_l02Of (w64 w.lo.val)).lo.val == w.lo.val) = true
  · left
    refine ⟨w64 w.lo.val,?_,by rw [h]; rfl⟩
    simp only [Bool.and_eq_true,beq_iff_eq] at h
    have e:=h.1
    unfold S_l02Of at e
    simp only [Wd.z,w64_val]
    by_cases hn : (w64 w.lo.val).val < 0
    · simp only [hn,decide_true,cond_true,c64_val] at e
      rw [w64_val] at hn
      omega
    · simp only [hn,decide_false,cond_false,c64_val] at e
      rw [w64_val] at hn
      omega
  · right
    have : ((S_l02Of (w64 w.lo.val)).hi.val == w.hi.val && (S_l02Of (w64 w.lo.val)).lo.val == w.lo.val) = false:=by simpa using h
    rw [this]
    rfl
theorem End_out (a : I64) (h : a.val < -1152921504606846976 ∨ 1152921504606846976 < a.val) : S_l03End a true = (c64 0,false):=by
  unfold S_l03End
  have : S_l03Ok a = false:=by
    rw [sp_Ok3]
    simp
    omega
  simp [bindP_eq,this]
theorem MulDivFloor_neg (a b d : I64) (h : d.val ≤ 0) : S_MulDivFloor a b d = (c64 0,false):=by
  unfold S_MulDivFloor
  simp only [h,decide_true,cond_true]
theorem eq_FixFloor (a d : I64) : I_FixFloor a d = S_l03Floor a d:=by
  unfold I_FixFloor S_l03Floor
  simp only [bindP_eq,eq_MulDivFloor,eq_fixed]
  by_cases h : d.val ≤ 0
  · simp only [h,decide_true,cond_true]
    rw [MulDivFloor_neg _ _ _ h]
    rfl
  · simp only [h,decide_false,cond_false]
theorem eq_FixCeil (a d : I64) : I_FixCeil a d = S_l03Ceil a d:=by
  unfold I_FixCeil S_l03Ceil I_mulDivCeil
  simp only [bindP_eq,eq_fixed,eq_WideMul,eq_WideInt]
  by_cases h : d.val ≤ 0
  · rw [WideDiv_neg _ _ h]
    simp only [h,decide_true,cond_true]
    rfl
  · have hd : 0 < d.val:=by omega
    have dh:=d.hi
    have ah:=a.hi
    have al:=a.lo
    rw [eq_WideDiv _ _ hd]
    simp only [h,decide_false,cond_false,Bool.not_true]
    unfold S_MulDivFloor
    simp only [h,decide_false,cond_false,bindP_eq]
    have hz:=sp_Mul a (c64 4294967296)
    rw [c64_val] at hz
    obtain ⟨e1,e2,e3⟩:=sp_Div (S_l02Mul a (c64 4294967296)) d hd (by rw [hz]; omega) (by rw [hz]; omega)
    rw [hz] at e1
    generalize S_l02Div (S_l02Mul a (c64 4294967296)) d = p at *
    obtain ⟨q,r⟩:=p
    simp only at *
    rcases sp_Int q with ⟨n,hn,hq⟩ | hq
    · rw [hq]
      rw [← hn] at e1
      simp only [Bool.not_true,cond_false]
      have nl:=n.lo
      have nh:=n.hi
      by_cases hr : r.val = 0
      · have hb : decide (r.val > 0) = false:=by simp [hr]
        have hne : ((w64 (n.val * d.val)).val != (w64 (a.val * 4294967296)).val) = false:=by
          have : n.val * d.val = a.val * 4294967296:=by omega
          simp [this]
        simp only [hb,hne,cond_false]
      · have hb : decide (r.val > 0) = true:=by simp; omega
        have hne : ((w64 (n.val * d.val)).val != (w64 (a.val * 4294967296)).val) = true:=by
          have : n.val * d.val = a.val * 4294967296 - r.val:=by omega
          rw [this]
          simp only [w64_val,bne_iff_ne,ne_eq]
          omega
        simp only [hb,hne,cond_true]
        by_cases hx : n.val = 9223372036854775807
        · have hx' : (n.val == 9223372036854775807) = true:=by simpa using hx
          rw [hx',cond_true]
          have ev : (w64 (n.val + 1)).val = -9223372036854775808:=by rw [w64_val]; omega
          rw [End_out (w64 (n.val + 1)) (by rw [ev]; omega)]
          rfl
        · have hx' : (n.val == 9223372036854775807) = false:=by simpa using hx
          rw [hx',cond_false]
    · rw [hq]
      rfl
theorem make_pair (p q : I64 × Bool) : (bif p.2 then I_bounded p.1 q.1 q.2 else I_bounded p.1 q.1 false) = (bif (!p.2) then S_l04Whole else (bif (!q.2) then S_l04Whole else S_l04Make p.1 q.1)):=by
  obtain ⟨a,b⟩:=p
  obtain ⟨c,d⟩:=q
  cases b with
  | false=>rfl
  | true=>
    cases d with
    | false=>rfl
    | true=>exact eq_bounded a c
theorem eq_Quotient (a b : I64) : I_Quotient a b = S_Quotient a b:=by
  unfold I_Quotient S_Quotient
  simp only [bindP_eq,eq_FixFloor,eq_FixCeil,make_pair,eq_Whole]
  have al:=a.lo
  have ah:=a.hi
  have bl:=b.lo
  have bh:=b.hi
  by_cases h : b.val < 0
  · simp only [h,decide_true,cond_true]
    by_cases h1 : a.val = -9223372036854775808
    · have e1 : (a.val == -9223372036854775808) = true:=by simpa using h1
      have e2 : ((w64 (0 - a.val)).val == -9223372036854775808) = true:=by
        have : (w64 (0 - a.val)).val = -9223372036854775808:=by rw [w64_val]; omega
        simpa using this
      rw [e1,e2]
      simp only [cond_true]
      cases decide ((w64 (0 - b.val)).val < 0) <;> rfl
    · have e1 : (a.val == -9223372036854775808) = false:=by simpa using h1
      have e2 : ((w64 (0 - a.val)).val == -9223372036854775808) = false:=by
        have : (w64 (0 - a.val)).val ≠ -9223372036854775808:=by rw [w64_val]; omega
        simpa using this
      rw [e1,e2]
      simp only [cond_false]
      by_cases h2 : b.val = -9223372036854775808
      · have e3 : (b.val == -9223372036854775808) = true:=by simpa using h2
        have e4 : decide ((w64 (0 - b.val)).val < 0) = true:=by
          have : (w64 (0 - b.val)).val < 0:=by rw [w64_val]; omega
          simpa using this
        simp only [e3,e4,cond_true,cond_false]
      · have e3 : (b.val == -9223372036854775808) = false:=by simpa using h2
        have e4 : decide ((w64 (0 - b.val)).val < 0) = false:=by
          have : ¬ (w64 (0 - b.val)).val < 0:=by rw [w64_val]; omega
          simpa using this
        simp only [e3,e4,cond_true,cond_false]
  · simp only [h,decide_false,cond_false]
theorem Ok4 {a : Iv} (h : S_l04Ok a = true) : -1152921504606846976 < a.lo.val ∧ a.lo.val ≤ a.hi.val ∧ a.hi.val < 1152921504606846976:=by
  unfold S_l04Ok at h
  by_cases q : -1152921504606846976 < a.lo.val
  · by_cases q2 : a.lo.val ≤ a.hi.val
    · by_cases q3 : a.hi.val < 1152921504606846976
      · exact ⟨q,q2,q3⟩
      · simp [q3] at h
    · simp [q2] at h
  · simp [q] at h
theorem Ok4_of {a : Iv} (h : -1152921504606846976 < a.lo.val ∧ a.lo.val ≤ a.hi.val ∧ a.hi.val < 1152921504606846976) : S_l04Ok a = true:=by
  unfold S_l04Ok
  simp only [h.1,h.2.1,h.2.2,decide_true,cond_true]
theorem Make_ok {a b : I64} (h : -1152921504606846976 < a.val ∧ a.val ≤ b.val ∧ b.val < 1152921504606846976) : S_l04Make a b = ⟨a,b⟩:=by
  unfold S_l04Make
  have : S_l04Ok ⟨a,b⟩ = true:=Ok4_of h
  simp only [bindP_eq,this,Bool.not_true,cond_false]
theorem eq_NegI (a : Iv) : I_NegI a = S_NegI a:=by
  unfold I_NegI S_NegI I_IsWhole
  simp only [bindP_eq,eq_Valid,eq_Whole]
  cases h : S_l04Ok a with
  | false=>rfl
  | true=>
    obtain ⟨h1,h2,h3⟩:=Ok4 h
    simp only [Bool.not_true,cond_false]
    rw [Make_ok (by simp only [w64_val]; omega)]
theorem eq_One : I_Integer (c64 1) = S_Integer (c64 1):=by
  unfold I_Integer S_Integer
  simp only [bindP_eq,eq_bounded,eq_Whole]
  rfl
theorem eq_PiI : I_PiI = S_PiI:=by
  unfold I_PiI S_PiI I_TurnI S_l05Turn I_TurnI_r S_l05Turn_r
  simp only [bindP_eq,eq_MulFloor]
  rfl
theorem eq_Arc (s : Iv) (n : I64) : I_affineOf_1__pIv s n = S_MulI s (S_l23Arc n):=by
  unfold I_affineOf_1__pIv S_l23Arc
  simp only [bindP_eq,eq_PiI,eq_Quotient,eq_MulI]
theorem eq_affineOf (s : Sf) : I_affineOf s = S_l23Affine__pSf s:=by
  unfold I_affineOf S_l23Affine__pSf
  simp only [bindP_eq,eq_One,eq_Quotient,eq_AddI,eq_Arc,eq_NegI]
theorem eq_AffineOf (s : Sf) : I_AffineOf s = S_AffineOf s:=by
  unfold I_AffineOf S_AffineOf
  simp only [bindP_eq,eq_ValidShift,eq_affineOf]
theorem eq_SubI (a b : Iv) : I_SubI a b = S_SubI a b:=by
  unfold I_SubI S_SubI
  simp only [bindP_eq,eq_NegI,eq_AddI]
  unfold S_AddI S_NegI
  simp only [bindP_eq]
  cases ha : S_l04Ok a with
  | false=>rfl
  | true=>
    cases hb : S_l04Ok b with
    | false=>rfl
    | true=>
      obtain ⟨h1,h2,h3⟩:=Ok4 hb
      simp only [Bool.not_true,cond_false]
      rw [Make_ok (by simp only [w64_val]; omega)]
      have ho : S_l04Ok ⟨w64 (0 - b.hi.val),w64 (0 - b.lo.val)⟩ = true:=Ok4_of (by simp only [w64_val]; omega)
      simp only [ho,Bool.not_true,cond_false]
      have e1 : w64 (a.lo.val + (w64 (0 - b.hi.val)).val) = w64 (a.lo.val - b.hi.val):=IK.eq (by simp only [w64_val]; omega)
      have e2 : w64 (a.hi.val + (w64 (0 - b.lo.val)).val) = w64 (a.hi.val - b.lo.val):=IK.eq (by simp only [w64_val]; omega)
      rw [e1,e2]
theorem eq_CrossV (a b : Vc) : I_CrossV a b = S_CrossV a b:=by
  unfold I_CrossV S_CrossV
  simp only [eq_MulI,eq_SubI]
theorem eq_HasI (a : Iv) (n : I64) : I_HasI a n = S_HasI a n:=by
  unfold I_HasI S_HasI I_IsWhole S_l04Has
  simp only [bindP_eq,eq_Valid,eq_in]
theorem eq_DivDown (a b : I64) : I_DivDown a b = S_l03DivDown a b:=by
  unfold I_DivDown S_l03DivDown
  simp only [bindP_eq,eq_ValidFix,eq_MulDivFloor,eq_fixed]
  by_cases h : b.val = 0
  · have hb : (b.val == 0) = true:=by simpa using h
    have hn : decide (b.val < 0) = false:=by simp [h]
    simp only [hb,hn,cond_true,cond_false]
    rw [MulDivFloor_neg _ _ _ (by omega)]
    rfl
  · have hb : (b.val == 0) = false:=by simpa using h
    simp only [hb,cond_false]
theorem zero_neg : w64 (0 - (c64 0).val) = c64 0:=IK.eq (by decide)
theorem End_ok (a : I64) (b : Bool) : ((S_l03End a b).2 = true ∧ -1152921504606846976 ≤ (S_l03End a b).1.val ∧ (S_l03End a b).1.val ≤ 1152921504606846976) ∨ S_l03End a b = (c64 0,false):=by
  unfold S_l03End
  simp only [bindP_eq]
  cases b with
  | false=>exact .inr rfl
  | true=>
    cases h : S_l03Ok a with
    | false=>exact .inr rfl
    | true=>
      left
      rw [sp_Ok3,Bool.and_eq_true] at h
      exact ⟨rfl,of_decide_eq_true h.1,of_decide_eq_true h.2⟩
theorem DivDown_ok (a b : I64) : ((S_l03DivDown a b).2 = true ∧ -1152921504606846976 ≤ (S_l03DivDown a b).1.val ∧ (S_l03DivDown a b).1.val ≤ 1152921504606846976) ∨ S_l03DivDown a b = (c64 0,false):=by
  unfold S_l03DivDown
  simp only [bindP_eq]
  cases S_l03Ok a with
  | false=>exact .inr rfl
  | true=>
    cases S_l03Ok b with
    | false=>exact .inr rfl
    | true=>
      cases (b.val == 0) with
      | true=>exact .inr rfl
      | false=>
        cases decide (b.val < 0) with
        | true=>exact End_ok _ _
        | false=>exact End_ok _ _
theorem DivDown_bad {a b : I64} (h : S_l03Ok b = false) : S_l03DivDown a b = (c64 0,false):=by
  unfold S_l03DivDown
  simp only [bindP_eq,h]
  cases S_l03Ok a <;> rfl
theorem eq_DivUp (a b : I64) : I_DivUp a b = S_l03DivUp a b:=by
  unfold I_DivUp S_l03DivUp
  simp only [bindP_eq,eq_ValidFix,eq_DivDown]
  cases S_l03Ok a with
  | false=>rfl
  | true=>
    cases hb : S_l03Ok b with
    | false=>
      rw [DivDown_bad hb]
      simp only [zero_neg]
      rfl
    | true=>rfl
theorem DivUp_ok (a b : I64) : ((S_l03DivUp a b).2 = true ∧ -1152921504606846976 ≤ (S_l03DivUp a b).1.val ∧ (S_l03DivUp a b).1.val ≤ 1152921504606846976) ∨ S_l03DivUp a b = (c64 0,false):=by
  unfold S_l03DivUp
  simp only [bindP_eq]
  cases S_l03Ok a with
  | false=>exact .inr rfl
  | true=>
    rcases DivDown_ok (w64 (0 - a.val)) b with ⟨h,h1,h2⟩ | h
    · left
      simp only [Bool.not_true,cond_false,w64_val] at *
      refine ⟨h,?_⟩
      omega
    · right
      rw [h]
      simp only [zero_neg]
      rfl
theorem eq_DivI (a b : Iv) : I_DivI a b = S_DivI a b:=by
  unfold I_DivI S_DivI I_combine__impl_DivDown__impl_DivUp I_HasI I_IsWhole
  simp only [bindP_eq,eq_areBounded,eq_Whole,eq_DivDown,eq_DivUp,eq_bounded,eq_mn,eq_mx,eq_Valid]
  cases S_l04Ok a with
  | false=>rfl
  | true=>
    cases S_l04Ok b with
    | false=>rfl
    | true=>
      unfold S_l04Has
      simp only [bindP_eq,eq_in,Bool.and_self,Bool.not_true,cond_false]
      cases S_l00In (c64 0) b.lo b.hi with
      | true=>rfl
      | false=>
        simp only [cond_false]
        rcases DivDown_ok a.lo b.lo with ⟨h1,h2,h3⟩ | h1
        · rcases DivUp_ok a.lo b.lo with ⟨k1,k2,k3⟩ | k1
          · simp only [mn_top _ h3,mx_low _ k2,mn_self,mx_self]
          · simp [k1]
        · simp [h1]
theorem eq_InverseM (a : Mt) : I_InverseM a = S_InverseM a:=by
  unfold I_InverseM S_InverseM I_dividedV S_l10Over
  simp only [bindP_eq,eq_CrossV,eq_DotV,eq_HasI,eq_DivI]
  rfl
theorem eq_InvertAffine (a : Af) : I_InvertAffine a = S_InvertAffine a:=by
  unfold I_InvertAffine S_InvertAffine
  simp only [bindP_eq,eq_InverseM,eq_ApplyM,eq_NegI]
end Go.Proofs.YtfhnlkinjbakgaaGreatDoor.Abs
set_option linter.unusedVariables false
set_option linter.unusedSimpArgs false
namespace Go.Proofs.YtfhnlkinjbakgaaGreatDoor.Abs
open Go
theorem Int_in (w : Wd) (h1 : -9223372036854775808 ≤ w.z) (h2 : w.z ≤ 9223372036854775807) : ∃ n : I64,n.val = w.z ∧ S_l02Int w = (n,true):=by
  have a1:=w.lo.lo
  have a2:=w.lo.hi
  have hz : w.z = w.hi.val * 18446744073709551616 + w.lo.val:=rfl
  refine ⟨w64 w.lo.val,by rw [w64_val]; omega,?_⟩
  unfold S_l02Int S_l02Of
  simp only [bindP_eq]
  by_cases hn : (w64 w.lo.val).val < 0
  · simp only [hn,decide_true,cond_true,c64_val,wu64_val]
    rw [w64_val] at hn
    have e1 : ((-1 : Int) == w.hi.val) = true:=by simp; omega
    have e2 : ((w64 w.lo.val).val % 18446744073709551616 == w.lo.val) = true:=by rw [w64_val]; simp; omega
    simp only [e1,e2]
    rfl
  · simp only [hn,decide_false,cond_false,c64_val,wu64_val]
    rw [w64_val] at hn
    have e1 : ((0 : Int) == w.hi.val) = true:=by simp; omega
    have e2 : ((w64 w.lo.val).val % 18446744073709551616 == w.lo.val) = true:=by rw [w64_val]; simp; omega
    simp only [e1,e2]
    rfl
theorem ior_comm (k : IntKind) (x y : Int) : ior k x y = ior k y x:=by
  unfold ior
  refine IK.eq ?_
  show k.wrap _ = k.wrap _
  rw [BitVec.or_comm]
theorem Shift_z32 (w : Wd) : (S_l02Shift w (c64 32)).z = w.z / 4294967296:=by
  have a1:=w.lo.lo
  have a2:=w.lo.hi
  unfold S_l02Shift
  have e0 : ((c64 32).val == 0) = false:=by decide
  have e1 : decide ((c64 32).val < 64) = true:=by decide
  have e2 : (wu64 (c64 32).val).val = 32:=by decide
  have e3 : (wu64 (w64 (64 - (c64 32).val)).val).val = 32:=by decide
  simp only [e0,e1,e2,e3,cond_true,cond_false]
  have s1 : (ishr w.hi 32).val = w.hi.val / 4294967296:=by rw [ishr_val,Int.fdiv_eq_ediv_of_nonneg _ (by decide)]; rfl
  have s2 : (ishr w.lo 32).val = w.lo.val / 4294967296:=shr32 w.lo
  have s3 : (ishl .u64 (wu64 w.hi.val).val 32).val = (w.hi.val % 18446744073709551616 * 4294967296) % 18446744073709551616:=by
    show IntKind.u64.wrap ((wu64 w.hi.val).val * 2 ^ 32) = _
    rw [IntKind.wrap_u64,wu64_val]
    rfl
  have s4 : (ior .u64 (ishr w.lo 32).val (ishl .u64 (wu64 w.hi.val).val 32).val).val = (w.hi.val % 18446744073709551616 * 4294967296) % 18446744073709551616 + w.lo.val / 4294967296:=by
    rw [ior_comm,s2,s3]
    exact or_add 32 _ _ (by omega) (by omega) (by rw [show (2 : Int) ^ 32 = 4294967296 by decide]; omega) (by omega) (by rw [show (2 : Int) ^ 32 = 4294967296 by decide]; omega) (by decide)
  show (ishr w.hi 32).val * 18446744073709551616 + (ior .u64 (ishr w.lo 32).val (ishl .u64 (wu64 w.hi.val).val 32).val).val = (w.hi.val * 18446744073709551616 + w.lo.val) / 4294967296
  rw [s1,s4]
  omega
theorem Ok3_of {a : I64} (h1 : -1152921504606846976 ≤ a.val) (h2 : a.val ≤ 1152921504606846976) : S_l03Ok a = true:=by
  rw [sp_Ok3]; simp [h1,h2]
theorem MulDown_val {a b : I64} (ha : S_l03Ok a = true) (hb : S_l03Ok b = true) (h1 : -1152921504606846976 ≤ a.val * b.val / 4294967296) (h2 : a.val * b.val / 4294967296 ≤ 1152921504606846976) :
    ∃ r : I64,S_l03MulDown a b = (r,true) ∧ r.val = a.val * b.val / 4294967296:=by
  have hz : (S_l02Shift (S_l02Mul a b) (c64 32)).z = a.val * b.val / 4294967296:=by rw [Shift_z32,sp_Mul]
  obtain ⟨n,e1,e2⟩:=Int_in (S_l02Shift (S_l02Mul a b) (c64 32)) (by rw [hz]; omega) (by rw [hz]; omega)
  refine ⟨n,?_,by rw [e1,hz]⟩
  have hn : S_l03Ok n = true:=Ok3_of (by rw [e1,hz]; exact h1) (by rw [e1,hz]; exact h2)
  unfold S_l03MulDown S_MulFloor S_l03End
  have e3 : S_l00In (c64 32) (c64 0) (c64 126) = true:=by decide
  simp only [bindP_eq,ha,hb,e2,e3,hn,Bool.not_true,cond_false]
theorem MulUp_val {a b : I64} (ha : S_l03Ok a = true) (hb : S_l03Ok b = true) (h1 : -1152921504606846976 ≤ -(-(a.val * b.val) / 4294967296)) (h2 : -(-(a.val * b.val) / 4294967296) ≤ 1152921504606846976) :
    ∃ r : I64,S_l03MulUp a b = (r,true) ∧ r.val = -(-(a.val * b.val) / 4294967296):=by
  have ha':=ha
  rw [sp_Ok3] at ha'
  simp only [Bool.and_eq_true,decide_eq_true_eq] at ha'
  have en : (w64 (0 - a.val)).val = -a.val:=by rw [w64_val]; omega
  obtain ⟨r,e1,e2⟩:=MulDown_val (a:=w64 (0 - a.val)) (b:=b) (Ok3_of (by omega) (by omega)) hb (by rw [en,Int.neg_mul]; omega) (by rw [en,Int.neg_mul]; omega)
  rw [en,Int.neg_mul] at e2
  refine ⟨w64 (0 - r.val),?_,by rw [w64_val]; omega⟩
  unfold S_l03MulUp
  simp only [bindP_eq,e1,ha,Bool.not_true,cond_false]
theorem mn_spec (a b : I64) : (mn a b).val ≤ a.val ∧ (mn a b).val ≤ b.val ∧ ((mn a b).val = a.val ∨ (mn a b).val = b.val):=by
  rw [mn_val]; split <;> omega
theorem mx_spec (a b : I64) : a.val ≤ (mx a b).val ∧ b.val ≤ (mx a b).val ∧ ((mx a b).val = a.val ∨ (mx a b).val = b.val):=by
  rw [mx_val]; split <;> omega
theorem Ok3_lo {a : Iv} (h : S_l04Ok a = true) : S_l03Ok a.lo = true:=by
  obtain ⟨h1,h2,h3⟩:=Ok4 h
  exact Ok3_of (by omega) (by omega)
theorem Ok3_hi {a : Iv} (h : S_l04Ok a = true) : S_l03Ok a.hi = true:=by
  obtain ⟨h1,h2,h3⟩:=Ok4 h
  exact Ok3_of (by omega) (by omega)
theorem MulI_in {x y : Iv} (hx : S_l04Ok x = true) (hy : S_l04Ok y = true) {L U : Int} (hL : -1152921504606846976 < L) (hU : U < 1152921504606846976)
    (p1 : L * 4294967296 ≤ x.lo.val * y.lo.val ∧ x.lo.val * y.lo.val ≤ U * 4294967296) (p2 : L * 4294967296 ≤ x.lo.val * y.hi.val ∧ x.lo.val * y.hi.val ≤ U * 4294967296)
    (p3 : L * 4294967296 ≤ x.hi.val * y.lo.val ∧ x.hi.val * y.lo.val ≤ U * 4294967296) (p4 : L * 4294967296 ≤ x.hi.val * y.hi.val ∧ x.hi.val * y.hi.val ≤ U * 4294967296) :
    ∃ z : Iv,S_MulI x y = z ∧ S_l04Ok z = true ∧ L ≤ z.lo.val ∧ z.hi.val ≤ U ∧ (z.lo.val * 4294967296 ≤ x.lo.val * y.lo.val ∧ x.lo.val * y.lo.val ≤ z.hi.val * 4294967296) ∧ (z.lo.val * 4294967296 ≤ x.lo.val * y.hi.val ∧ x.lo.val * y.hi.val ≤ z.hi.val * 4294967296)
      ∧ (z.lo.val * 4294967296 ≤ x.hi.val * y.lo.val ∧ x.hi.val * y.lo.val ≤ z.hi.val * 4294967296) ∧ (z.lo.val * 4294967296 ≤ x.hi.val * y.hi.val ∧ x.hi.val * y.hi.val ≤ z.hi.val * 4294967296):=by
  have k1:=Ok3_lo hx
  have k2:=Ok3_hi hx
  have k3:=Ok3_lo hy
  have k4:=Ok3_hi hy
  obtain ⟨d1,d1e,d1v⟩:=MulDown_val k1 k3 (by omega) (by omega)
  obtain ⟨d2,d2e,d2v⟩:=MulDown_val k1 k4 (by omega) (by omega)
  obtain ⟨d3,d3e,d3v⟩:=MulDown_val k2 k3 (by omega) (by omega)
  obtain ⟨d4,d4e,d4v⟩:=MulDown_val k2 k4 (by omega) (by omega)
  obtain ⟨u1,u1e,u1v⟩:=MulUp_val k1 k3 (by omega) (by omega)
  obtain ⟨u2,u2e,u2v⟩:=MulUp_val k1 k4 (by omega) (by omega)
  obtain ⟨u3,u3e,u3v⟩:=MulUp_val k2 k3 (by omega) (by omega)
  obtain ⟨u4,u4e,u4v⟩:=MulUp_val k2 k4 (by omega) (by omega)
  generalize x.lo.val * y.lo.val = q1 at *
  generalize x.lo.val * y.hi.val = q2 at *
  generalize x.hi.val * y.lo.val = q3 at *
  generalize x.hi.val * y.hi.val = q4 at *
  have m0:=mn_spec (c64 1152921504606846976) d1
  have m1:=mn_spec (mn (c64 1152921504606846976) d1) d2
  have m2:=mn_spec (mn (mn (c64 1152921504606846976) d1) d2) d3
  have m3:=mn_spec (mn (mn (mn (c64 1152921504606846976) d1) d2) d3) d4
  have n0:=mx_spec (c64 (-1152921504606846976)) u1
  have n1:=mx_spec (mx (c64 (-1152921504606846976)) u1) u2
  have n2:=mx_spec (mx (mx (c64 (-1152921504606846976)) u1) u2) u3
  have n3:=mx_spec (mx (mx (mx (c64 (-1152921504606846976)) u1) u2) u3) u4
  rw [c64_val] at m0 n0
  unfold S_MulI
  simp only [bindP_eq,hx,hy,d1e,d2e,d3e,d4e,u1e,u2e,u3e,u4e,Bool.not_true,cond_false,eq_mn,eq_mx]
  generalize mn (mn (mn (mn (c64 1152921504606846976) d1) d2) d3) d4 = M at *
  generalize mx (mx (mx (mx (c64 (-1152921504606846976)) u1) u2) u3) u4 = N at *
  have hb : -1152921504606846976 < M.val ∧ M.val ≤ N.val ∧ N.val < 1152921504606846976:=by omega
  rw [Make_ok hb]
  refine ⟨_,rfl,Ok4_of hb,?_,?_,?_,?_,?_,?_⟩
  all_goals (try simp only)
  all_goals omega
theorem c64_v (n : Int) (h : IntKind.i64.min ≤ n ∧ n ≤ IntKind.i64.max) : (c64 n h).val = n:=by have:=c64_val n h; omega
theorem bindP_e {α β : Type} (x : α) (φ : α → β) : bindP x φ = φ x:=Eq.trans rfl rfl
theorem cond_t {α : Type} (x y : α) : cond true x y = x:=Eq.trans rfl rfl
theorem cond_f {α : Type} (x y : α) : cond false x y = y:=Eq.trans rfl rfl
end Go.Proofs.YtfhnlkinjbakgaaGreatDoor.Abs
set_option linter.unusedVariables false
set_option linter.unusedSimpArgs false
namespace Go.Proofs.YtfhnlkinjbakgaaGreatDoor.Abs
open Go
theorem whole_bad : S_l04Ok S_l04Whole = false:=by decide
end Go.Proofs.YtfhnlkinjbakgaaGreatDoor.Abs
set_option linter.unusedVariables false
set_option linter.unusedSimpArgs false
namespace Go.Proofs.YtfhnlkinjbakgaaGreatDoor.Abs
open Go
theorem neg_val {a : Iv} (h : S_l04Ok a = true) : ∃ z : Iv,S_NegI a = z ∧ S_l04Ok z = true ∧ z.lo.val = -a.hi.val ∧ z.hi.val = -a.lo.val:=by
  obtain ⟨h1,h2,h3⟩:=Ok4 h
  have e1 : (w64 (0 - a.hi.val)).val = -a.hi.val:=by rw [w64_val]; omega
  have e2 : (w64 (0 - a.lo.val)).val = -a.lo.val:=by rw [w64_val]; omega
  have hb : -1152921504606846976 < (w64 (0 - a.hi.val)).val ∧ (w64 (0 - a.hi.val)).val ≤ (w64 (0 - a.lo.val)).val ∧ (w64 (0 - a.lo.val)).val < 1152921504606846976:=by omega
  refine ⟨⟨w64 (0 - a.hi.val),w64 (0 - a.lo.val)⟩,?_,Ok4_of hb,e1,e2⟩
  unfold S_NegI
  simp only [bindP_e,h,Bool.not_true,cond_f]
  rw [Make_ok hb]
end Go.Proofs.YtfhnlkinjbakgaaGreatDoor.Abs
set_option linter.unusedVariables false
set_option linter.unusedSimpArgs false
namespace Go.Proofs.YtfhnlkinjbakgaaGreatDoor.Abs
open Go
def V (q : Pt) (r : Pn × I64) : Prop:=(r.2.val != 0) = false → S_l11Ok q = true
theorem cond_both {α : Type} {p : α → Prop} {c : Bool} {a b : α} (ha : p a) (hb : p b) : p (cond c a b):=by
  cases c
  · exact hb
  · exact ha
theorem bindP_all {α β : Type} {p : β → Prop} {x : α} {φ : α → β} (h : ∀ r,p (φ r)) : p (bindP x φ):=h x
theorem listAt_all {p : I64 → Prop} (L : List I64) (h : ∀ x ∈ L,p x) (h0 : p (c64 0)) (i : I64) : p (listAt L i):=by
  unfold listAt
  rw [List.getD_eq_getElem?_getD]
  cases hx : L[i.val.toNat]? with
  | none=>exact h0
  | some x=>exact h x (List.mem_of_getElem? hx)
def nr (m : Int) (x : I64) : Prop:=-m ≤ x.val ∧ x.val ≤ m
theorem nr_mod {m : I64} (h1 : 1 ≤ m.val) (h2 : m.val < 9223372036854775807) (x : I64) : nr m.val (imod x (w64 (m.val + 1)).val):=by
  have e : (w64 (m.val + 1)).val = m.val + 1:=by rw [w64_val]; omega
  unfold nr
  rw [e,imod_val]
  have g1 : Int.tmod x.val (m.val + 1) < m.val + 1:=Int.tmod_lt_of_pos _ (by omega)
  have g2 : Int.tmod (-x.val) (m.val + 1) < m.val + 1:=Int.tmod_lt_of_pos _ (by omega)
  rw [Int.neg_tmod] at g2
  omega
theorem nr_shr {m : Int} {x : I64} (h : nr m x) (k : Int) : nr m (ishr x k):=by
  unfold nr at *
  rw [ishr_val]
  generalize min k.toNat IntKind.i64.bits = n
  have hp : (0 : Int) < 2 ^ n:=Int.pow_pos (by omega)
  rw [Int.fdiv_eq_ediv_of_nonneg _ (Int.le_of_lt hp)]
  by_cases hv : 0 ≤ x.val
  · have q1 : x.val / 2 ^ n ≤ x.val:=Int.ediv_le_self _ hv
    have q2 : 0 ≤ x.val / 2 ^ n:=Int.ediv_nonneg hv (Int.le_of_lt hp)
    omega
  · have q1 : x.val ≤ x.val / 2 ^ n:=by
      rw [Int.le_ediv_iff_mul_le hp]
      have : x.val * 2 ^ n ≤ x.val * 1:=Int.mul_le_mul_of_nonpos_left (by omega) (by omega)
      omega
    have q2 : x.val / 2 ^ n < 0:=by
      rw [Int.ediv_lt_iff_lt_mul hp]
      omega
    omega
theorem nr_neg {m : Int} {x : I64} (hm : m < 9223372036854775807) (h : nr m x) : nr m (w64 (0 - x.val)):=by
  unfold nr at *
  rw [w64_val]
  omega
theorem nr_list {m : I64} (h1 : 1 ≤ m.val) (i : I64) : nr m.val (listAt [c64 0,c64 1,m,w64 (Int.tdiv m.val 2)] i):=by
  refine listAt_all _ (fun x hx=>?_) (by unfold nr; rw [c64_v]; omega) i
  have hh:=m.hi
  simp only [List.mem_cons,List.not_mem_nil,or_false] at hx
  rcases hx with rfl | rfl | rfl | rfl
  · unfold nr; rw [c64_v]; omega
  · unfold nr; rw [c64_v]; omega
  · exact ⟨by omega,Int.le_refl _⟩
  · unfold nr
    rw [Int.tdiv_eq_ediv_of_nonneg (by omega),w64_val]
    omega
theorem number_in (C : Cd) (b : Src) {m : I64} (h1 : 1 ≤ m.val) (h2 : m.val < 9223372036854775807) : nr m.val (S_l05Number__src C b m).1:=by
  unfold S_l05Number__src
  refine bindP_all (p:=fun r : I64 × Src=>nr m.val r.1) fun r1=>bindP_all (p:=fun r : I64 × Src=>nr m.val r.1) fun r2=>bindP_all (p:=fun r : I64 × Src=>nr m.val r.1) fun r3=>bindP_all (p:=fun r : I64 × Src=>nr m.val r.1) fun r4=>bindP_all (p:=fun r : I64 × Src=>nr m.val r.1) fun r5=>bindP_all (p:=fun r : I64 × Src=>nr m.val r.1) fun r6=>bindP_all (p:=fun r : I64 × Src=>nr m.val r.1) fun r7=>bindP_all (p:=fun r : I64 × Src=>nr m.val r.1) fun r8=>?_
  have hx : ∀ x : I64,nr m.val (imod x (w64 (m.val + 1)).val):=nr_mod h1 h2
  refine cond_both (p:=fun r : I64 × Src=>nr m.val r.1) ?_ (cond_both (p:=fun r : I64 × Src=>nr m.val r.1) ?_ ?_)
  · refine bindP_all (p:=fun r : I64 × Src=>nr m.val r.1) fun r9=>bindP_all (p:=fun r : I64 × Src=>nr m.val r.1) fun r10=>cond_both (p:=fun r : I64 × Src=>nr m.val r.1) ?_ ?_
    · exact nr_neg h2 (nr_shr (hx _) _)
    · exact nr_shr (hx _) _
  · unfold S_l00Src_among__src__s4
    rw [bindP_e,bindP_e,bindP_e]
    refine cond_both (p:=fun r : I64 × Src=>nr m.val r.1) ?_ ?_
    · exact nr_neg h2 (nr_list h1 _)
    · exact nr_list h1 _
  · refine bindP_all (p:=fun r : I64 × Src=>nr m.val r.1) fun r9=>cond_both (p:=fun r : I64 × Src=>nr m.val r.1) ?_ ?_
    · exact nr_neg h2 (hx _)
    · exact hx _
end Go.Proofs.YtfhnlkinjbakgaaGreatDoor.Abs
set_option linter.unusedVariables false
set_option linter.unusedSimpArgs false
namespace Go.Proofs.YtfhnlkinjbakgaaGreatDoor.Abs
open Go
theorem Int_true (w : Wd) (h : (S_l02Int w).2 = true) : (S_l02Int w).1.val = w.z:=by
  have a1:=w.lo.lo
  have a2:=w.lo.hi
  have hz : w.z = w.hi.val * 18446744073709551616 + w.lo.val:=rfl
  rw [hz]
  unfold S_l02Int S_l02Of at h ⊢
  simp only [bindP_e] at h ⊢
  have e:=w64_val w.lo.val
  generalize w64 w.lo.val = x at *
  by_cases hn : x.val < 0
  · simp only [hn,decide_true,cond_t,c64_v,wu64_val] at h ⊢
    cases q : (((-1 : Int) == w.hi.val) && (x.val % 18446744073709551616 == w.lo.val)) with
    | false=>rw [q] at h; simp only [Bool.not_false,cond_t] at h; cases h
    | true=>
      simp only [Bool.not_true,cond_f]
      simp only [Bool.and_eq_true,beq_iff_eq] at q
      omega
  · simp only [hn,decide_false,cond_f,c64_v,wu64_val] at h ⊢
    cases q : (((0 : Int) == w.hi.val) && (x.val % 18446744073709551616 == w.lo.val)) with
    | false=>rw [q] at h; simp only [Bool.not_false,cond_t] at h; cases h
    | true=>
      simp only [Bool.not_true,cond_f]
      simp only [Bool.and_eq_true,beq_iff_eq] at q
      omega
theorem End_true {a : I64} {c : Bool} (h : (S_l03End a c).2 = true) : c = true ∧ S_l03Ok a = true ∧ (S_l03End a c).1 = a:=by
  unfold S_l03End at h ⊢
  simp only [bindP_e] at h ⊢
  cases c with
  | false=>simp only [Bool.not_false,cond_t] at h; cases h
  | true=>
    simp only [Bool.not_true,cond_f] at h ⊢
    cases q : S_l03Ok a with
    | false=>rw [q] at h; simp only [Bool.not_false,cond_t] at h; cases h
    | true=>rw [q] at h; simp only [Bool.not_true,cond_f] at h ⊢; exact ⟨trivial,trivial,trivial⟩
theorem Ok3_p {a : I64} (h : S_l03Ok a = true) : -1152921504606846976 ≤ a.val ∧ a.val ≤ 1152921504606846976:=by
  rw [sp_Ok3] at h
  simp only [Bool.and_eq_true,decide_eq_true_eq] at h
  exact h
theorem MulDown_true {a b : I64} (h : (S_l03MulDown a b).2 = true) : S_l03Ok a = true ∧ S_l03Ok b = true ∧ S_l03Ok (S_l03MulDown a b).1 = true ∧ (S_l03MulDown a b).1.val = a.val * b.val / 4294967296:=by
  unfold S_l03MulDown S_MulFloor at h ⊢
  simp only [bindP_e] at h ⊢
  cases ha : S_l03Ok a with
  | false=>rw [ha] at h; simp only [Bool.not_false,cond_t] at h; cases h
  | true=>
    cases hb : S_l03Ok b with
    | false=>rw [ha,hb] at h; simp only [Bool.not_true,Bool.not_false,cond_t,cond_f] at h; cases h
    | true=>
      have e3 : S_l00In (c64 32) (c64 0) (c64 126) = true:=by decide
      simp only [ha,hb,e3,Bool.not_true,cond_f] at h ⊢
      obtain ⟨k1,k2,k3⟩:=End_true h
      have hv:=Int_true _ k1
      rw [Shift_z32,sp_Mul] at hv
      rw [k3]
      exact ⟨trivial,trivial,k2,hv⟩
theorem MulUp_true {a b : I64} (h : (S_l03MulUp a b).2 = true) : S_l03Ok a = true ∧ S_l03Ok b = true ∧ S_l03Ok (S_l03MulUp a b).1 = true ∧ (S_l03MulUp a b).1.val = -(-(a.val * b.val) / 4294967296):=by
  unfold S_l03MulUp at h ⊢
  simp only [bindP_e] at h ⊢
  cases ha : S_l03Ok a with
  | false=>rw [ha] at h; simp only [Bool.not_false,cond_t] at h; cases h
  | true=>
    cases hd : (S_l03MulDown (w64 (0 - a.val)) b).2 with
    | false=>rw [ha,hd] at h; simp only [Bool.not_true,Bool.not_false,cond_t,cond_f] at h; cases h
    | true=>
      obtain ⟨_,k2,k3,k4⟩:=MulDown_true hd
      have pa:=Ok3_p ha
      have pr:=Ok3_p k3
      have en : (w64 (0 - a.val)).val = -a.val:=by rw [w64_val]; omega
      rw [en,Int.neg_mul] at k4
      simp only [ha,hd,Bool.not_true,cond_f]
      have er : (w64 (0 - (S_l03MulDown (w64 (0 - a.val)) b).1.val)).val = -(S_l03MulDown (w64 (0 - a.val)) b).1.val:=by rw [w64_val]; omega
      exact ⟨trivial,k2,Ok3_of (by rw [er]; omega) (by rw [er]; omega),by rw [er,k4]⟩
theorem MulDivFloor_true {a b : I64} (ha : S_l03Ok a = true) (hb : 0 < b.val) (h : (S_MulDivFloor a (c64 4294967296) b).2 = true) : (S_MulDivFloor a (c64 4294967296) b).1.val = a.val * 4294967296 / b.val:=by
  have ha':=Ok3_p ha
  have hm : (S_l02Mul a (c64 4294967296)).z = a.val * 4294967296:=by rw [sp_Mul,c64_v]
  obtain ⟨s1,s2,s3⟩:=sp_Div (S_l02Mul a (c64 4294967296)) b hb (by rw [hm]; omega) (by rw [hm]; omega)
  rw [hm] at s1
  have hq : (S_l02Div (S_l02Mul a (c64 4294967296)) b).1.z = a.val * 4294967296 / b.val:=by
    generalize (S_l02Div (S_l02Mul a (c64 4294967296)) b).1.z = q at *
    generalize (S_l02Div (S_l02Mul a (c64 4294967296)) b).2.val = r at *
    rw [← s1,Int.mul_comm q,Int.add_comm,Int.add_mul_ediv_left _ _ (by omega),Int.ediv_eq_zero_of_lt s2 s3,Int.zero_add]
  unfold S_MulDivFloor at h ⊢
  have e5 : decide (b.val ≤ 0) = false:=decide_eq_false (by omega)
  simp only [bindP_e,e5,cond_f] at h ⊢
  rw [Int_true _ h,hq]
theorem DivDown_true {a b : I64} (h : (S_l03DivDown a b).2 = true) : S_l03Ok a = true ∧ S_l03Ok b = true ∧ b.val ≠ 0 ∧ S_l03Ok (S_l03DivDown a b).1 = true ∧
    (0 < b.val → (S_l03DivDown a b).1.val = a.val * 4294967296 / b.val) ∧ (b.val < 0 → (S_l03DivDown a b).1.val = -a.val * 4294967296 / -b.val):=by
  unfold S_l03DivDown at h ⊢
  simp only [bindP_e] at h ⊢
  cases ha : S_l03Ok a with
  | false=>rw [ha] at h; simp only [Bool.not_false,cond_t] at h; cases h
  | true=>
    cases hb : S_l03Ok b with
    | false=>rw [ha,hb] at h; simp only [Bool.not_true,Bool.not_false,cond_t,cond_f] at h; cases h
    | true=>
      have pa:=Ok3_p ha
      have pb:=Ok3_p hb
      have ea : (w64 (0 - a.val)).val = -a.val:=by rw [w64_val]; omega
      have eb : (w64 (0 - b.val)).val = -b.val:=by rw [w64_val]; omega
      by_cases hz : b.val = 0
      · have e : (b.val == 0) = true:=by simp [hz]
        simp only [ha,hb,e,Bool.not_true,cond_f,cond_t] at h
        cases h
      · have e : (b.val == 0) = false:=by simp [hz]
        by_cases hn : b.val < 0
        · have d : decide (b.val < 0) = true:=decide_eq_true hn
          simp only [ha,hb,e,d,Bool.not_true,cond_f,cond_t] at h ⊢
          obtain ⟨k1,k2,k3⟩:=End_true h
          have hv:=MulDivFloor_true (a:=w64 (0 - a.val)) (b:=w64 (0 - b.val)) (Ok3_of (by rw [ea]; omega) (by rw [ea]; omega)) (by rw [eb]; omega) k1
          rw [ea,eb] at hv
          rw [k3]
          exact ⟨trivial,trivial,hz,k2,fun h=>by omega,fun _=>hv⟩
        · have d : decide (b.val < 0) = false:=decide_eq_false hn
          simp only [ha,hb,e,d,Bool.not_true,cond_f] at h ⊢
          obtain ⟨k1,k2,k3⟩:=End_true h
          have hv:=MulDivFloor_true ha (by omega) k1
          rw [k3]
          exact ⟨trivial,trivial,hz,k2,fun _=>hv,fun h=>by omega⟩
theorem DivUp_true {a b : I64} (h : (S_l03DivUp a b).2 = true) : S_l03Ok (S_l03DivUp a b).1 = true ∧
    (0 < b.val → (S_l03DivUp a b).1.val = -(-a.val * 4294967296 / b.val)) ∧ (b.val < 0 → (S_l03DivUp a b).1.val = -(a.val * 4294967296 / -b.val)):=by
  unfold S_l03DivUp at h ⊢
  simp only [bindP_e] at h ⊢
  cases ha : S_l03Ok a with
  | false=>rw [ha] at h; simp only [Bool.not_false,cond_t] at h; cases h
  | true=>
    simp only [ha,Bool.not_true,cond_f] at h ⊢
    have pa:=Ok3_p ha
    have ea : (w64 (0 - a.val)).val = -a.val:=by rw [w64_val]; omega
    obtain ⟨_,_,_,k4,k5,k6⟩:=DivDown_true h
    have pr:=Ok3_p k4
    have er : (w64 (0 - (S_l03DivDown (w64 (0 - a.val)) b).1.val)).val = -(S_l03DivDown (w64 (0 - a.val)) b).1.val:=by rw [w64_val]; omega
    refine ⟨Ok3_of (by rw [er]; omega) (by rw [er]; omega),fun hb=>?_,fun hb=>?_⟩
    · rw [er,k5 hb,ea]
    · rw [er,k6 hb,ea,Int.neg_neg]
theorem div_bounds {q b : Int} (hb : 0 < b) : q / b * b ≤ q ∧ q ≤ -(-q / b) * b:=by
  have a2 : -q / b * b ≤ -q:=Int.ediv_mul_le _ (by omega)
  have a3 : q / b * b ≤ q:=Int.ediv_mul_le _ (by omega)
  exact ⟨a3,by rw [Int.neg_mul]; omega⟩
theorem Make_out {a b : I64} (h : S_l04Ok (S_l04Make a b) = true) : S_l04Make a b = ⟨a,b⟩:=by
  unfold S_l04Make at h ⊢
  simp only [bindP_e] at h ⊢
  cases q : S_l04Ok ⟨a,b⟩ with
  | false=>rw [q] at h; simp only [Bool.not_false,cond_t,whole_bad] at h; cases h
  | true=>simp only [Bool.not_true,cond_f]
theorem min_out (a b : I64) : (S_l00Min a b).val ≤ a.val ∧ (S_l00Min a b).val ≤ b.val:=by
  unfold S_l00Min
  by_cases h : a.val < b.val
  · rw [decide_eq_true h,cond_t]; omega
  · rw [decide_eq_false h,cond_f]; omega
theorem max_out (a b : I64) : a.val ≤ (S_l00Max a b).val ∧ b.val ≤ (S_l00Max a b).val:=by
  unfold S_l00Max
  by_cases h : a.val > b.val
  · rw [decide_eq_true h,cond_t]; omega
  · rw [decide_eq_false h,cond_f]; omega
theorem max_is (a b : I64) : (S_l00Max a b).val = a.val ∨ (S_l00Max a b).val = b.val:=by
  unfold S_l00Max
  by_cases h : a.val > b.val
  · rw [decide_eq_true h,cond_t]; exact .inl rfl
  · rw [decide_eq_false h,cond_f]; exact .inr rfl
theorem min_is (a b : I64) : (S_l00Min a b).val = a.val ∨ (S_l00Min a b).val = b.val:=by
  unfold S_l00Min
  by_cases h : a.val < b.val
  · rw [decide_eq_true h,cond_t]; exact .inl rfl
  · rw [decide_eq_false h,cond_f]; exact .inr rfl
theorem AddI_out {a b : Iv} (h : S_l04Ok (S_AddI a b) = true) : S_l04Ok a = true ∧ S_l04Ok b = true ∧ (S_AddI a b).lo.val = a.lo.val + b.lo.val ∧ (S_AddI a b).hi.val = a.hi.val + b.hi.val:=by
  unfold S_AddI at h ⊢
  simp only [bindP_e] at h ⊢
  cases ha : S_l04Ok a with
  | false=>rw [ha] at h; simp only [Bool.not_false,cond_t,whole_bad] at h; cases h
  | true=>
    cases hb : S_l04Ok b with
    | false=>rw [ha,hb] at h; simp only [Bool.not_true,Bool.not_false,cond_t,cond_f,whole_bad] at h; cases h
    | true=>
      simp only [ha,hb,Bool.not_true,cond_f] at h ⊢
      have pa:=Ok4p ha
      have pb:=Ok4p hb
      rw [Make_out h]
      refine ⟨trivial,trivial,?_,?_⟩
      · show (w64 (a.lo.val + b.lo.val)).val = _; rw [w64_val]; omega
      · show (w64 (a.hi.val + b.hi.val)).val = _; rw [w64_val]; omega
theorem SubI_out {a b : Iv} (h : S_l04Ok (S_SubI a b) = true) : S_l04Ok a = true ∧ S_l04Ok b = true ∧ (S_SubI a b).lo.val = a.lo.val - b.hi.val ∧ (S_SubI a b).hi.val = a.hi.val - b.lo.val:=by
  unfold S_SubI at h ⊢
  simp only [bindP_e] at h ⊢
  cases ha : S_l04Ok a with
  | false=>rw [ha] at h; simp only [Bool.not_false,cond_t,whole_bad] at h; cases h
  | true=>
    cases hb : S_l04Ok b with
    | false=>rw [ha,hb] at h; simp only [Bool.not_true,Bool.not_false,cond_t,cond_f,whole_bad] at h; cases h
    | true=>
      simp only [ha,hb,Bool.not_true,cond_f] at h ⊢
      have pa:=Ok4p ha
      have pb:=Ok4p hb
      rw [Make_out h]
      refine ⟨trivial,trivial,?_,?_⟩
      · show (w64 (a.lo.val - b.hi.val)).val = _; rw [w64_val]; omega
      · show (w64 (a.hi.val - b.lo.val)).val = _; rw [w64_val]; omega
theorem MulI_out {a b : Iv} (h : S_l04Ok (S_MulI a b) = true) : S_l04Ok a = true ∧ S_l04Ok b = true ∧
    (S_MulI a b).lo.val * 4294967296 ≤ a.lo.val * b.lo.val ∧ a.lo.val * b.lo.val ≤ (S_MulI a b).hi.val * 4294967296 ∧ (S_MulI a b).lo.val * 4294967296 ≤ a.lo.val * b.hi.val ∧ a.lo.val * b.hi.val ≤ (S_MulI a b).hi.val * 4294967296 ∧
    (S_MulI a b).lo.val * 4294967296 ≤ a.hi.val * b.lo.val ∧ a.hi.val * b.lo.val ≤ (S_MulI a b).hi.val * 4294967296 ∧ (S_MulI a b).lo.val * 4294967296 ≤ a.hi.val * b.hi.val ∧ a.hi.val * b.hi.val ≤ (S_MulI a b).hi.val * 4294967296:=by
  unfold S_MulI at h ⊢
  simp only [bindP_e] at h ⊢
  cases ha : S_l04Ok a with
  | false=>rw [ha] at h; simp only [Bool.not_false,cond_t,whole_bad] at h; cases h
  | true=>
  cases hb : S_l04Ok b with
  | false=>rw [ha,hb] at h; simp only [Bool.not_true,Bool.not_false,cond_t,cond_f,whole_bad] at h; cases h
  | true=>
  simp only [ha,hb,Bool.not_true,cond_f] at h ⊢
  cases d1 : (S_l03MulDown a.lo b.lo).2 with
  | false=>rw [d1] at h; simp only [Bool.not_false,cond_t,whole_bad] at h; cases h
  | true=>
  cases u1 : (S_l03MulUp a.lo b.lo).2 with
  | false=>rw [d1,u1] at h; simp only [Bool.not_true,Bool.not_false,cond_t,cond_f,whole_bad] at h; cases h
  | true=>
  simp only [d1,u1,Bool.not_true,cond_f] at h ⊢
  cases d2 : (S_l03MulDown a.lo b.hi).2 with
  | false=>rw [d2] at h; simp only [Bool.not_false,cond_t,whole_bad] at h; cases h
  | true=>
  cases u2 : (S_l03MulUp a.lo b.hi).2 with
  | false=>rw [d2,u2] at h; simp only [Bool.not_true,Bool.not_false,cond_t,cond_f,whole_bad] at h; cases h
  | true=>
  simp only [d2,u2,Bool.not_true,cond_f] at h ⊢
  cases d3 : (S_l03MulDown a.hi b.lo).2 with
  | false=>rw [d3] at h; simp only [Bool.not_false,cond_t,whole_bad] at h; cases h
  | true=>
  cases u3 : (S_l03MulUp a.hi b.lo).2 with
  | false=>rw [d3,u3] at h; simp only [Bool.not_true,Bool.not_false,cond_t,cond_f,whole_bad] at h; cases h
  | true=>
  simp only [d3,u3,Bool.not_true,cond_f] at h ⊢
  cases d4 : (S_l03MulDown a.hi b.hi).2 with
  | false=>rw [d4] at h; simp only [Bool.not_false,cond_t,whole_bad] at h; cases h
  | true=>
  cases u4 : (S_l03MulUp a.hi b.hi).2 with
  | false=>rw [d4,u4] at h; simp only [Bool.not_true,Bool.not_false,cond_t,cond_f,whole_bad] at h; cases h
  | true=>
  simp only [d4,u4,Bool.not_true,cond_f] at h ⊢
  rw [Make_out h]
  obtain ⟨_,_,_,v1⟩:=MulDown_true d1
  obtain ⟨_,_,_,v2⟩:=MulDown_true d2
  obtain ⟨_,_,_,v3⟩:=MulDown_true d3
  obtain ⟨_,_,_,v4⟩:=MulDown_true d4
  obtain ⟨_,_,_,w1⟩:=MulUp_true u1
  obtain ⟨_,_,_,w2⟩:=MulUp_true u2
  obtain ⟨_,_,_,w3⟩:=MulUp_true u3
  obtain ⟨_,_,_,w4⟩:=MulUp_true u4
  have m4:=min_out (S_l00Min (S_l00Min (S_l00Min (c64 1152921504606846976) (S_l03MulDown a.lo b.lo).1) (S_l03MulDown a.lo b.hi).1) (S_l03MulDown a.hi b.lo).1) (S_l03MulDown a.hi b.hi).1
  have m3:=min_out (S_l00Min (S_l00Min (c64 1152921504606846976) (S_l03MulDown a.lo b.lo).1) (S_l03MulDown a.lo b.hi).1) (S_l03MulDown a.hi b.lo).1
  have m2:=min_out (S_l00Min (c64 1152921504606846976) (S_l03MulDown a.lo b.lo).1) (S_l03MulDown a.lo b.hi).1
  have m1:=min_out (c64 1152921504606846976) (S_l03MulDown a.lo b.lo).1
  have n4:=max_out (S_l00Max (S_l00Max (S_l00Max (c64 (-1152921504606846976)) (S_l03MulUp a.lo b.lo).1) (S_l03MulUp a.lo b.hi).1) (S_l03MulUp a.hi b.lo).1) (S_l03MulUp a.hi b.hi).1
  have n3:=max_out (S_l00Max (S_l00Max (c64 (-1152921504606846976)) (S_l03MulUp a.lo b.lo).1) (S_l03MulUp a.lo b.hi).1) (S_l03MulUp a.hi b.lo).1
  have n2:=max_out (S_l00Max (c64 (-1152921504606846976)) (S_l03MulUp a.lo b.lo).1) (S_l03MulUp a.lo b.hi).1
  have n1:=max_out (c64 (-1152921504606846976)) (S_l03MulUp a.lo b.lo).1
  refine ⟨trivial,trivial,?_⟩
  dsimp only
  generalize a.lo.val * b.lo.val = q1 at *
  generalize a.lo.val * b.hi.val = q2 at *
  generalize a.hi.val * b.lo.val = q3 at *
  generalize a.hi.val * b.hi.val = q4 at *
  generalize S_l00Min (S_l00Min (S_l00Min (S_l00Min (c64 1152921504606846976) (S_l03MulDown a.lo b.lo).1) (S_l03MulDown a.lo b.hi).1) (S_l03MulDown a.hi b.lo).1) (S_l03MulDown a.hi b.hi).1 = lo at *
  generalize S_l00Max (S_l00Max (S_l00Max (S_l00Max (c64 (-1152921504606846976)) (S_l03MulUp a.lo b.lo).1) (S_l03MulUp a.lo b.hi).1) (S_l03MulUp a.hi b.lo).1) (S_l03MulUp a.hi b.hi).1 = hi at *
  refine ⟨?_,?_,?_,?_,?_,?_,?_,?_⟩ <;> omega
theorem DivI_out {a b : Iv} (h : S_l04Ok (S_DivI a b) = true) : S_l04Ok a = true ∧ S_l04Ok b = true ∧ (0 < b.lo.val ∨ b.hi.val < 0) ∧
    (∀ x y : Int,(x = a.lo.val ∨ x = a.hi.val) → (y = b.lo.val ∨ y = b.hi.val) → (0 < y → (S_DivI a b).lo.val * y ≤ x * 4294967296 ∧ x * 4294967296 ≤ (S_DivI a b).hi.val * y) ∧ (y < 0 → (S_DivI a b).hi.val * y ≤ x * 4294967296 ∧ x * 4294967296 ≤ (S_DivI a b).lo.val * y)):=by
  unfold S_DivI at h ⊢
  simp only [bindP_e] at h ⊢
  cases ha : S_l04Ok a with
  | false=>rw [ha] at h; simp only [Bool.not_false,cond_t,whole_bad] at h; cases h
  | true=>
  cases hb : S_l04Ok b with
  | false=>rw [ha,hb] at h; simp only [Bool.not_true,Bool.not_false,cond_t,cond_f,whole_bad] at h; cases h
  | true=>
  cases hz : S_l04Has b (c64 0) with
  | true=>rw [ha,hb,hz] at h; simp only [Bool.not_true,cond_t,cond_f,whole_bad] at h; cases h
  | false=>
  simp only [ha,hb,hz,Bool.not_true,cond_f] at h ⊢
  cases d1 : (S_l03DivDown a.lo b.lo).2 with
  | false=>rw [d1] at h; simp only [Bool.not_false,cond_t,whole_bad] at h; cases h
  | true=>
  cases u1 : (S_l03DivUp a.lo b.lo).2 with
  | false=>rw [d1,u1] at h; simp only [Bool.not_true,Bool.not_false,cond_t,cond_f,whole_bad] at h; cases h
  | true=>
  simp only [d1,u1,Bool.not_true,cond_f] at h ⊢
  cases d2 : (S_l03DivDown a.lo b.hi).2 with
  | false=>rw [d2] at h; simp only [Bool.not_false,cond_t,whole_bad] at h; cases h
  | true=>
  cases u2 : (S_l03DivUp a.lo b.hi).2 with
  | false=>rw [d2,u2] at h; simp only [Bool.not_true,Bool.not_false,cond_t,cond_f,whole_bad] at h; cases h
  | true=>
  simp only [d2,u2,Bool.not_true,cond_f] at h ⊢
  cases d3 : (S_l03DivDown a.hi b.lo).2 with
  | false=>rw [d3] at h; simp only [Bool.not_false,cond_t,whole_bad] at h; cases h
  | true=>
  cases u3 : (S_l03DivUp a.hi b.lo).2 with
  | false=>rw [d3,u3] at h; simp only [Bool.not_true,Bool.not_false,cond_t,cond_f,whole_bad] at h; cases h
  | true=>
  simp only [d3,u3,Bool.not_true,cond_f] at h ⊢
  cases d4 : (S_l03DivDown a.hi b.hi).2 with
  | false=>rw [d4] at h; simp only [Bool.not_false,cond_t,whole_bad] at h; cases h
  | true=>
  cases u4 : (S_l03DivUp a.hi b.hi).2 with
  | false=>rw [d4,u4] at h; simp only [Bool.not_true,Bool.not_false,cond_t,cond_f,whole_bad] at h; cases h
  | true=>
  simp only [d4,u4,Bool.not_true,cond_f] at h ⊢
  rw [Make_out h]
  have hb4:=Ok4p hb
  have sgn : 0 < b.lo.val ∨ b.hi.val < 0:=by
    unfold S_l04Has at hz
    rw [bindP_e,sp_in,c64_v] at hz
    by_cases q1 : b.lo.val ≤ 0
    · by_cases q2 : 0 ≤ b.hi.val
      · rw [decide_eq_true q1,decide_eq_true q2] at hz; cases hz
      · omega
    · omega
  refine ⟨trivial,trivial,sgn,?_⟩
  have m4:=min_out (S_l00Min (S_l00Min (S_l00Min (c64 1152921504606846976) (S_l03DivDown a.lo b.lo).1) (S_l03DivDown a.lo b.hi).1) (S_l03DivDown a.hi b.lo).1) (S_l03DivDown a.hi b.hi).1
  have m3:=min_out (S_l00Min (S_l00Min (c64 1152921504606846976) (S_l03DivDown a.lo b.lo).1) (S_l03DivDown a.lo b.hi).1) (S_l03DivDown a.hi b.lo).1
  have m2:=min_out (S_l00Min (c64 1152921504606846976) (S_l03DivDown a.lo b.lo).1) (S_l03DivDown a.lo b.hi).1
  have m1:=min_out (c64 1152921504606846976) (S_l03DivDown a.lo b.lo).1
  have n4:=max_out (S_l00Max (S_l00Max (S_l00Max (c64 (-1152921504606846976)) (S_l03DivUp a.lo b.lo).1) (S_l03DivUp a.lo b.hi).1) (S_l03DivUp a.hi b.lo).1) (S_l03DivUp a.hi b.hi).1
  have n3:=max_out (S_l00Max (S_l00Max (c64 (-1152921504606846976)) (S_l03DivUp a.lo b.lo).1) (S_l03DivUp a.lo b.hi).1) (S_l03DivUp a.hi b.lo).1
  have n2:=max_out (S_l00Max (c64 (-1152921504606846976)) (S_l03DivUp a.lo b.lo).1) (S_l03DivUp a.lo b.hi).1
  have n1:=max_out (c64 (-1152921504606846976)) (S_l03DivUp a.lo b.lo).1
  generalize (S_l00Min (S_l00Min (S_l00Min (S_l00Min (c64 1152921504606846976) (S_l03DivDown a.lo b.lo).1) (S_l03DivDown a.lo b.hi).1) (S_l03DivDown a.hi b.lo).1) (S_l03DivDown a.hi b.hi).1) = lo at *
  generalize (S_l00Max (S_l00Max (S_l00Max (S_l00Max (c64 (-1152921504606846976)) (S_l03DivUp a.lo b.lo).1) (S_l03DivUp a.lo b.hi).1) (S_l03DivUp a.hi b.lo).1) (S_l03DivUp a.hi b.hi).1) = hi at *
  have one : ∀ x y : I64,(S_l03DivDown x y).2 = true → (S_l03DivUp x y).2 = true → lo.val ≤ (S_l03DivDown x y).1.val → (S_l03DivUp x y).1.val ≤ hi.val →
      (0 < y.val → lo.val * y.val ≤ x.val * 4294967296 ∧ x.val * 4294967296 ≤ hi.val * y.val) ∧ (y.val < 0 → hi.val * y.val ≤ x.val * 4294967296 ∧ x.val * 4294967296 ≤ lo.val * y.val):=fun x y hd hu hl hh=>by
    obtain ⟨_,_,_,_,v1,v2⟩:=DivDown_true hd
    obtain ⟨_,w1,w2⟩:=DivUp_true hu
    refine ⟨fun hy=>?_,fun hy=>?_⟩
    · have e1:=v1 hy
      have e2:=w1 hy
      rw [Int.neg_mul] at e2
      obtain ⟨g1,g2⟩:=div_bounds (q:=x.val * 4294967296) hy
      rw [← e1] at g1
      rw [← e2] at g2
      exact ⟨Int.le_trans (Int.mul_le_mul_of_nonneg_right hl (by omega)) g1,Int.le_trans g2 (Int.mul_le_mul_of_nonneg_right hh (by omega))⟩
    · have e1:=v2 hy
      have e2:=w2 hy
      obtain ⟨g1,g2⟩:=div_bounds (q:=-x.val * 4294967296) (b:=-y.val) (by omega)
      rw [← e1] at g1
      have e3 : -(-x.val * 4294967296) = x.val * 4294967296:=by omega
      rw [e3,← e2] at g2
      have k1 : lo.val * -y.val ≤ (S_l03DivDown x y).1.val * -y.val:=Int.mul_le_mul_of_nonneg_right hl (by omega)
      have k2 : (S_l03DivUp x y).1.val * -y.val ≤ hi.val * -y.val:=Int.mul_le_mul_of_nonneg_right hh (by omega)
      rw [Int.mul_neg lo.val] at k1
      rw [Int.mul_neg hi.val] at k2
      have k3 : lo.val * y.val ≥ x.val * 4294967296:=by omega
      have k4 : hi.val * y.val ≤ x.val * 4294967296:=by omega
      exact ⟨k4,k3⟩
  intro x y hx hy
  rcases hx with rfl | rfl <;> rcases hy with rfl | rfl
  · exact one _ _ d1 u1 (by omega) (by omega)
  · exact one _ _ d2 u2 (by omega) (by omega)
  · exact one _ _ d3 u3 (by omega) (by omega)
  · exact one _ _ d4 u4 (by omega) (by omega)
end Go.Proofs.YtfhnlkinjbakgaaGreatDoor.Abs
