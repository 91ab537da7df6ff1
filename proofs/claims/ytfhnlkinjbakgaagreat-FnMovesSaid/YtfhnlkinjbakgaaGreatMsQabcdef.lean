/- Plain laws of the functions on numbers: what the program computes is what the reference computes. -/
import Derived.Test.YtfhnlkinjbakgaaGreatMsQpre
import Derived.Test.YtfhnlkinjbakgaaGreatMsF4
set_option linter.unusedVariables false
set_option linter.unusedSimpArgs false
namespace Go.Proofs.YtfhnlkinjbakgaaGreat.Abs
open Go
theorem bindP_eq {α β : Type} (x : α) (φ : α → β) : bindP x φ = φ x:=rfl
theorem sp_in (a b c : I64) : S_l00In a b c = (decide (b.val ≤ a.val) && decide (a.val ≤ c.val)):=by
  unfold S_l00In
  by_cases h : b.val ≤ a.val <;> simp [h]
theorem sp_within (a b c : I64) : I_within a b c = (decide (b.val ≤ a.val) && decide (a.val ≤ c.val)):=by
  unfold I_within
  by_cases h : b.val ≤ a.val <;> simp [h]
theorem eq_ValidPoint (p : Pt) : I_ValidPoint p = S_l11Ok p:=by
  unfold I_ValidPoint S_l11Ok
  simp only [bindP_eq,sp_in,sp_within,c64_val]
  rw [Bool.eq_iff_iff]
  simp
  grind
theorem eq_ValidShift (s : Sf) : I_ValidShift s = S_l23Ok__pSf s:=by
  unfold I_ValidShift S_l23Ok__pSf I_areWithin__s3 I_areWithin__s1
  simp only [bindP_eq,sp_in,sp_within,c64_val,w64_val]
  rw [Bool.eq_iff_iff]
  simp
  grind
def Wd.z (w : Wd) : Int:=w.hi.val * 18446744073709551616 + w.lo.val
theorem Wd.z_inj {v w : Wd} (h : v.z = w.z) : v = w:=by
  obtain ⟨a,b⟩:=v
  obtain ⟨c,d⟩:=w
  have h1:=b.lo
  have h2:=b.hi
  have h3:=d.lo
  have h4:=d.hi
  simp only [Wd.z] at h
  have e1 : a.val = c.val:=by omega
  have e2 : b.val = d.val:=by omega
  rw [IK.eq e1,IK.eq e2]
theorem Wd.z_mod {v w : Wd} (h : ∃ k : Int,v.z = w.z + k * 340282366920938463463374607431768211456) : v = w:=by
  refine Wd.z_inj ?_
  have h1:=v.lo.lo
  have h2:=v.lo.hi
  have h3:=w.lo.lo
  have h4:=w.lo.hi
  have h5:=v.hi.lo
  have h6:=v.hi.hi
  have h7:=w.hi.lo
  have h8:=w.hi.hi
  obtain ⟨k,h⟩:=h
  simp only [Wd.z] at h ⊢
  omega
theorem and_mask (x : Int) (h0 : 0 ≤ x) (h1 : x < 18446744073709551616) : (iand .u64 x 4294967295).val = x % 4294967296:=by
  obtain ⟨n,rfl⟩:=Int.eq_ofNat_of_zero_le h0
  have h:=bits_and_u64_nat n 4294967295 (by omega) (by omega)
  have e : n &&& 4294967295 = n % 4294967296:=Nat.and_two_pow_sub_one_eq_mod n 32
  rw [e] at h
  have h' : (iand .u64 (n : Int) 4294967295).val = ((n % 4294967296 : Nat) : Int):=h
  rw [h']
  omega
theorem shr32 (x : U64) : (ishr x 32).val = x.val / 4294967296:=by
  rw [ishr_val,Int.fdiv_eq_ediv_of_nonneg _ (by decide)]
  rfl
theorem mul64_split (a b : Int) (ha : 0 ≤ a) (hb : 0 ≤ b) (ha' : a < 18446744073709551616) (hb' : b < 18446744073709551616) : ∃ p q r s : Int,a % 4294967296 * (b % 4294967296) = p ∧ a / 4294967296 * (b % 4294967296) = q ∧ a % 4294967296 * (b / 4294967296) = r ∧ a / 4294967296 * (b / 4294967296) = s ∧
    0 ≤ p ∧ p ≤ 18446744065119617025 ∧ 0 ≤ q ∧ q ≤ 18446744065119617025 ∧ 0 ≤ r ∧ r ≤ 18446744065119617025 ∧ 0 ≤ s ∧ s ≤ 18446744065119617025 ∧ a * b = s * 18446744073709551616 + (q + r) * 4294967296 + p:=by
  have key : ∀ x y : Int,0 ≤ x → x ≤ 4294967295 → 0 ≤ y → y ≤ 4294967295 → 0 ≤ x * y ∧ x * y ≤ 18446744065119617025:=fun x y h1 h2 h3 h4=>by
    refine ⟨Int.mul_nonneg h1 h3,?_⟩
    have:=Int.mul_le_mul h2 h4 h3 (by omega : (0 : Int) ≤ 4294967295)
    omega
  have e1 : a = a / 4294967296 * 4294967296 + a % 4294967296:=by omega
  have e2 : b = b / 4294967296 * 4294967296 + b % 4294967296:=by omega
  have r1 : 0 ≤ a / 4294967296 ∧ a / 4294967296 ≤ 4294967295:=by omega
  have r2 : 0 ≤ a % 4294967296 ∧ a % 4294967296 ≤ 4294967295:=by omega
  have r3 : 0 ≤ b / 4294967296 ∧ b / 4294967296 ≤ 4294967295:=by omega
  have r4 : 0 ≤ b % 4294967296 ∧ b % 4294967296 ≤ 4294967295:=by omega
  generalize a / 4294967296 = a1 at *
  generalize a % 4294967296 = a0 at *
  generalize b / 4294967296 = b1 at *
  generalize b % 4294967296 = b0 at *
  have k1:=key _ _ r2.1 r2.2 r4.1 r4.2
  have k2:=key _ _ r1.1 r1.2 r4.1 r4.2
  have k3:=key _ _ r2.1 r2.2 r3.1 r3.2
  have k4:=key _ _ r1.1 r1.2 r3.1 r3.2
  refine ⟨_,_,_,_,rfl,rfl,rfl,rfl,k1.1,k1.2,k2.1,k2.2,k3.1,k3.2,k4.1,k4.2,?_⟩
  rw [e1,e2]
  grind
theorem sp_Times (a b : U64) : (S_l02Times a b).1.val * 18446744073709551616 + (S_l02Times a b).2.val = a.val * b.val:=by
  have ha:=a.lo
  have ha':=a.hi
  have hb:=b.lo
  have hb':=b.hi
  obtain ⟨p,q,r,s,e1,e2,e3,e4,p1,p2,q1,q2,r1,r2,s1,s2,e⟩:=mul64_split a.val b.val ha hb (by omega) (by omega)
  unfold S_l02Times
  simp only [shr32,and_mask _ ha (by omega : a.val < 18446744073709551616),and_mask _ hb (by omega : b.val < 18446744073709551616),wu64_val,e1,e2,e3,e4]
  rw [and_mask _ (by omega) (by omega)]
  rw [e]
  omega
theorem eq_Mul64 (a b : U64) : F_bits_Mul64 a b = S_l02Times a b:=by
  unfold F_bits_Mul64 S_l02Times
  rw [Int.add_comm (iand .u64 _ 4294967295).val (wu64 ((iand .u64 a.val 4294967295).val * (ishr b 32).val)).val]
theorem Minus_z (w : Wd) : ∃ k : Int,(S_l02Minus w).z = -w.z + k * 340282366920938463463374607431768211456:=by
  have h1:=w.lo.lo
  have h2:=w.lo.hi
  have h5:=w.hi.lo
  have h6:=w.hi.hi
  unfold S_l02Minus
  by_cases h : w.lo.val = 0
  · simp only [h,beq_self_eq_true,cond_true,Wd.z,w64_val,wu64_val]
    by_cases e : w.hi.val = -9223372036854775808
    · exact ⟨-1,by omega⟩
    · exact ⟨0,by omega⟩
  · have hb : (w.lo.val == 0) = false:=by simpa using h
    have hn : (inot .i64 w.hi.val).val = -1 - w.hi.val:=by
      show IntKind.i64.wrap (BitVec.ofInt 64 (-1) ^^^ BitVec.ofInt 64 w.hi.val).toNat = _
      have e1 : BitVec.ofInt 64 (-1) = BitVec.allOnes 64:=by decide
      rw [e1,BitVec.xor_comm,BitVec.xor_allOnes,BitVec.toNat_not,BitVec.toNat_ofInt,IntKind.wrap_i64]
      omega
    simp only [hb,cond_false,Wd.z,hn,wu64_val]
    exact ⟨0,by omega⟩
theorem mul_size (a b : I64) : ∃ x : Int,a.val * b.val = x ∧ -85070591730234615865843651857942052864 ≤ x ∧ x ≤ 85070591730234615865843651857942052864:=by
  refine ⟨_,rfl,?_⟩
  have h1 : a.val.natAbs ≤ 9223372036854775808:=by have:=a.lo; have:=a.hi; omega
  have h2 : b.val.natAbs ≤ 9223372036854775808:=by have:=b.lo; have:=b.hi; omega
  have h:=Nat.mul_le_mul h1 h2
  rw [← Int.natAbs_mul] at h
  omega
theorem sp_Mul (a b : I64) : (S_l02Mul a b).z = a.val * b.val:=by
  have ha:=a.lo
  have ha':=a.hi
  have hb:=b.lo
  have hb':=b.hi
  have size : ∀ n : I64,(S_l02Size n).val = (n.val.natAbs : Int):=fun n=>by
    have h1:=n.lo
    have h2:=n.hi
    unfold S_l02Size
    by_cases h : n.val < 0 <;> simp only [h,decide_true,decide_false,cond_true,cond_false,wu64_val] <;> omega
  have ht:=sp_Times (S_l02Size a) (S_l02Size b)
  rw [size,size,← Int.natCast_mul,← Int.natAbs_mul] at ht
  obtain ⟨x,hx,x1,x2⟩:=mul_size a b
  rw [hx] at ht
  unfold S_l02Mul
  simp only [bindP_eq]
  have k1:=(S_l02Times (S_l02Size a) (S_l02Size b)).1.lo
  have k2:=(S_l02Times (S_l02Size a) (S_l02Size b)).1.hi
  have k3:=(S_l02Times (S_l02Size a) (S_l02Size b)).2.lo
  have k4:=(S_l02Times (S_l02Size a) (S_l02Size b)).2.hi
  generalize S_l02Times (S_l02Size a) (S_l02Size b) = p at *
  obtain ⟨hi,lo⟩:=p
  simp only at *
  have hv : Wd.z ⟨w64 hi.val,lo⟩ = (x.natAbs : Int):=by
    simp only [Wd.z,w64_val]
    omega
  rw [hx]
  by_cases hs : (decide (a.val < 0)) = decide (b.val < 0)
  · have e : (!(decide (a.val < 0) == decide (b.val < 0))) = false:=by simp [hs]
    rw [e,cond_false,hv]
    have : 0 ≤ x:=by
      rw [← hx]
      by_cases h : a.val < 0
      · have h' : b.val < 0:=by simpa [h] using hs
        exact Int.mul_nonneg_of_nonpos_of_nonpos (by omega) (by omega)
      · have h' : ¬ b.val < 0:=by simpa [h] using hs
        exact Int.mul_nonneg (by omega) (by omega)
    omega
  · have e : (!(decide (a.val < 0) == decide (b.val < 0))) = true:=by simpa using hs
    rw [e,cond_true]
    obtain ⟨k,hk⟩:=Minus_z ⟨w64 hi.val,lo⟩
    rw [hv] at hk
    have : x ≤ 0:=by
      rw [← hx]
      by_cases h : a.val < 0
      · have h' : ¬ b.val < 0:=fun h'=>hs (by simp [h,h'])
        exact Int.mul_nonpos_of_nonpos_of_nonneg (by omega) (by omega)
      · have h' : b.val < 0:=by
          by_cases q : b.val < 0
          · exact q
          · exact absurd (by simp [h,q]) hs
        exact Int.mul_nonpos_of_nonneg_of_nonpos (by omega) (by omega)
    generalize S_l02Minus ⟨w64 hi.val,lo⟩ = w at *
    have h1:=w.lo.lo
    have h2:=w.lo.hi
    have h5:=w.hi.lo
    have h6:=w.hi.hi
    simp only [Wd.z] at hk ⊢
    omega
theorem eq_WideMul (a b : I64) : I_WideMul a b = S_l02Mul a b:=by
  refine Wd.z_mod ?_
  rw [sp_Mul]
  have ha:=a.lo
  have ha':=a.hi
  have hb:=b.lo
  have hb':=b.hi
  have ht:=sp_Times (wu64 a.val) (wu64 b.val)
  have ea : (wu64 a.val).val = bif decide (a.val < 0) then a.val + 18446744073709551616 else a.val:=by
    by_cases h : a.val < 0 <;> simp only [h,decide_true,decide_false,cond_true,cond_false,wu64_val] <;> omega
  have eb : (wu64 b.val).val = bif decide (b.val < 0) then b.val + 18446744073709551616 else b.val:=by
    by_cases h : b.val < 0 <;> simp only [h,decide_true,decide_false,cond_true,cond_false,wu64_val] <;> omega
  unfold I_WideMul
  rw [eq_Mul64]
  simp only [bindP_eq]
  generalize S_l02Times (wu64 a.val) (wu64 b.val) = p at *
  obtain ⟨hi,lo⟩:=p
  rw [ea,eb] at ht ⊢
  simp only at ht
  by_cases h : a.val < 0 <;> by_cases h' : b.val < 0 <;> simp only [h,h',decide_true,decide_false,cond_true,cond_false] at ht ⊢
  · have e : (a.val + 18446744073709551616) * (b.val + 18446744073709551616) = a.val * b.val + 18446744073709551616 * a.val + 18446744073709551616 * b.val + 340282366920938463463374607431768211456:=by grind
    rw [e] at ht
    generalize a.val * b.val = x at *
    simp only [Wd.z,w64_val,wu64_val]
    refine ⟨((((hi.val - (b.val + 18446744073709551616)) % 18446744073709551616 - (a.val + 18446744073709551616)) % 18446744073709551616 + 9223372036854775808) % 18446744073709551616 - 9223372036854775808 - (hi.val - b.val - a.val - 18446744073709551616)) / 18446744073709551616,?_⟩
    omega
  · have e : (a.val + 18446744073709551616) * b.val = a.val * b.val + 18446744073709551616 * b.val:=by grind
    rw [e] at ht
    generalize a.val * b.val = x at *
    simp only [Wd.z,w64_val,wu64_val]
    refine ⟨(((hi.val - b.val) % 18446744073709551616 + 9223372036854775808) % 18446744073709551616 - 9223372036854775808 - (hi.val - b.val)) / 18446744073709551616,?_⟩
    omega
  · have e : a.val * (b.val + 18446744073709551616) = a.val * b.val + 18446744073709551616 * a.val:=by grind
    rw [e] at ht
    generalize a.val * b.val = x at *
    simp only [Wd.z,w64_val,wu64_val]
    refine ⟨(((hi.val - a.val) % 18446744073709551616 + 9223372036854775808) % 18446744073709551616 - 9223372036854775808 - (hi.val - a.val)) / 18446744073709551616,?_⟩
    omega
  · generalize a.val * b.val = x at *
    simp only [Wd.z,w64_val]
    refine ⟨((hi.val + 9223372036854775808) % 18446744073709551616 - 9223372036854775808 - hi.val) / 18446744073709551616,?_⟩
    omega
theorem eq_WideInt (w : Wd) : I_WideInt w = S_l02Int w:=by
  have e : ∀ n : I64,I_WideOf n = S_l02Of n:=fun n=>by
    have h1:=n.lo
    have h2:=n.hi
    unfold I_WideOf S_l02Of
    have h : (ishr n 63).val = if n.val < 0 then -1 else 0:=by
      rw [ishr_val,Int.fdiv_eq_ediv_of_nonneg _ (by decide)]
      show n.val / 9223372036854775808 = _
      split <;> omega
    by_cases hn : n.val < 0
    · have e2 : ishr n 63 = c64 (-1):=IK.eq (by rw [h,if_pos hn]; rfl)
      simp [hn,e2]
    · have e2 : ishr n 63 = c64 0:=IK.eq (by rw [h,if_neg hn]; rfl)
      simp [hn,e2]
  unfold I_WideInt S_l02Int
  rw [e]
theorem shr0 {k : IntKind} (x : IK k) : ishr x 0 = x:=IK.eq (by simp [ishr_val,Int.fdiv_one])
theorem eq_Shift (w : Wd) (n : I64) (h0 : 0 ≤ n.val) (h1 : n.val ≤ 127) : I_WideShift w n = S_l02Shift w n:=by
  have e1 : (I_within n (c64 0) (c64 127)) = true:=by
    rw [sp_within]
    simp [c64_val,h0,h1]
  have eu : (wu64 n.val).val = n.val:=by rw [wu64_val]; omega
  unfold I_WideShift S_l02Shift
  simp only [bindP_eq,e1,eu]
  by_cases hz : n.val = 0
  · have hl : (ior .u64 w.lo.val (ishl .u64 (wu64 w.hi.val).val 64).val) = w.lo:=by
      have : (ishl .u64 (wu64 w.hi.val).val 64).val = 0:=by
        show IntKind.u64.wrap ((wu64 w.hi.val).val * 2 ^ 64) = 0
        rw [IntKind.wrap_u64]
        omega
      rw [this]
      refine IK.eq ?_
      have b1:=w.lo.lo
      have b2:=w.lo.hi
      show IntKind.u64.wrap ((BitVec.ofInt 64 w.lo.val ||| BitVec.ofInt 64 0).toNat : Int) = w.lo.val
      have : BitVec.ofInt 64 0 = 0#64:=by decide
      rw [this,BitVec.or_zero,BitVec.toNat_ofInt,IntKind.wrap_u64]
      omega
    have e64 : (w64 (64 - n.val)).val = 64:=by rw [w64_val]; omega
    rw [e64]
    simp only [hz,shr0,hl]
    simp
  · have hb : (n.val == 0) = false:=by simpa using hz
    rw [hb]
    by_cases hs : n.val < 64
    · have e2 : (wu64 (w64 (64 - n.val)).val).val = (w64 (64 - n.val)).val:=by simp only [wu64_val,w64_val]; omega
      have : ¬ (n.val ≥ 64):=by omega
      simp [hs,this,e2]
    · have e2 : (wu64 (w64 (n.val - 64)).val).val = (w64 (n.val - 64)).val:=by simp only [wu64_val,w64_val]; omega
      have : n.val ≥ 64:=by omega
      simp [hs,this,e2]
theorem eq_in (a b c : I64) : I_within a b c = S_l00In a b c:=rfl
theorem eq_MulFloor (a b n : I64) : I_MulFloor a b n = S_MulFloor a b n:=by
  unfold I_MulFloor S_MulFloor
  simp only [bindP_eq,eq_in,eq_WideMul,eq_WideInt]
  cases h : S_l00In n (c64 0) (c64 126) with
  | false=>rfl
  | true=>
    rw [sp_in,Bool.and_eq_true] at h
    have h1 : 0 ≤ n.val:=of_decide_eq_true h.1
    have h2 : n.val ≤ 126:=of_decide_eq_true h.2
    rw [eq_Shift _ _ h1 (Int.le_trans h2 (by decide))]
theorem eq_ValidFix (a : I64) : I_ValidFix a = S_l03Ok a:=rfl
theorem sp_Ok3 (a : I64) : S_l03Ok a = (decide (-1152921504606846976 ≤ a.val) && decide (a.val ≤ 1152921504606846976)):=by
  unfold S_l03Ok
  rw [bindP_eq,sp_in]
  rfl
theorem eq_fixed (a : I64) (b : Bool) : I_fixed a b = S_l03End a b:=rfl
theorem eq_MulDown (a b : I64) : I_MulDown a b = S_l03MulDown a b:=by
  unfold I_MulDown S_l03MulDown
  simp only [eq_ValidFix,eq_MulFloor,eq_fixed]
theorem w64_id (x : I64) : w64 x.val = x:=IK.eq (by rw [w64_val]; have:=x.lo; have:=x.hi; omega)
theorem MulDown_ok (a b : I64) : ((S_l03MulDown a b).2 = true ∧ -1152921504606846976 ≤ (S_l03MulDown a b).1.val ∧ (S_l03MulDown a b).1.val ≤ 1152921504606846976) ∨ S_l03MulDown a b = (c64 0,false):=by
  unfold S_l03MulDown S_l03End
  simp only [bindP_eq]
  cases S_l03Ok a with
  | false=>exact .inr rfl
  | true=>
    cases S_l03Ok b with
    | false=>exact .inr rfl
    | true=>
      generalize S_MulFloor a b (c64 32) = p
      obtain ⟨x,q⟩:=p
      cases q with
      | false=>exact .inr rfl
      | true=>
        cases h : S_l03Ok x with
        | false=>right; simp [h]
        | true=>
          left
          have h':=h
          rw [sp_Ok3] at h'
          simp at h'
          simp [h,h']
theorem MulDown_ok2 {a b : I64} (h : (S_l03MulDown a b).2 = true) : S_l03Ok b = true:=by
  unfold S_l03MulDown at h
  simp only [bindP_eq] at h
  cases ha : S_l03Ok a with
  | false=>simp [ha] at h
  | true=>
    cases hb : S_l03Ok b with
    | false=>simp [ha,hb] at h
    | true=>rfl
theorem eq_MulUp (a b : I64) : I_MulUp a b = S_l03MulUp a b:=by
  unfold I_MulUp S_l03MulUp
  simp only [bindP_eq,eq_ValidFix,eq_MulDown]
  have hn : w64 (0 - (c64 0).val) = c64 0:=IK.eq (by decide)
  cases ha : S_l03Ok a with
  | false=>rfl
  | true=>
    cases hb : S_l03Ok b with
    | false=>
      rcases MulDown_ok (w64 (0 - a.val)) b with ⟨h,_⟩ | h
      · rw [MulDown_ok2 h] at hb; cases hb
      · rw [h]; rfl
    | true=>
      rcases MulDown_ok (w64 (0 - a.val)) b with ⟨h,_⟩ | h
      · rw [h]
      · rw [h]; simp only [hn]; rfl
theorem MulUp_ok (a b : I64) : ((S_l03MulUp a b).2 = true ∧ -1152921504606846976 ≤ (S_l03MulUp a b).1.val ∧ (S_l03MulUp a b).1.val ≤ 1152921504606846976) ∨ S_l03MulUp a b = (c64 0,false):=by
  unfold S_l03MulUp
  simp only [bindP_eq]
  cases S_l03Ok a with
  | false=>exact .inr rfl
  | true=>
    rcases MulDown_ok (w64 (0 - a.val)) b with ⟨h,h1,h2⟩ | h
    · left
      rw [h]
      simp only [Bool.not_true,cond_false,w64_val]
      refine ⟨trivial,?_⟩
      omega
    · right
      rw [h]; rfl
theorem eq_Valid (a : Iv) : I_ValidInterval a = S_l04Ok a:=rfl
theorem eq_Whole : I_Whole = S_l04Whole:=rfl
theorem eq_bounded (a b : I64) : I_bounded a b true = S_l04Make a b:=by
  unfold I_bounded S_l04Make
  simp only [bindP_eq,eq_Valid,eq_Whole]
  cases S_l04Ok ⟨a,b⟩ <;> rfl
theorem eq_areBounded (a b : Iv) : I_areBounded a b = (S_l04Ok a && S_l04Ok b):=by
  unfold I_areBounded
  simp only [bindP_eq,eq_Valid]
  cases S_l04Ok a <;> rfl
theorem sp_Min (a b : I64) : S_l00Min a b = if a.val < b.val then a else b:=by
  unfold S_l00Min
  by_cases h : a.val < b.val <;> simp [h]
theorem sp_Max (a b : I64) : S_l00Max a b = if a.val > b.val then a else b:=by
  unfold S_l00Max
  by_cases h : b.val < a.val <;> simp [h]
theorem eq_mn (a b : I64) : S_l00Min a b = mn a b:=by
  rw [sp_Min]
  refine IK.eq ?_
  rw [mn_val]
  split <;> split <;> omega
theorem eq_mx (a b : I64) : S_l00Max a b = mx a b:=by
  rw [sp_Max]
  refine IK.eq ?_
  rw [mx_val]
  split <;> split <;> omega
theorem mn_self (a : I64) : mn a a = a:=IK.eq (by rw [mn_val]; split <;> rfl)
theorem mx_self (a : I64) : mx a a = a:=IK.eq (by rw [mx_val]; split <;> rfl)
theorem mn_top (a : I64) (h : a.val ≤ 1152921504606846976) : mn (c64 1152921504606846976) a = a:=IK.eq (by rw [mn_val,c64_val]; split <;> omega)
theorem mx_low (a : I64) (h : -1152921504606846976 ≤ a.val) : mx (c64 (-1152921504606846976)) a = a:=IK.eq (by rw [mx_val,c64_val]; split <;> omega)
theorem eq_MulI (a b : Iv) : I_MulI a b = S_MulI a b:=by
  unfold I_MulI S_MulI I_combine__impl_MulDown__impl_MulUp
  simp only [bindP_eq,eq_areBounded,eq_Whole,eq_MulDown,eq_MulUp,eq_bounded,eq_mn,eq_mx]
  cases S_l04Ok a with
  | false=>rfl
  | true=>
    cases S_l04Ok b with
    | false=>rfl
    | true=>
      simp only [Bool.and_self,Bool.not_true,cond_false]
      rcases MulDown_ok a.lo b.lo with ⟨h1,h2,h3⟩ | h1
      · rcases MulUp_ok a.lo b.lo with ⟨k1,k2,k3⟩ | k1
        · simp only [mn_top _ h3,mx_low _ k2,mn_self,mx_self]
        · simp [k1]
      · simp [h1]
theorem eq_AddI (a b : Iv) : I_AddI a b = S_AddI a b:=by
  unfold I_AddI S_AddI
  simp only [bindP_eq,eq_areBounded,eq_Whole,eq_bounded]
  cases S_l04Ok a with
  | false=>rfl
  | true=>cases S_l04Ok b <;> rfl
theorem eq_DotV (a b : Vc) : I_DotV a b = S_DotV a b:=by
  unfold I_DotV S_DotV
  simp only [eq_MulI,eq_AddI]
theorem eq_ApplyM (a : Mt) (b : Vc) : I_ApplyM a b = S_ApplyM a b:=by
  unfold I_ApplyM S_ApplyM
  simp only [eq_DotV]
theorem eq_AddV (a b : Vc) : I_AddV a b = S_AddV a b:=by
  unfold I_AddV S_AddV
  simp only [eq_AddI]
theorem eq_ApplyAffine (a : Af) (b : Vc) : I_ApplyAffine a b = S_ApplyAffine a b:=by
  unfold I_ApplyAffine S_ApplyAffine
  simp only [eq_ApplyM,eq_AddV]
theorem and_one (x : U64) : (iand .u64 x.val 1).val = x.val % 2:=by
  have h0:=x.lo
  have h1:=x.hi
  obtain ⟨n,hn⟩:=Int.eq_ofNat_of_zero_le h0
  rw [hn]
  have h:=bits_and_u64_nat n 1 (by omega) (by omega)
  rw [Nat.and_one_is_mod] at h
  have h' : (iand .u64 (n : Int) 1).val = ((n % 2 : Nat) : Int):=h
  rw [h']
  omega
theorem or_add (k : Nat) (x b : Int) (h0 : 0 ≤ x) (h1 : x < 18446744073709551616) (hx : x % 2 ^ k = 0) (b0 : 0 ≤ b) (b1 : b < 2 ^ k) (hk : k ≤ 64) : (ior .u64 x b).val = x + b:=by
  obtain ⟨n,rfl⟩:=Int.eq_ofNat_of_zero_le h0
  obtain ⟨m,rfl⟩:=Int.eq_ofNat_of_zero_le b0
  have hp : ((2 : Int) ^ k) = ((2 ^ k : Nat) : Int):=by rw [Int.natCast_pow]; rfl
  rw [hp] at hx b1
  have hm : m < 2 ^ k:=by omega
  have hle : 2 ^ k ≤ 2 ^ 64:=Nat.pow_le_pow_right (by omega) hk
  have hn : n % 2 ^ k = 0:=by
    have : ((n % 2 ^ k : Nat) : Int) = 0:=by rw [Int.natCast_emod]; exact hx
    omega
  have h64 : (2 : Nat) ^ 64 = 18446744073709551616:=by decide
  have hor : n ||| m = n + m:=by
    have e : n = 2 ^ k * (n / 2 ^ k):=by
      have:=Nat.div_add_mod n (2 ^ k)
      omega
    rw [e,Nat.two_pow_add_eq_or_of_lt hm]
  have hlt : n + m < 18446744073709551616:=by
    rw [← hor,← h64]
    exact Nat.or_lt_two_pow (by rw [h64]; omega) (Nat.lt_of_lt_of_le hm hle)
  have h:=bits_or_u64_nat n m (by omega) (by omega)
  rw [hor] at h
  have h' : (ior .u64 (n : Int) (m : Int)).val = ((n + m : Nat) : Int):=h
  rw [h']
  omega
theorem shr_val (x : U64) (y : Int) (h0 : 0 ≤ y) (h1 : y ≤ 64) : (ishr x y).val = x.val / 2 ^ y.toNat:=by
  rw [ishr_val,Int.fdiv_eq_ediv_of_nonneg _ (Int.le_of_lt (Int.pow_pos (by decide)))]
  rw [show min y.toNat IntKind.u64.bits = y.toNat from Nat.min_eq_left (by show y.toNat ≤ 64; omega)]
theorem shl1_val (x : U64) : (ishl .u64 x.val 1).val = (x.val * 2) % 18446744073709551616:=by
  show IntKind.u64.wrap (x.val * 2 ^ 1) = _
  rw [IntKind.wrap_u64]
  rfl
theorem bring (x : Int) (i : Nat) : x % 2 ^ (i + 1) = (x / 2 ^ i) % 2 * 2 ^ i + x % 2 ^ i:=by
  have hp : (0 : Int) < 2 ^ i:=Int.pow_pos (by decide)
  have h1:=Int.emod_add_mul_ediv x (2 ^ i)
  have h2:=Int.emod_add_mul_ediv (x / 2 ^ i) 2
  have h3 : 0 ≤ x % 2 ^ i:=Int.emod_nonneg _ (by omega)
  have h4 : x % 2 ^ i < 2 ^ i:=Int.emod_lt_of_pos _ hp
  have e : x = 2 ^ (i + 1) * (x / 2 ^ i / 2) + ((x / 2 ^ i) % 2 * 2 ^ i + x % 2 ^ i):=by
    rw [Int.pow_succ]
    generalize x / 2 ^ i = y at *
    generalize x % 2 ^ i = z at *
    generalize (2 : Int) ^ i = p at *
    generalize y / 2 = u at *
    generalize y % 2 = v at *
    subst h2
    rw [← h1]
    grind
  have hb : 0 ≤ (x / 2 ^ i) % 2:=Int.emod_nonneg _ (by decide)
  have hb2 : (x / 2 ^ i) % 2 ≤ 1:=by have:=Int.emod_lt_of_pos (x / 2 ^ i) (by decide : (0 : Int) < 2); omega
  have hpp : (2 : Int) ^ (i + 1) = 2 * 2 ^ i:=by rw [Int.pow_succ]; omega
  have hlo : 0 ≤ (x / 2 ^ i) % 2 * 2 ^ i:=Int.mul_nonneg hb (Int.le_of_lt hp)
  have hhi : (x / 2 ^ i) % 2 * 2 ^ i ≤ 2 ^ i:=by
    have:=Int.mul_le_mul_of_nonneg_right hb2 (Int.le_of_lt hp)
    omega
  have q:=congrArg (· % (2 : Int) ^ (i + 1)) e
  simp only [Int.mul_add_emod_self_left] at q
  rw [q]
  exact Int.emod_eq_of_lt (by omega) (by omega)
theorem sp_Divide_loop (lo d qh : U64) (hd : 0 < d.val) : ∀ (N fu : Nat) (rest q : U64) (i : I64),i.val = (N : Int) - 1 → N < fu → N ≤ 64 → rest.val < d.val → (q.val + 1) * 2 ^ N ≤ 18446744073709551616 →
    ∃ q' r' : U64,S_l02Divide_L0 fu lo d qh rest q i = (qh,q',r') ∧ q'.val * d.val + r'.val = q.val * 2 ^ N * d.val + rest.val * 2 ^ N + lo.val % 2 ^ N ∧ r'.val < d.val
  | 0,fu,rest,q,i,hi,hf,hN,hr,hq=>by
    obtain ⟨f,rfl⟩:=Nat.exists_eq_succ_of_ne_zero (by omega : fu ≠ 0)
    have hneg : ¬ i.val ≥ 0:=by omega
    refine ⟨q,rest,?_,?_,hr⟩
    · unfold S_l02Divide_L0
      simp only [hneg,decide_false,cond_false]
    · simp only [Int.pow_zero,Int.mul_one,Int.emod_one]
      omega
  | N + 1,fu,rest,q,i,hi,hf,hN,hr,hq=>by
    obtain ⟨f,rfl⟩:=Nat.exists_eq_succ_of_ne_zero (by omega : fu ≠ 0)
    have hpos : i.val ≥ 0:=by omega
    have hiN : i.val = N:=by omega
    have hwi : (wu64 i.val).val = i.val:=by rw [wu64_val]; omega
    have d1:=d.hi
    have r0:=rest.lo
    have r1:=rest.hi
    have q0:=q.lo
    have l0:=lo.lo
    have hp : (0 : Int) < 2 ^ N:=Int.pow_pos (by decide)
    have hpp : (2 : Int) ^ (N + 1) = 2 * 2 ^ N:=by rw [Int.pow_succ]; omega
    have hq2 : (q.val + 1) * 2 * 2 ^ N ≤ 18446744073709551616:=by rw [Int.mul_assoc,← hpp]; exact hq
    have hq3 : (q.val + 1) * 2 ≤ (q.val + 1) * 2 * 2 ^ N:=by
      have:=Int.mul_le_mul_of_nonneg_left (by omega : (1 : Int) ≤ 2 ^ N) (by omega : 0 ≤ (q.val + 1) * 2)
      omega
    have hbit : (iand .u64 (ishr lo (wu64 i.val).val).val 1).val = (lo.val / 2 ^ N) % 2:=by
      rw [and_one,hwi,shr_val lo i.val hpos (by omega),hiN]
      rfl
    have hbr:=bring lo.val N
    have hb0 : 0 ≤ (lo.val / 2 ^ N) % 2:=Int.emod_nonneg _ (by decide)
    have hb1 : (lo.val / 2 ^ N) % 2 < 2:=Int.emod_lt_of_pos _ (by decide)
    generalize (lo.val / 2 ^ N) % 2 = b at *
    have hor : (ior .u64 (ishl .u64 rest.val 1).val (iand .u64 (ishr lo (wu64 i.val).val).val 1).val).val = (rest.val * 2) % 18446744073709551616 + b:=by
      rw [hbit,shl1_val]
      exact or_add 1 _ b (by omega) (by omega) (by show _ % 2 = 0; omega) hb0 (by show b < 2; omega) (by omega)
    have hqs : (ishl .u64 q.val 1).val = q.val * 2:=by rw [shl1_val]; omega
    have hqo : (ior .u64 (ishl .u64 q.val 1).val 1).val = q.val * 2 + 1:=by
      rw [hqs]
      exact or_add 1 _ 1 (by omega) (by omega) (by show _ % 2 = 0; omega) (by omega) (by show (1 : Int) < 2; omega) (by omega)
    have htop : (ishr rest 63).val = rest.val / 9223372036854775808:=shr_val rest 63 (by omega) (by omega)
    have hi' : (w64 (i.val - 1)).val = (N : Int) - 1:=by rw [w64_val]; omega
    have fin : ∀ (rest' q2 : U64),rest'.val < d.val → q2.val * 1 * d.val + rest'.val = q.val * 2 * d.val + rest.val * 2 + b → q2.val ≤ q.val * 2 + 1 →
        ∃ q' r' : U64,S_l02Divide_L0 f lo d qh rest' q2 (w64 (i.val - 1)) = (qh,q',r') ∧ q'.val * d.val + r'.val = q.val * 2 ^ (N + 1) * d.val + rest.val * 2 ^ (N + 1) + lo.val % 2 ^ (N + 1) ∧ r'.val < d.val:=fun rest' q2 h1 h2 h3=>by
      have hq4 : (q2.val + 1) * 2 ^ N ≤ 18446744073709551616:=by
        have:=Int.mul_le_mul_of_nonneg_right (by omega : q2.val + 1 ≤ (q.val + 1) * 2) (Int.le_of_lt hp)
        omega
      obtain ⟨q',r',e1,e2,e3⟩:=sp_Divide_loop lo d qh hd N f rest' q2 (w64 (i.val - 1)) hi' (by omega) (by omega) h1 hq4
      refine ⟨q',r',e1,?_,e3⟩
      rw [e2,hbr,hpp]
      have : (q2.val * 1 * d.val + rest'.val) * 2 ^ N = (q.val * 2 * d.val + rest.val * 2 + b) * 2 ^ N:=by rw [h2]
      generalize lo.val % 2 ^ N = m at *
      generalize (2 : Int) ^ N = p at *
      grind
    unfold S_l02Divide_L0
    simp only [hpos,decide_true,cond_true]
    by_cases ht : (ishr rest 63).val = 1
    · have hb : ((ishr rest 63).val == 1) = true:=by simpa using ht
      rw [hb,cond_true]
      have hv : (wu64 ((ior .u64 (ishl .u64 rest.val 1).val (iand .u64 (ishr lo (wu64 i.val).val).val 1).val).val - d.val)).val = rest.val * 2 + b - d.val:=by
        rw [wu64_val,hor]
        omega
      refine fin _ _ (by rw [hv]; omega) ?_ (by rw [hqo]; omega)
      rw [hv,hqo]
      grind
    · have hb : ((ishr rest 63).val == 1) = false:=by simpa using ht
      rw [hb,cond_false]
      have hor2 : (ior .u64 (ishl .u64 rest.val 1).val (iand .u64 (ishr lo (wu64 i.val).val).val 1).val).val = rest.val * 2 + b:=by rw [hor]; omega
      by_cases hge : (ior .u64 (ishl .u64 rest.val 1).val (iand .u64 (ishr lo (wu64 i.val).val).val 1).val).val ≥ d.val
      · simp only [hge,decide_true,cond_true]
        have hv : (wu64 ((ior .u64 (ishl .u64 rest.val 1).val (iand .u64 (ishr lo (wu64 i.val).val).val 1).val).val - d.val)).val = rest.val * 2 + b - d.val:=by
          rw [wu64_val,hor2]
          omega
        refine fin _ _ (by rw [hv]; omega) ?_ (by rw [hqo]; omega)
        rw [hv,hqo]
        grind
      · simp only [hge,decide_false,cond_false]
        refine fin _ _ (by omega) ?_ (by rw [hqs]; omega)
        rw [hor2,hqs]
        grind
theorem sp_Divide (hi lo d : U64) (hd : 0 < d.val) : ∃ q r : U64,S_l02Divide hi lo d = (wu64 (Int.tdiv hi.val d.val),q,r) ∧ q.val * d.val + r.val = hi.val % d.val * 18446744073709551616 + lo.val ∧ r.val < d.val:=by
  have hm : (imod hi d.val).val = hi.val % d.val:=by rw [imod_val,Int.tmod_eq_emod_of_nonneg hi.lo]
  obtain ⟨q,r,e1,e2,e3⟩:=sp_Divide_loop lo d (wu64 (Int.tdiv hi.val d.val)) hd 64 65 (imod hi d.val) (cu64 0) (c64 63) rfl (by omega) (by omega) (imod_lt _ _ (by omega)) (by decide)
  refine ⟨q,r,e1,?_,e3⟩
  rw [e2,hm]
  have h : lo.val % 2 ^ 64 = lo.val:=Int.emod_eq_of_lt lo.lo (by have:=lo.hi; omega)
  rw [h]
  show 0 * 2 ^ 64 * d.val + hi.val % d.val * 18446744073709551616 + lo.val = _
  omega
structure Digit (u w y y1 y0 q rh Q : Int) : Prop where
  hy : y = y1 * 4294967296 + y0
  y1l : 1 ≤ y1
  y1h : y1 ≤ 4294967295
  y0l : 0 ≤ y0
  y0h : y0 ≤ 4294967295
  w0 : 0 ≤ w
  w1 : w ≤ 4294967295
  u0 : 0 ≤ u
  uy : u < y
  eq : q * y1 + rh = u
  r0 : 0 ≤ rh
  Q0 : 0 ≤ Q
  Qlo : Q * y ≤ u * 4294967296 + w
  Qhi : u * 4294967296 + w < (Q + 1) * y
  le : Q ≤ q
theorem Digit.small {u w y y1 y0 q rh Q : Int} (D : Digit u w y y1 y0 q rh Q) : Q ≤ 4294967295:=by
  obtain ⟨hy,y1l,y1h,y0l,y0h,w0,w1,u0,uy,eq,r0,Q0,Qlo,Qhi,le⟩:=D
  rcases Int.lt_or_le Q 4294967296 with h | h
  · omega
  · have:=Int.mul_le_mul_of_nonneg_right h (by omega : 0 ≤ y)
    omega
theorem Digit.prod {u w y y1 y0 q rh Q : Int} (D : Digit u w y y1 y0 q rh Q) : q * y = (u - rh) * 4294967296 + q * y0:=by
  have h1:=D.hy
  have h2:=D.eq
  rw [h1,Int.mul_add,← Int.mul_assoc]
  omega
theorem Digit.over {u w y y1 y0 q rh Q : Int} (D : Digit u w y y1 y0 q rh Q) (h : q ≥ 4294967296 ∨ q * y0 > 4294967296 * rh + w) : Q ≤ q - 1:=by
  have hs:=D.small
  have hp:=D.prod
  rcases h with h | h
  · omega
  · rcases Int.lt_or_le Q q with k | k
    · omega
    · have:=Int.mul_le_mul_of_nonneg_right k (by have:=D.u0; have:=D.uy; omega : 0 ≤ y)
      have:=D.Qlo
      omega
theorem Digit.under {u w y y1 y0 q rh Q : Int} (D : Digit u w y y1 y0 q rh Q) (h : q * y0 ≤ 4294967296 * rh + w) : q = Q:=by
  have hp:=D.prod
  rcases Int.lt_or_le Q q with k | k
  · have:=Int.mul_le_mul_of_nonneg_right (by omega : Q + 1 ≤ q) (by have:=D.u0; have:=D.uy; omega : 0 ≤ y)
    have:=D.Qhi
    omega
  · have:=D.le
    omega
theorem Digit.out {u w y y1 y0 q rh Q : Int} (D : Digit u w y y1 y0 q rh Q) (h : rh ≥ 4294967296) : q = Q:=by
  have hy:=D.hy
  have he:=D.eq
  have hu:=D.uy
  have a1:=D.y1l
  have a2:=D.y0h
  have a3:=D.y0l
  have a4:=D.w0
  have hq : q ≤ 4294967295:=by
    rcases Int.lt_or_le q 4294967296 with k | k
    · omega
    · have:=Int.mul_le_mul_of_nonneg_right k (by omega : 0 ≤ y1)
      omega
  refine D.under ?_
  have q0 : 0 ≤ q:=Int.le_trans D.Q0 D.le
  have:=Int.mul_le_mul hq a2 a3 (by omega : (0 : Int) ≤ 4294967295)
  omega
theorem Digit.next {u w y y1 y0 q rh Q : Int} (D : Digit u w y y1 y0 q rh Q) (h : Q ≤ q - 1) : Digit u w y y1 y0 (q - 1) (rh + y1) Q:=by
  obtain ⟨hy,y1l,y1h,y0l,y0h,w0,w1,u0,uy,eq,r0,Q0,Qlo,Qhi,le⟩:=D
  exact ⟨hy,y1l,y1h,y0l,y0h,w0,w1,u0,uy,by rw [Int.sub_mul]; omega,by omega,Q0,Qlo,Qhi,h⟩
theorem Digit.first {u w y y1 y0 : Int} (hy : y = y1 * 4294967296 + y0) (y1l : 1 ≤ y1) (y1h : y1 ≤ 4294967295) (y0l : 0 ≤ y0) (y0h : y0 ≤ 4294967295) (w0 : 0 ≤ w) (w1 : w ≤ 4294967295) (u0 : 0 ≤ u) (uy : u < y) :
    Digit u w y y1 y0 (u / y1) (u % y1) ((u * 4294967296 + w) / y):=by
  have hyp : 0 < y:=by omega
  have e:=Int.emod_add_mul_ediv u y1
  have e2:=Int.emod_add_mul_ediv (u * 4294967296 + w) y
  have m0 : 0 ≤ (u * 4294967296 + w) % y:=Int.emod_nonneg _ (by omega)
  have m1 : (u * 4294967296 + w) % y < y:=Int.emod_lt_of_pos _ hyp
  have Q0 : 0 ≤ (u * 4294967296 + w) / y:=Int.ediv_nonneg (by omega) (by omega)
  generalize (u * 4294967296 + w) / y = Q at *
  have hc : Q * y = y * Q:=Int.mul_comm _ _
  refine ⟨hy,y1l,y1h,y0l,y0h,w0,w1,u0,uy,by rw [Int.mul_comm]; omega,Int.emod_nonneg _ (by omega),Q0,by omega,by rw [Int.add_mul]; omega,?_⟩
  rw [Int.le_ediv_iff_mul_le (by omega)]
  have h1 : Q * y = Q * y1 * 4294967296 + Q * y0:=by rw [hy,Int.mul_add,← Int.mul_assoc]
  have h2 : 0 ≤ Q * y0:=Int.mul_nonneg Q0 y0l
  omega
theorem mul_small {a b : Int} (a0 : 0 ≤ a) (a1 : a ≤ 4294967295) (b0 : 0 ≤ b) (b1 : b ≤ 4294967295) : 0 ≤ a * b ∧ a * b ≤ 18446744065119617025:=by
  refine ⟨Int.mul_nonneg a0 b0,?_⟩
  have:=Int.mul_le_mul a1 b1 b0 (by omega : (0 : Int) ≤ 4294967295)
  omega
theorem rest_val (u w q y : U64) (Q : Int) (hq : q.val = Q) (h0 : 0 ≤ u.val * 4294967296 + w.val - Q * y.val) (h1 : u.val * 4294967296 + w.val - Q * y.val ≤ 18446744073709551615) :
    (wu64 ((wu64 ((wu64 (u.val * 4294967296)).val + w.val)).val - (wu64 (q.val * y.val)).val)).val = u.val * 4294967296 + w.val - Q * y.val:=by
  rw [hq]
  generalize Q * y.val = p at *
  simp only [wu64_val]
  omega
theorem Div64_L1 (y s y1 y0 w q1 u : U64) : ∀ (fu : Nat) (rh q : U64) (Q : Int),Digit u.val w.val y.val y1.val y0.val q.val rh.val Q → rh.val < 4294967296 → (4294967296 - rh.val).toNat < fu →
    ∃ q' : U64,q'.val = Q ∧ F_bits_Div64_L1 fu y s y1 y0 w q1 u rh q = ((wu64 ((wu64 (q1.val * 4294967296)).val + q'.val)),(ishr (wu64 ((wu64 ((wu64 (u.val * 4294967296)).val + w.val)).val - (wu64 (q'.val * y.val)).val)) s.val))
  | 0,_,_,_,_,_,h=>absurd h (Nat.not_lt_zero _)
  | fu + 1,rh,q,Q,D,hr,hf=>by
    have hs:=D.small
    have hQ:=D.Q0
    have hle:=D.le
    have a1:=D.y1l
    have a2:=D.y1h
    have q0:=q.lo
    have qh:=q.hi
    have r0:=rh.lo
    have hrv : (wu64 (rh.val + y1.val)).val = rh.val + y1.val:=by rw [wu64_val]; omega
    have step : Q ≤ q.val - 1 → ∃ q' : U64,q'.val = Q ∧ (bif (decide ((wu64 (rh.val + y1.val)).val ≥ 4294967296)) then ((wu64 ((wu64 (q1.val * 4294967296)).val + (wu64 (q.val - 1)).val)),(ishr (wu64 ((wu64 ((wu64 (u.val * 4294967296)).val + w.val)).val - (wu64 ((wu64 (q.val - 1)).val * y.val)).val)) s.val)) else F_bits_Div64_L1 fu y s y1 y0 w q1 u (wu64 (rh.val + y1.val)) (wu64 (q.val - 1))) = ((wu64 ((wu64 (q1.val * 4294967296)).val + q'.val)),(ishr (wu64 ((wu64 ((wu64 (u.val * 4294967296)).val + w.val)).val - (wu64 (q'.val * y.val)).val)) s.val)):=fun h=>by
      have hqv : (wu64 (q.val - 1)).val = q.val - 1:=by rw [wu64_val]; omega
      have D2 : Digit u.val w.val y.val y1.val y0.val (wu64 (q.val - 1)).val (wu64 (rh.val + y1.val)).val Q:=by
        rw [hqv,hrv]; exact D.next h
      by_cases hb : (wu64 (rh.val + y1.val)).val ≥ 4294967296
      · refine ⟨wu64 (q.val - 1),D2.out hb,?_⟩
        simp only [hb,decide_true,cond_true]
      · obtain ⟨q',e1,e2⟩:=Div64_L1 y s y1 y0 w q1 u fu _ _ Q D2 (by omega) (by omega)
        refine ⟨q',e1,?_⟩
        simp only [hb,decide_false,cond_false]
        exact e2
    unfold F_bits_Div64_L1
    by_cases h1 : q.val ≥ 4294967296
    · simp only [h1,decide_true,cond_true]
      exact step (D.over (.inl h1))
    · simp only [h1,decide_false,cond_false]
      have hm:=mul_small q0 (by omega) D.y0l D.y0h
      have w0:=D.w0
      have w1:=D.w1
      have e1 : (wu64 (q.val * y0.val)).val = q.val * y0.val:=by
        generalize q.val * y0.val = p at *
        rw [wu64_val]; omega
      have e2 : (wu64 ((wu64 (4294967296 * rh.val)).val + w.val)).val = 4294967296 * rh.val + w.val:=by simp only [wu64_val]; omega
      rw [e1,e2]
      by_cases h2 : q.val * y0.val > 4294967296 * rh.val + w.val
      · simp only [h2,decide_true,cond_true]
        exact step (D.over (.inr h2))
      · simp only [h2,decide_false,cond_false]
        exact ⟨q,D.under (by omega),rfl⟩
theorem est (u y1 : U64) (h : 1 ≤ y1.val) : (wu64 (Int.tdiv u.val y1.val)).val = u.val / y1.val:=by
  have h1:=u.lo
  have h2:=u.hi
  have hd : Int.tdiv u.val y1.val = u.val / y1.val:=Int.tdiv_eq_ediv_of_nonneg h1
  have q0 : 0 ≤ u.val / y1.val:=Int.ediv_nonneg h1 (by omega)
  have q1 : u.val / y1.val ≤ u.val:=Int.ediv_le_self _ h1
  rw [wu64_val,hd]
  omega
theorem Div64_second (y s y1 y0 w q1 u : U64) (hy : y.val = y1.val * 4294967296 + y0.val) (y1l : 1 ≤ y1.val) (y1h : y1.val ≤ 4294967295) (y0h : y0.val ≤ 4294967295) (w1 : w.val ≤ 4294967295) (uy : u.val < y.val) (hq1 : q1.val ≤ 4294967295) :
    ∃ q r : U64,F_bits_Div64_L1 ((4294967296 - (wu64 (u.val - (wu64 ((wu64 (Int.tdiv u.val y1.val)).val * y1.val)).val)).val).toNat + 1) y s y1 y0 w q1 u (wu64 (u.val - (wu64 ((wu64 (Int.tdiv u.val y1.val)).val * y1.val)).val)) (wu64 (Int.tdiv u.val y1.val)) = (q,ishr r s.val) ∧
      q.val = q1.val * 4294967296 + (u.val * 4294967296 + w.val) / y.val ∧ r.val = (u.val * 4294967296 + w.val) % y.val:=by
  have D:=Digit.first (u:=u.val) (w:=w.val) hy y1l y1h y0.lo y0h w.lo w1 u.lo uy
  have hr:=rem_eq u y1 y1l
  have hq:=est u y1 y1l
  have hlt : (wu64 (u.val - (wu64 ((wu64 (Int.tdiv u.val y1.val)).val * y1.val)).val)).val < 4294967296:=rem_lt u y1 y1l y1h
  rw [← hr,← hq] at D
  have hs:=D.small
  have hQ:=D.Q0
  obtain ⟨q',e1,e2⟩:=Div64_L1 y s y1 y0 w q1 u _ _ _ _ D hlt (Nat.lt_succ_self _)
  refine ⟨_,_,e2,?_,?_⟩
  · have a0:=q1.lo
    simp only [wu64_val,e1]
    omega
  · have e3:=Int.emod_add_mul_ediv (u.val * 4294967296 + w.val) y.val
    have u0:=u.lo
    have m0 : 0 ≤ (u.val * 4294967296 + w.val) % y.val:=Int.emod_nonneg _ (by omega)
    have m1 : (u.val * 4294967296 + w.val) % y.val < y.val:=Int.emod_lt_of_pos _ (by omega)
    have y1':=y.hi
    have hc : (u.val * 4294967296 + w.val) / y.val * y.val = y.val * ((u.val * 4294967296 + w.val) / y.val):=Int.mul_comm _ _
    rw [rest_val u w q' y _ e1 (by omega) (by omega)]
    omega
theorem Div64_L0 (y s y1 y0 un32 w w0 : U64) (hw0 : w0.val ≤ 4294967295) : ∀ (fu : Nat) (rh q : U64) (Q : Int),Digit un32.val w.val y.val y1.val y0.val q.val rh.val Q → rh.val < 4294967296 → (4294967296 - rh.val).toNat < fu →
    ∃ q' r' : U64,F_bits_Div64_L0 fu y s y1 y0 un32 w w0 q rh = (q',ishr r' s.val) ∧ q'.val * y.val + r'.val = un32.val * 18446744073709551616 + w.val * 4294967296 + w0.val ∧ 0 ≤ r'.val ∧ r'.val < y.val
  | 0,_,_,_,_,_,h=>absurd h (Nat.not_lt_zero _)
  | fu + 1,rh,q,Q,D,hr,hf=>by
    have hs:=D.small
    have hQ:=D.Q0
    have hle:=D.le
    have a1:=D.y1l
    have a2:=D.y1h
    have q0:=q.lo
    have qh:=q.hi
    have r0:=rh.lo
    have hrv : (wu64 (rh.val + y1.val)).val = rh.val + y1.val:=by rw [wu64_val]; omega
    have last : ∀ (q2 : U64),q2.val = Q → ∃ q' r' : U64,F_bits_Div64_L1 ((4294967296 - (wu64 ((wu64 ((wu64 ((wu64 (un32.val * 4294967296)).val + w.val)).val - (wu64 (q2.val * y.val)).val)).val - (wu64 ((wu64 (Int.tdiv (wu64 ((wu64 ((wu64 (un32.val * 4294967296)).val + w.val)).val - (wu64 (q2.val * y.val)).val)).val y1.val)).val * y1.val)).val)).val).toNat + 1) y s y1 y0 w0 q2 (wu64 ((wu64 ((wu64 (un32.val * 4294967296)).val + w.val)).val - (wu64 (q2.val * y.val)).val)) (wu64 ((wu64 ((wu64 ((wu64 (un32.val * 4294967296)).val + w.val)).val - (wu64 (q2.val * y.val)).val)).val - (wu64 ((wu64 (Int.tdiv (wu64 ((wu64 ((wu64 (un32.val * 4294967296)).val + w.val)).val - (wu64 (q2.val * y.val)).val)).val y1.val)).val * y1.val)).val)) (wu64 (Int.tdiv (wu64 ((wu64 ((wu64 (un32.val * 4294967296)).val + w.val)).val - (wu64 (q2.val * y.val)).val)).val y1.val)) = (q',ishr r' s.val) ∧ q'.val * y.val + r'.val = un32.val * 18446744073709551616 + w.val * 4294967296 + w0.val ∧ 0 ≤ r'.val ∧ r'.val < y.val:=fun q2 h2=>by
      have yh:=y.hi
      have k1:=D.Qlo
      have k2:=D.Qhi
      have k3 : (Q + 1) * y.val = Q * y.val + y.val:=by rw [Int.add_mul,Int.one_mul]
      have hu:=rest_val un32 w q2 y Q h2 (by omega) (by omega)
      have hw0':=w0.lo
      obtain ⟨q',r',e1,e2,e3⟩:=Div64_second y s y1 y0 w0 q2 (wu64 ((wu64 ((wu64 (un32.val * 4294967296)).val + w.val)).val - (wu64 (q2.val * y.val)).val)) D.hy a1 a2 D.y0h hw0 (by rw [hu]; omega) (by omega)
      rw [hu] at e2 e3
      have e4:=Int.emod_add_mul_ediv ((un32.val * 4294967296 + w.val - Q * y.val) * 4294967296 + w0.val) y.val
      have hc : y.val * (((un32.val * 4294967296 + w.val - Q * y.val) * 4294967296 + w0.val) / y.val) = (((un32.val * 4294967296 + w.val - Q * y.val) * 4294967296 + w0.val) / y.val) * y.val:=Int.mul_comm _ _
      refine ⟨q',r',e1,?_,?_,?_⟩
      · rw [e2,e3,h2,Int.add_mul]
        have : Q * 4294967296 * y.val = Q * y.val * 4294967296:=by rw [Int.mul_assoc,Int.mul_comm 4294967296,← Int.mul_assoc]
        rw [this]
        generalize Q * y.val = p at *
        omega
      · rw [e3]; exact Int.emod_nonneg _ (by omega)
      · rw [e3]; exact Int.emod_lt_of_pos _ (by omega)
    have step : Q ≤ q.val - 1 → (wu64 (q.val - 1)).val = q.val - 1 ∧ Digit un32.val w.val y.val y1.val y0.val (wu64 (q.val - 1)).val (wu64 (rh.val + y1.val)).val Q:=fun h=>by
      have hqv : (wu64 (q.val - 1)).val = q.val - 1:=by rw [wu64_val]; omega
      refine ⟨hqv,?_⟩
      rw [hqv,hrv]; exact D.next h
    unfold F_bits_Div64_L0
    by_cases h1 : q.val ≥ 4294967296
    · simp only [h1,decide_true,cond_true]
      obtain ⟨_,D2⟩:=step (D.over (.inl h1))
      by_cases hb : (wu64 (rh.val + y1.val)).val ≥ 4294967296
      · simp only [hb,decide_true,cond_true]
        exact last _ (D2.out hb)
      · simp only [hb,decide_false,cond_false]
        exact Div64_L0 y s y1 y0 un32 w w0 hw0 fu _ _ Q D2 (by omega) (by omega)
    · simp only [h1,decide_false,cond_false]
      have hm:=mul_small q0 (by omega) D.y0l D.y0h
      have b0:=D.w0
      have b1:=D.w1
      have e1 : (wu64 (q.val * y0.val)).val = q.val * y0.val:=by
        generalize q.val * y0.val = p at *
        rw [wu64_val]; omega
      have e2 : (wu64 ((wu64 (4294967296 * rh.val)).val + w.val)).val = 4294967296 * rh.val + w.val:=by simp only [wu64_val]; omega
      rw [e1,e2]
      by_cases h2 : q.val * y0.val > 4294967296 * rh.val + w.val
      · simp only [h2,decide_true,cond_true]
        obtain ⟨_,D2⟩:=step (D.over (.inr h2))
        by_cases hb : (wu64 (rh.val + y1.val)).val ≥ 4294967296
        · simp only [hb,decide_true,cond_true]
          exact last _ (D2.out hb)
        · simp only [hb,decide_false,cond_false]
          exact Div64_L0 y s y1 y0 un32 w w0 hw0 fu _ _ Q D2 (by omega) (by omega)
      · simp only [h2,decide_false,cond_false]
        exact last q (D.under (by omega))
theorem sp_Div64 (hi lo d : U64) (h : hi.val < d.val) : ∃ q r : U64,F_bits_Div64 hi lo d = (q,r) ∧ q.val * d.val + r.val = hi.val * 18446744073709551616 + lo.val ∧ r.val < d.val:=by
  have hi0:=hi.lo
  have lo0:=lo.lo
  have loh:=lo.hi
  have dh:=d.hi
  unfold F_bits_Div64
  simp only [bindP_eq]
  by_cases hz : hi.val = 0
  · have hb : (hi.val == 0) = true:=by simpa using hz
    rw [hb,cond_true]
    have e:=Int.emod_add_mul_ediv lo.val d.val
    have hc : d.val * (lo.val / d.val) = lo.val / d.val * d.val:=Int.mul_comm _ _
    refine ⟨_,_,rfl,?_,imod_lt _ _ (by omega)⟩
    rw [est lo d (by omega),imod_val,Int.tmod_eq_emod_of_nonneg lo0,hz]
    omega
  · have hb : (hi.val == 0) = false:=by simpa using hz
    rw [hb,cond_false]
    obtain ⟨s,hs,e1,e2,e3,e4⟩:=norm_y d (by omega)
    have hn:=norm_yn d (by omega)
    have hp : (0 : Int) < 2 ^ s:=Int.pow_pos (by decide)
    have hcp : (0 : Int) < 2 ^ (64 - s):=Int.pow_pos (by decide)
    have hpc : (2 : Int) ^ s * 2 ^ (64 - s) = 18446744073709551616:=by rw [← Int.pow_add,show s + (64 - s) = 64 by omega]; rfl
    have ple : (2 : Int) ^ s ≤ 18446744073709551616:=by
      have:=Int.mul_le_mul_of_nonneg_left (by omega : (1 : Int) ≤ 2 ^ (64 - s)) (Int.le_of_lt hp)
      omega
    have hdp : (hi.val + 1) * 2 ^ s ≤ d.val * 2 ^ s:=Int.mul_le_mul_of_nonneg_right (by omega) (Int.le_of_lt hp)
    have hdp2 : (hi.val + 1) * 2 ^ s = hi.val * 2 ^ s + 2 ^ s:=by rw [Int.add_mul,Int.one_mul]
    have hp0 : 0 ≤ hi.val * 2 ^ s:=Int.mul_nonneg hi0 (Int.le_of_lt hp)
    have shl : ∀ x : U64,(ishl .u64 x.val (wu64 (F_bits_LeadingZeros64 d).val).val).val = (x.val * 2 ^ s) % 18446744073709551616:=fun x=>by
      rw [e1]
      show IntKind.u64.wrap (x.val * 2 ^ (min ((s : Int).toNat) 64)) = _
      rw [Int.toNat_natCast,Nat.min_eq_left (by omega),IntKind.wrap_u64]
    have hsh : (ishl .u64 hi.val (wu64 (F_bits_LeadingZeros64 d).val).val).val = hi.val * 2 ^ s:=by rw [shl]; omega
    have h64 : (wu64 (64 - (wu64 (F_bits_LeadingZeros64 d).val).val)).val = ((64 - s : Nat) : Int):=by rw [e1,wu64_val]; omega
    have hlo : (ishr lo (wu64 (64 - (wu64 (F_bits_LeadingZeros64 d).val).val)).val).val = lo.val / 2 ^ (64 - s):=by
      rw [h64,shr_val lo _ (by omega) (by omega),Int.toNat_natCast]
    have l0 : 0 ≤ lo.val / 2 ^ (64 - s):=Int.ediv_nonneg lo0 (Int.le_of_lt hcp)
    have l1 : lo.val / 2 ^ (64 - s) < 2 ^ s:=by
      rw [Int.ediv_lt_iff_lt_mul hcp,hpc]
      omega
    have hor : (ior .u64 (ishl .u64 hi.val (wu64 (F_bits_LeadingZeros64 d).val).val).val (ishr lo (wu64 (64 - (wu64 (F_bits_LeadingZeros64 d).val).val)).val).val).val = hi.val * 2 ^ s + lo.val / 2 ^ (64 - s):=by
      rw [hsh,hlo]
      exact or_add s _ _ hp0 (by omega) (Int.mul_emod_left _ _) l0 l1 (by omega)
    have hm:=shl lo
    have hdiv : (lo.val * 2 ^ s) / 18446744073709551616 = lo.val / 2 ^ (64 - s):=by
      rw [← hpc,Int.mul_comm lo.val,Int.mul_ediv_mul_of_pos _ _ hp]
    have hem:=Int.emod_add_mul_ediv (lo.val * 2 ^ s) 18446744073709551616
    rw [hdiv] at hem
    have m0 : 0 ≤ (ishl .u64 lo.val (wu64 (F_bits_LeadingZeros64 d).val).val).val:=U64.lo _
    have m1 : (ishl .u64 lo.val (wu64 (F_bits_LeadingZeros64 d).val).val).val ≤ 18446744073709551615:=U64.hi _
    have un1:=shr32 (ishl .u64 lo.val (wu64 (F_bits_LeadingZeros64 d).val).val)
    have un0:=and_mask _ m0 (by omega)
    have yn1:=shr32 (ishl .u64 d.val (wu64 (F_bits_LeadingZeros64 d).val).val)
    have yn0:=and_mask (ishl .u64 d.val (wu64 (F_bits_LeadingZeros64 d).val).val).val (U64.lo _) (by have:=U64.hi (ishl .u64 d.val (wu64 (F_bits_LeadingZeros64 d).val).val); omega)
    have hse : (wu64 (F_bits_LeadingZeros64 d).val).val = s:=e1
    have hy : (ishl .u64 d.val (wu64 (F_bits_LeadingZeros64 d).val).val).val = d.val * 2 ^ s:=e2
    clear shl e1 e2 h64 hlo hsh
    generalize (wu64 (F_bits_LeadingZeros64 d).val) = sv at *
    generalize ishl .u64 d.val sv.val = y at *
    generalize ishl .u64 lo.val sv.val = ll at *
    generalize ior .u64 (ishl .u64 hi.val sv.val).val (ishr lo (wu64 (64 - sv.val)).val).val = un32 at *
    generalize ishr y 32 = y1 at *
    generalize iand .u64 y.val 4294967295 = y0 at *
    generalize ishr ll 32 = w at *
    generalize iand .u64 ll.val 4294967295 = w0 at *
    have hu : un32.val < y.val:=by rw [hor,hy]; omega
    have D:=Digit.first (u:=un32.val) (w:=w.val) (y:=y.val) (y1:=y1.val) (y0:=y0.val) (by omega) hn.1 hn.2 (by omega) (by omega) (by omega) (by omega) (U64.lo un32) hu
    have hr:=rem_eq un32 y1 hn.1
    have hq:=est un32 y1 hn.1
    have hlt:=rem_lt un32 y1 hn.1 hn.2
    rw [← hr,← hq] at D
    obtain ⟨q',r',k1,k2,k3,k4⟩:=Div64_L0 y sv y1 y0 un32 w w0 (by omega) _ _ _ _ D hlt (Nat.lt_succ_self _)
    have tot : q'.val * y.val + r'.val = (hi.val * 18446744073709551616 + lo.val) * 2 ^ s:=by
      rw [k2,hor,Int.add_mul (hi.val * 18446744073709551616)]
      have : hi.val * 18446744073709551616 * 2 ^ s = hi.val * 2 ^ s * 18446744073709551616:=by rw [Int.mul_assoc,Int.mul_comm 18446744073709551616,← Int.mul_assoc]
      rw [this]
      omega
    rw [hy] at tot k4
    have hre : r'.val = (hi.val * 18446744073709551616 + lo.val - q'.val * d.val) * 2 ^ s:=by
      rw [Int.sub_mul,← tot,← Int.mul_assoc]
      omega
    have hsr : (ishr r' sv.val).val = hi.val * 18446744073709551616 + lo.val - q'.val * d.val:=by
      rw [hse,shr_val r' _ (by omega) (by omega),Int.toNat_natCast,hre,Int.mul_ediv_cancel _ (by omega)]
    refine ⟨q',ishr r' sv.val,k1,by rw [hsr]; omega,?_⟩
    rw [hsr]
    rw [hre] at k4
    exact Int.lt_of_mul_lt_mul_right k4 (Int.le_of_lt hp)
theorem div_unique {q1 r1 q2 r2 d : Int} (e : q1 * d + r1 = q2 * d + r2) (a0 : 0 ≤ r1) (a1 : r1 < d) (b0 : 0 ≤ r2) (b1 : r2 < d) : q1 = q2 ∧ r1 = r2:=by
  have h : q1 = q2:=by
    rcases Int.lt_trichotomy q1 q2 with h | h | h
    · have:=Int.mul_le_mul_of_nonneg_right (by omega : q1 + 1 ≤ q2) (by omega : 0 ≤ d)
      rw [Int.add_mul] at this
      omega
    · exact h
    · have:=Int.mul_le_mul_of_nonneg_right (by omega : q2 + 1 ≤ q1) (by omega : 0 ≤ d)
      rw [Int.add_mul] at this
      omega
  subst h
  exact ⟨rfl,by omega⟩
theorem eq_divided (hi lo d : U64) (hd : 0 < d.val) : I_divided hi lo d = S_l02Divide hi lo d:=by
  have hm : (imod hi d.val).val = hi.val % d.val:=by rw [imod_val,Int.tmod_eq_emod_of_nonneg hi.lo]
  obtain ⟨q1,r1,a1,a2,a3⟩:=sp_Div64 (imod hi d.val) lo d (imod_lt _ _ (by omega))
  obtain ⟨q2,r2,b1,b2,b3⟩:=sp_Divide hi lo d hd
  obtain ⟨h1,h2⟩:=div_unique (a2.trans (by rw [hm,b2])) r1.lo a3 r2.lo b3
  unfold I_divided
  rw [bindP_eq,a1,b1,IK.eq h1,IK.eq h2]
theorem eq_negative (w : Wd) : I_Wide_negative w = S_l02Minus w:=by
  refine Wd.z_mod ?_
  obtain ⟨k,hk⟩:=Minus_z w
  rw [hk]
  have h1:=w.lo.lo
  have h2:=w.lo.hi
  have h5:=w.hi.lo
  have h6:=w.hi.hi
  unfold I_Wide_negative
  simp only [Wd.z,w64_val,wu64_val,sbb_lo_val,sbb_hi_val,cu64_val]
  refine ⟨(((((0 - w.hi.val % 18446744073709551616 - (if (0 : Int) < w.lo.val + 0 then 1 else 0)) % 18446744073709551616 + 9223372036854775808) % 18446744073709551616 - 9223372036854775808) * 18446744073709551616 + (0 - w.lo.val - 0) % 18446744073709551616 + (w.hi.val * 18446744073709551616 + w.lo.val)) / 340282366920938463463374607431768211456) - k,?_⟩
  split <;> omega
end Go.Proofs.YtfhnlkinjbakgaaGreat.Abs
