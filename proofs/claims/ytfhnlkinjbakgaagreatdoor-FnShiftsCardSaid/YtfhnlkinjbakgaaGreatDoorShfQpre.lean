/- Facts of arithmetic that the walks lean on. -/
import Derived.Laws.Bits64b
import Derived.Lib.BitFns
import Derived.Test.YtfhnlkinjbakgaaGreatDoorShfFa
set_option linter.unusedVariables false
set_option linter.unusedSimpArgs false
namespace Go.Proofs.YtfhnlkinjbakgaaGreatDoor.Abs
open Go
theorem imod_lt (x y : U64) (h : y.val ≠ 0) : (imod x y.val).val < y.val:=by
  have h1:=x.lo
  have h2:=y.lo
  rw [imod_val,Int.tmod_eq_emod_of_nonneg h1]
  exact Int.emod_lt_of_pos _ (by omega)
theorem rem_eq (u y : U64) (h : 1 ≤ y.val) : (wu64 (u.val - (wu64 ((wu64 (Int.tdiv u.val y.val)).val * y.val)).val)).val = u.val % y.val:=by
  have h1:=u.lo
  have h2:=u.hi
  have hd : Int.tdiv u.val y.val = u.val / y.val:=Int.tdiv_eq_ediv_of_nonneg h1
  have q0 : 0 ≤ u.val / y.val:=Int.ediv_nonneg h1 (by omega)
  have q1 : u.val / y.val ≤ u.val:=Int.ediv_le_self _ h1
  have e:=Int.emod_add_mul_ediv u.val y.val
  have m0 : 0 ≤ u.val % y.val:=Int.emod_nonneg _ (by omega)
  have m1 : u.val % y.val < y.val:=Int.emod_lt_of_pos _ (by omega)
  have hm : 0 ≤ u.val / y.val * y.val:=Int.mul_nonneg q0 (by omega)
  have hw : (wu64 (Int.tdiv u.val y.val)).val = u.val / y.val:=by rw [wu64_val,hd]; omega
  have e' : u.val % y.val + u.val / y.val * y.val = u.val:=by rw [Int.mul_comm (u.val / y.val)]; exact e
  rw [hw]
  generalize u.val / y.val * y.val = p at *
  simp only [wu64_val]
  omega
theorem rem_lt (u y : U64) (h : 1 ≤ y.val) (h2 : y.val ≤ 4294967295) : (wu64 (u.val - (wu64 ((wu64 (Int.tdiv u.val y.val)).val * y.val)).val)).val < 4294967296:=by
  rw [rem_eq u y h]
  have:=Int.emod_lt_of_pos u.val (by omega : 0 < y.val)
  omega
theorem bitLen_bounds : ∀ (f x : Nat),0 < x → x < 2 ^ f → 1 ≤ Lib.bitLenAux f x ∧ Lib.bitLenAux f x ≤ f ∧ 2 ^ (Lib.bitLenAux f x - 1) ≤ x ∧ x < 2 ^ Lib.bitLenAux f x
  | 0,x,h0,h1=>by simp at h1; omega
  | f + 1,x,h0,h1=>by
    have e : Lib.bitLenAux (f + 1) x = 1 + Lib.bitLenAux f (x / 2):=by
      rw [Lib.bitLenAux,if_neg (by omega)]
    rw [e]
    have hp : 2 ^ (f + 1) = 2 * 2 ^ f:=by rw [Nat.pow_succ]; omega
    by_cases h : x / 2 = 0
    · have hz : Lib.bitLenAux f (x / 2) = 0:=by
        rw [h]
        cases f <;> rfl
      rw [hz]
      refine ⟨by omega,by omega,?_,?_⟩
      · show 2 ^ 0 ≤ x
        omega
      · show x < 2 ^ 1
        omega
    · obtain ⟨a,b,c,d⟩:=bitLen_bounds f (x / 2) (by omega) (by omega)
      have e1 : 2 ^ (1 + Lib.bitLenAux f (x / 2)) = 2 * 2 ^ Lib.bitLenAux f (x / 2):=by rw [Nat.pow_add]
      have e2 : 2 ^ (1 + Lib.bitLenAux f (x / 2) - 1) = 2 * 2 ^ (Lib.bitLenAux f (x / 2) - 1):=by
        rw [show 1 + Lib.bitLenAux f (x / 2) - 1 = 1 + (Lib.bitLenAux f (x / 2) - 1) by omega,Nat.pow_add]
      refine ⟨by omega,by omega,?_,?_⟩
      · rw [e2]; omega
      · rw [e1]; omega
theorem norm_y (y : U64) (h : 0 < y.val) : ∃ s : Nat,s ≤ 63 ∧ (wu64 (F_bits_LeadingZeros64 y).val).val = s ∧ (ishl .u64 y.val (wu64 (F_bits_LeadingZeros64 y).val).val).val = y.val * 2 ^ s ∧ 9223372036854775808 ≤ y.val * 2 ^ s ∧ y.val * 2 ^ s ≤ 18446744073709551615:=by
  have h1:=y.hi
  obtain ⟨n,hn⟩:=Int.eq_ofNat_of_zero_le (Int.le_of_lt h)
  obtain ⟨a,b,c,d⟩:=bitLen_bounds 64 n (by omega) (by omega)
  have hl : Lib.bitLen n = Lib.bitLenAux 64 n:=rfl
  generalize hL : Lib.bitLenAux 64 n = L at *
  have hs : (wu64 (F_bits_LeadingZeros64 y).val).val = ((64 - L : Nat) : Int):=by
    unfold F_bits_LeadingZeros64
    simp only [wu64_val,w64_val,hn,Int.toNat_natCast,hl]
    omega
  have p1 : 2 ^ (L - 1) * 2 ^ (64 - L) = 9223372036854775808:=by rw [← Nat.pow_add,show L - 1 + (64 - L) = 63 by omega]
  have p2 : 2 ^ L * 2 ^ (64 - L) = 18446744073709551616:=by rw [← Nat.pow_add,show L + (64 - L) = 64 by omega]
  have k1 : 9223372036854775808 ≤ n * 2 ^ (64 - L):=by rw [← p1]; exact Nat.mul_le_mul_right _ c
  have k2 : n * 2 ^ (64 - L) < 18446744073709551616:=by rw [← p2]; exact Nat.mul_lt_mul_of_pos_right d (Nat.pow_pos (by omega))
  have e : (n : Int) * 2 ^ (64 - L) = ((n * 2 ^ (64 - L) : Nat) : Int):=by rw [Int.natCast_mul,Int.natCast_pow]; rfl
  refine ⟨64 - L,by omega,hs,?_,?_,?_⟩
  · rw [hs]
    show IntKind.u64.wrap (y.val * 2 ^ (min ((64 - L : Nat) : Int).toNat 64)) = _
    rw [Int.toNat_natCast,Nat.min_eq_left (by omega),IntKind.wrap_u64,hn,e]
    omega
  · rw [hn,e]; omega
  · rw [hn,e]; omega
theorem norm_yn (y : U64) (h : 0 < y.val) : 1 ≤ (ishr (ishl .u64 y.val (wu64 (F_bits_LeadingZeros64 y).val).val) 32).val ∧ (ishr (ishl .u64 y.val (wu64 (F_bits_LeadingZeros64 y).val).val) 32).val ≤ 4294967295:=by
  obtain ⟨s,_,_,e,e1,e2⟩:=norm_y y h
  rw [ishr_val,e,Int.fdiv_eq_ediv_of_nonneg _ (by decide)]
  show 1 ≤ y.val * 2 ^ s / 4294967296 ∧ y.val * 2 ^ s / 4294967296 ≤ 4294967295
  omega
theorem spec_quarter_bounds (n : I64) : -1000 ≤ (S_QuarterOf n).val ∧ (S_QuarterOf n).val ≤ 1000:=by
  have h1:=n.lo
  have h2:=n.hi
  unfold S_QuarterOf S_l06Angle S_l06Floor S_l00In
  simp only [bindP,c64_val]
  by_cases ha : n.val ≥ -1099511627776
  · by_cases hb : n.val ≤ 1099511627776
    · simp only [ha,hb,decide_true,cond_true,Bool.not_true,cond_false]
      have e : (w64 (n.val + 3373259426)).val = n.val + 3373259426:=by rw [w64_val]; omega
      have q : -1000 < Int.tdiv (n.val + 3373259426) 6746518852 ∧ Int.tdiv (n.val + 3373259426) 6746518852 ≤ 1000:=by
        by_cases hs : 0 ≤ n.val + 3373259426
        · rw [Int.tdiv_eq_ediv_of_nonneg hs]; omega
        · have : Int.tdiv (n.val + 3373259426) 6746518852 = -((-(n.val + 3373259426)) / 6746518852):=by
            rw [← Int.tdiv_eq_ediv_of_nonneg (by omega),Int.neg_tdiv,Int.neg_neg]
          rw [this]; omega
      rw [e]
      generalize Int.tdiv (n.val + 3373259426) 6746518852 = p at *
      by_cases hm : (imod (w64 (n.val + 3373259426)) 6746518852).val < 0
      · simp only [hm,decide_true,cond_true,w64_val]; omega
      · simp only [hm,decide_false,cond_false,w64_val]; omega
    · simp only [ha,hb,decide_true,decide_false,cond_true,Bool.not_false,c64_val]
      omega
  · simp only [ha,decide_false,cond_false,Bool.not_false,cond_true,c64_val]
    omega
theorem spec_quarter_le (n : I64) : (S_QuarterOf n).val ≤ 1000:=(spec_quarter_bounds n).2
theorem spec_quarter_ge (n : I64) : -1000 ≤ (S_QuarterOf n).val:=(spec_quarter_bounds n).1
theorem Ok4p {a : Iv} (h : S_l04Ok a = true) : -1152921504606846976 < a.lo.val ∧ a.lo.val ≤ a.hi.val ∧ a.hi.val < 1152921504606846976:=by
  unfold S_l04Ok at h
  by_cases q : -1152921504606846976 < a.lo.val
  · by_cases q2 : a.lo.val ≤ a.hi.val
    · by_cases q3 : a.hi.val < 1152921504606846976
      · exact ⟨q,q2,q3⟩
      · simp [q3] at h
    · simp [q2] at h
  · simp [q] at h
theorem byte_range (x : U8) : 0 ≤ x.val ∧ x.val ≤ 255:=by
  have h:=x.ok
  simp [IntKind.min,IntKind.max,IntKind.bits,IntKind.signed] at h
  exact h
theorem w_byte (x : U8) : 0 ≤ (w64 x.val).val ∧ (w64 x.val).val ≤ 255:=by
  have h:=byte_range x
  rw [w64_val]
  omega
theorem w_and (x : Int) : 0 ≤ (w64 (iand .u64 x 255).val).val ∧ (w64 (iand .u64 x 255).val).val ≤ 255:=by
  have h : (iand .u64 x 255).val = IntKind.u64.wrap ((BitVec.ofInt 64 x &&& BitVec.ofInt 64 255).toNat):=rfl
  have h2 : (BitVec.ofInt 64 x &&& BitVec.ofInt 64 255).toNat ≤ 255:=by
    rw [BitVec.toNat_and]
    exact Nat.le_trans Nat.and_le_right (by decide)
  rw [IntKind.wrap_u64] at h
  rw [w64_val,h]
  omega
theorem next_range (C : Cd) (b : Src) : 0 ≤ (S_l00Src_next__src C b).1.val ∧ (S_l00Src_next__src C b).1.val ≤ 255:=by
  unfold S_l00Src_next__src
  cases decide (b.ix.val < ((C.L.length : Nat) : Int)) <;> cases decide ((w64 (b.ix.val + 1)).val ≤ ((C.L.length : Nat) : Int)) <;> simp only [cond_true,cond_false] <;> first | exact w_and _ | exact w_byte _ | exact ⟨by decide,by decide⟩
theorem pick_range (C : Cd) (b : Src) (a : I64) : 0 ≤ (S_l00Src_pick__src C b a).1.val ∧ (1 < a.val → (S_l00Src_pick__src C b a).1.val < a.val):=by
  unfold S_l00Src_pick__src
  by_cases h : a.val ≤ 1
  · rw [decide_eq_true h]
    simp only [cond_true]
    exact ⟨Int.le_refl 0,fun h2=>by omega⟩
  · rw [decide_eq_false h]
    simp only [cond_false,bindP]
    have h1:=next_range C b
    cases decide (a.val > 200)
    · simp only [cond_false,imod_val]
      exact ⟨Int.tmod_nonneg _ h1.1,fun _=>Int.tmod_lt_of_pos _ (by omega)⟩
    · simp only [cond_true,imod_val]
      have h2:=next_range C (S_l00Src_next__src C b).2
      have h3 : (w64 ((w64 ((S_l00Src_next__src C b).1.val * 256)).val + (S_l00Src_next__src C (S_l00Src_next__src C b).2).1.val)).val = (S_l00Src_next__src C b).1.val * 256 + (S_l00Src_next__src C (S_l00Src_next__src C b).2).1.val:=by
        simp only [w64_val]
        omega
      rw [h3]
      exact ⟨Int.tmod_nonneg _ (by omega),fun _=>Int.tmod_lt_of_pos _ (by omega)⟩
theorem among_scale (C : Cd) (b : Src) : (S_l00Src_among__src__s2 C (c64 10000) (c64 1000000) b).1.val = 10000 ∨ (S_l00Src_among__src__s2 C (c64 10000) (c64 1000000) b).1.val = 1000000:=by
  have z:=pick_range C b (c64 2)
  have z2:=z.2 (by decide)
  have z3 : (c64 2).val = 2:=by decide
  rw [z3] at z2
  show (listAt [c64 10000,c64 1000000] (S_l00Src_pick__src C b (c64 2)).1).val = 10000 ∨ (listAt [c64 10000,c64 1000000] (S_l00Src_pick__src C b (c64 2)).1).val = 1000000
  have h : (S_l00Src_pick__src C b (c64 2)).1.val = 0 ∨ (S_l00Src_pick__src C b (c64 2)).1.val = 1:=by
    have:=z.1
    omega
  unfold listAt
  rcases h with h | h
  · rw [h]; exact .inl (by decide)
  · rw [h]; exact .inr (by decide)
end Go.Proofs.YtfhnlkinjbakgaaGreatDoor.Abs
