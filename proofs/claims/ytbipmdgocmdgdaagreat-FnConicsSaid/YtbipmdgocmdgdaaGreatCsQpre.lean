/- Facts of arithmetic that the walks lean on. -/
import Derived.Laws.Bits64b
import Derived.Lib.BitFns
import Derived.Test.YtbipmdgocmdgdaaGreatCsF3
set_option linter.unusedVariables false
set_option linter.unusedSimpArgs false
namespace Go.Proofs.YtbipmdgocmdgdaaGreat.Abs
open Go
theorem imod_lt (x y : U64) (h : y.val ≠ 0) : (imod x y.val).val < y.val:=by
  have h1:=x.lo
  have h2:=y.lo
  rw [imod_val,Int.tmod_eq_emod_of_nonneg h1]
  exact Int.emod_lt_of_pos _ (by omega)
theorem rem_eq (u y : U64) (h : 1 ≤ y.val) : (wu64 (u.val - (wu64 ((wu64 (Int.tdiv u.val y.val)).val * y.val)).val)).val = u.val % y.val:=by
  have h1:=u.lo
  have h2:=u.hi
  have hd : Int.tdiv u.val y.val = u.val / y.val:=Int.tdiv_eq_ediv_of_nonneg h1
  have q0 : 0 ≤ u.val / y.val:=Int.ediv_nonneg h1 (by omega)
  have q1 : u.val / y.val ≤ u.val:=Int.ediv_le_self _ h1
  have e:=Int.emod_add_mul_ediv u.val y.val
  have m0 : 0 ≤ u.val % y.val:=Int.emod_nonneg _ (by omega)
  have m1 : u.val % y.val < y.val:=Int.emod_lt_of_pos _ (by omega)
  have hm : 0 ≤ u.val / y.val * y.val:=Int.mul_nonneg q0 (by omega)
  have hw : (wu64 (Int.tdiv u.val y.val)).val = u.val / y.val:=by rw [wu64_val,hd]; omega
  have e' : u.val % y.val + u.val / y.val * y.val = u.val:=by rw [Int.mul_comm (u.val / y.val)]; exact e
  rw [hw]
  generalize u.val / y.val * y.val = p at *
  simp only [wu64_val]
  omega
theorem rem_lt (u y : U64) (h : 1 ≤ y.val) (h2 : y.val ≤ 4294967295) : (wu64 (u.val - (wu64 ((wu64 (Int.tdiv u.val y.val)).val * y.val)).val)).val < 4294967296:=by
  rw [rem_eq u y h]
  have:=Int.emod_lt_of_pos u.val (by omega : 0 < y.val)
  omega
theorem bitLen_bounds : ∀ (f x : Nat),0 < x → x < 2 ^ f → 1 ≤ Lib.bitLenAux f x ∧ Lib.bitLenAux f x ≤ f ∧ 2 ^ (Lib.bitLenAux f x - 1) ≤ x ∧ x < 2 ^ Lib.bitLenAux f x
  | 0,x,h0,h1=>by simp at h1; omega
  | f + 1,x,h0,h1=>by
    have e : Lib.bitLenAux (f + 1) x = 1 + Lib.bitLenAux f (x / 2):=by
      rw [Lib.bitLenAux,if_neg (by omega)]
    rw [e]
    have hp : 2 ^ (f + 1) = 2 * 2 ^ f:=by rw [Nat.pow_succ]; omega
    by_cases h : x / 2 = 0
    · have hz : Lib.bitLenAux f (x / 2) = 0:=by
        rw [h]
        cases f <;> rfl
      rw [hz]
      refine ⟨by omega,by omega,?_,?_⟩
      · show 2 ^ 0 ≤ x
        omega
      · show x < 2 ^ 1
        omega
    · obtain ⟨a,b,c,d⟩:=bitLen_bounds f (x / 2) (by omega) (by omega)
      have e1 : 2 ^ (1 + Lib.bitLenAux f (x / 2)) = 2 * 2 ^ Lib.bitLenAux f (x / 2):=by rw [Nat.pow_add]
      have e2 : 2 ^ (1 + Lib.bitLenAux f (x / 2) - 1) = 2 * 2 ^ (Lib.bitLenAux f (x / 2) - 1):=by
        rw [show 1 + Lib.bitLenAux f (x / 2) - 1 = 1 + (Lib.bitLenAux f (x / 2) - 1) by omega,Nat.pow_add]
      refine ⟨by omega,by omega,?_,?_⟩
      · rw [e2]; omega
      · rw [e1]; omega
theorem norm_y (y : U64) (h : 0 < y.val) : ∃ s : Nat,s ≤ 63 ∧ (wu64 (F_bits_LeadingZeros64 y).val).val = s ∧ (ishl .u64 y.val (wu64 (F_bits_LeadingZeros64 y).val).val).val = y.val * 2 ^ s ∧ 9223372036854775808 ≤ y.val * 2 ^ s ∧ y.val * 2 ^ s ≤ 18446744073709551615:=by
  have h1:=y.hi
  obtain ⟨n,hn⟩:=Int.eq_ofNat_of_zero_le (Int.le_of_lt h)
  obtain ⟨a,b,c,d⟩:=bitLen_bounds 64 n (by omega) (by omega)
  have hl : Lib.bitLen n = Lib.bitLenAux 64 n:=rfl
  generalize hL : Lib.bitLenAux 64 n = L at *
  have hs : (wu64 (F_bits_LeadingZeros64 y).val).val = ((64 - L : Nat) : Int):=by
    unfold F_bits_LeadingZeros64
    simp only [wu64_val,w64_val,hn,Int.toNat_natCast,hl]
    omega
  have p1 : 2 ^ (L - 1) * 2 ^ (64 - L) = 9223372036854775808:=by rw [← Nat.pow_add,show L - 1 + (64 - L) = 63 by omega]
  have p2 : 2 ^ L * 2 ^ (64 - L) = 18446744073709551616:=by rw [← Nat.pow_add,show L + (64 - L) = 64 by omega]
  have k1 : 9223372036854775808 ≤ n * 2 ^ (64 - L):=by rw [← p1]; exact Nat.mul_le_mul_right _ c
  have k2 : n * 2 ^ (64 - L) < 18446744073709551616:=by rw [← p2]; exact Nat.mul_lt_mul_of_pos_right d (Nat.pow_pos (by omega))
  have e : (n : Int) * 2 ^ (64 - L) = ((n * 2 ^ (64 - L) : Nat) : Int):=by rw [Int.natCast_mul,Int.natCast_pow]; rfl
  refine ⟨64 - L,by omega,hs,?_,?_,?_⟩
  · rw [hs]
    show IntKind.u64.wrap (y.val * 2 ^ (min ((64 - L : Nat) : Int).toNat 64)) = _
    rw [Int.toNat_natCast,Nat.min_eq_left (by omega),IntKind.wrap_u64,hn,e]
    omega
  · rw [hn,e]; omega
  · rw [hn,e]; omega
theorem norm_yn (y : U64) (h : 0 < y.val) : 1 ≤ (ishr (ishl .u64 y.val (wu64 (F_bits_LeadingZeros64 y).val).val) 32).val ∧ (ishr (ishl .u64 y.val (wu64 (F_bits_LeadingZeros64 y).val).val) 32).val ≤ 4294967295:=by
  obtain ⟨s,_,_,e,e1,e2⟩:=norm_y y h
  rw [ishr_val,e,Int.fdiv_eq_ediv_of_nonneg _ (by decide)]
  show 1 ≤ y.val * 2 ^ s / 4294967296 ∧ y.val * 2 ^ s / 4294967296 ≤ 4294967295
  omega
theorem shr1_val (x : I64) : (ishr x 1).val = x.val / 2:=by
  rw [ishr_val,Int.fdiv_eq_ediv_of_nonneg _ (by decide)]
  rfl
theorem impl_quarter_bounds (n : I64) : -1000 ≤ (I_QuarterOf n).val ∧ (I_QuarterOf n).val ≤ 1000:=by
  have h1:=n.lo
  have h2:=n.hi
  unfold I_QuarterOf I_isAngle I_within
  simp only [bindP,c64_val]
  by_cases ha : n.val ≥ -1099511627776
  · by_cases hb : n.val ≤ 1099511627776
    · simp only [ha,hb,decide_true,cond_true,Bool.not_true,cond_false]
      have e : (w64 (n.val + 3373259426)).val = n.val + 3373259426:=by rw [w64_val]; omega
      have q : -1000 < Int.tdiv (n.val + 3373259426) 6746518852 ∧ Int.tdiv (n.val + 3373259426) 6746518852 ≤ 1000:=by
        by_cases hs : 0 ≤ n.val + 3373259426
        · rw [Int.tdiv_eq_ediv_of_nonneg hs]; omega
        · have : Int.tdiv (n.val + 3373259426) 6746518852 = -((-(n.val + 3373259426)) / 6746518852):=by
            rw [← Int.tdiv_eq_ediv_of_nonneg (by omega),Int.neg_tdiv,Int.neg_neg]
          rw [this]; omega
      rw [e]
      generalize Int.tdiv (n.val + 3373259426) 6746518852 = p at *
      generalize decide ((w64 ((w64 p).val * 6746518852)).val > n.val + 3373259426) = q2
      cases q2 <;> simp only [cond_true,cond_false,w64_val] <;> omega
    · simp only [ha,hb,decide_true,decide_false,cond_true,Bool.not_false,c64_val]
      omega
  · simp only [ha,decide_false,cond_false,Bool.not_false,cond_true,c64_val]
    omega
theorem Ok4p {a : Iv} (h : S_l04Ok a = true) : -1152921504606846976 < a.lo.val ∧ a.lo.val ≤ a.hi.val ∧ a.hi.val < 1152921504606846976:=by
  unfold S_l04Ok at h
  by_cases q : -1152921504606846976 < a.lo.val
  · by_cases q2 : a.lo.val ≤ a.hi.val
    · by_cases q3 : a.hi.val < 1152921504606846976
      · exact ⟨q,q2,q3⟩
      · simp [q3] at h
    · simp [q2] at h
  · simp [q] at h
theorem shr_val_nn (a e : I64) (h : 0 ≤ a.val) (he : 0 ≤ e.val) (he2 : e.val ≤ 64) : (ishr a e.val).val = a.val / 2 ^ e.val.toNat:=by
  rw [ishr_val,Int.fdiv_eq_ediv_of_nonneg _ (Int.le_of_lt (Int.pow_pos (by decide))),Nat.min_eq_left (by show e.val.toNat ≤ 64; omega)]
theorem shr_big (a e : I64) (h2 : a.val ≤ 1152921504606846976) (h0 : 0 ≤ e.val) (h : decide ((ishr a e.val).val ≥ 6442450944) = true) : e.val ≤ 27:=by
  have h:=of_decide_eq_true h
  rw [ishr_val,Int.fdiv_eq_ediv_of_nonneg _ (Int.le_of_lt (Int.pow_pos (by decide)))] at h
  by_cases q : e.val ≤ 27
  · exact q
  · exfalso
    have hp : (268435456 : Int) ≤ 2 ^ (min e.val.toNat IntKind.i64.bits):=by
      have : (2 : Nat) ^ 28 ≤ 2 ^ (min e.val.toNat IntKind.i64.bits):=Nat.pow_le_pow_right (by decide) (by show 28 ≤ min e.val.toNat 64; omega)
      have h3 : ((2 ^ 28 : Nat) : Int) ≤ ((2 ^ (min e.val.toNat IntKind.i64.bits) : Nat) : Int):=Int.ofNat_le.2 this
      rw [Int.natCast_pow] at h3
      exact h3
    generalize (2 : Int) ^ (min e.val.toNat IntKind.i64.bits) = p at *
    have h3 : 6442450944 * p ≤ a.val:=(Int.le_ediv_iff_mul_le (by omega)).1 h
    omega
theorem two_exit (a e : I64) (he : 0 ≤ e.val) (h : decide ((ishr a e.val).val ≥ 6442450944) = false) : e.val ≤ 0 → a.val * 2 ^ (0 - e.val).toNat < 6442450944:=by
  intro h0
  have : e.val = 0:=by omega
  rw [this] at h ⊢
  have e1 : (ishr a 0).val = a.val:=by
    rw [ishr_val]
    show a.val.fdiv (2 ^ 0) = a.val
    rw [Int.pow_zero,Int.fdiv_one]
  simp only [decide_eq_false_iff_not,e1] at h
  show a.val * 2 ^ 0 < _
  rw [Int.pow_zero,Int.mul_one]
  omega
theorem pow_step (a e : Int) (he : e ≤ 0) : a * 2 ^ (0 - (e - 1)).toNat = 2 * (a * 2 ^ (0 - e).toNat):=by
  rw [show (0 - (e - 1)).toNat = (0 - e).toNat + 1 by omega,Int.pow_succ,← Int.mul_assoc,Int.mul_comm]
theorem two_up (a e : I64) (q2 : a.val * 2 ^ (0 - e.val).toNat < 6442450944) (h1 : 1 ≤ a.val) (he : e.val ≤ 0) : -33 < e.val:=by
  by_cases q : -33 < e.val
  · exact q
  · exfalso
    have hp : (8589934592 : Int) ≤ 2 ^ (0 - e.val).toNat:=by
      have : (2 : Nat) ^ 33 ≤ 2 ^ (0 - e.val).toNat:=Nat.pow_le_pow_right (by decide) (by omega)
      have h3 : ((2 ^ 33 : Nat) : Int) ≤ ((2 ^ (0 - e.val).toNat : Nat) : Int):=Int.ofNat_le.2 this
      rw [Int.natCast_pow] at h3
      exact h3
    generalize (2 : Int) ^ (0 - e.val).toNat = p at *
    have : 1 * p ≤ a.val * p:=Int.mul_le_mul_of_nonneg_right h1 (by omega)
    omega
theorem shl_val_lo (a e n : I64) (q2 : a.val * 2 ^ (0 - e.val).toNat < 6442450944) (h1 : 1 ≤ a.val) (he : e.val ≤ 0) (hn : n.val = 0 - e.val) : (ishl .i64 a.val n.val).val = a.val * 2 ^ (0 - e.val).toNat:=by
  have hb:=two_up a e q2 h1 he
  have hp : (0 : Int) < 2 ^ (0 - e.val).toNat:=Int.pow_pos (by decide)
  show IntKind.i64.wrap (a.val * 2 ^ (min n.val.toNat 64)) = _
  rw [hn,Nat.min_eq_left (by omega),IntKind.wrap_i64]
  have : 0 ≤ a.val * 2 ^ (0 - e.val).toNat:=Int.mul_nonneg (by omega) (by omega)
  omega
theorem two_less (a e : I64) (h1 : 1 ≤ a.val) (q2 : e.val ≤ 0 → a.val * 2 ^ (0 - e.val).toNat < 6442450944) (he : decide (e.val ≤ 0) = true) (h : decide ((ishl .i64 a.val (w64 (0 - e.val)).val).val < 3221225472) = true) :
    -33 < e.val ∧ e.val ≤ 0 ∧ ((w64 (e.val - 1)).val ≤ 0 → a.val * 2 ^ (0 - (w64 (e.val - 1)).val).toNat < 6442450944):=by
  simp only [decide_eq_true_eq] at he h
  have hq:=q2 he
  have hb:=two_up a e hq h1 he
  have hn : (w64 (0 - e.val)).val = 0 - e.val:=by rw [w64_val]; omega
  rw [shl_val_lo a e (w64 (0 - e.val)) hq h1 he hn] at h
  refine ⟨hb,he,fun _=>?_⟩
  have hm : (w64 (e.val - 1)).val = e.val - 1:=by rw [w64_val]; omega
  rw [hm,pow_step a.val e.val he]
  omega
theorem wu_nn (e : I64) (h : 0 ≤ e.val) : (wu64 e.val).val = e.val:=by
  have:=e.hi
  rw [wu64_val]
  omega
theorem spec_shr_big (a e : I64) (m : Iv) (h2 : a.val ≤ 1152921504606846976) (h0 : 0 ≤ e.val) (h40 : e.val ≤ 40) (hm : m.lo.val = (ishr a (wu64 e.val).val).val) (h : decide (m.lo.val ≥ 6442450944) = true) :
    e.val ≤ 27 ∧ 3221225472 ≤ (ishr a (wu64 (w64 (e.val + 1)).val).val).val:=by
  rw [hm,wu_nn e h0] at h
  refine ⟨shr_big a e h2 h0 h,?_⟩
  have e1 : (w64 (e.val + 1)).val = e.val + 1:=by rw [w64_val]; omega
  rw [wu_nn _ (by omega),e1]
  have h:=of_decide_eq_true h
  rw [ishr_val,Int.fdiv_eq_ediv_of_nonneg _ (Int.le_of_lt (Int.pow_pos (by decide))),show min e.val.toNat IntKind.i64.bits = e.val.toNat by show min e.val.toNat 64 = _; omega] at h
  rw [ishr_val,Int.fdiv_eq_ediv_of_nonneg _ (Int.le_of_lt (Int.pow_pos (by decide))),show min (e.val + 1).toNat IntKind.i64.bits = e.val.toNat + 1 by show min (e.val + 1).toNat 64 = _; omega,Int.pow_succ]
  have hp : (0 : Int) < 2 ^ e.val.toNat:=Int.pow_pos (by decide)
  rw [← Int.ediv_ediv_of_nonneg (by omega)]
  omega
theorem shr0' (a : I64) : (ishr a 0).val = a.val:=by
  rw [ishr_val]
  show a.val.fdiv (2 ^ 0) = a.val
  rw [Int.pow_zero,Int.fdiv_one]
theorem expk_range (a : I64) (h1 : decide (a.val < (-98784247808)) = false) (h2 : decide (a.val > 85899345920) = false) :
    -100 ≤ (w64 ((w64 (Int.tdiv (w64 ((w64 (2 * a.val)).val + 2977044472)).val 5954088944)).val - 1)).val ∧ (w64 ((w64 (Int.tdiv (w64 ((w64 (2 * a.val)).val + 2977044472)).val 5954088944)).val - 1)).val ≤ 100 ∧
    -100 ≤ (w64 (Int.tdiv (w64 ((w64 (2 * a.val)).val + 2977044472)).val 5954088944)).val ∧ (w64 (Int.tdiv (w64 ((w64 (2 * a.val)).val + 2977044472)).val 5954088944)).val ≤ 100:=by
  simp only [decide_eq_false_iff_not] at h1 h2
  have e : (w64 ((w64 (2 * a.val)).val + 2977044472)).val = 2 * a.val + 2977044472:=by simp only [w64_val]; omega
  have q : -50 ≤ Int.tdiv (2 * a.val + 2977044472) 5954088944 ∧ Int.tdiv (2 * a.val + 2977044472) 5954088944 ≤ 50:=by
    by_cases hs : 0 ≤ 2 * a.val + 2977044472
    · rw [Int.tdiv_eq_ediv_of_nonneg hs]; omega
    · have : Int.tdiv (2 * a.val + 2977044472) 5954088944 = -((-(2 * a.val + 2977044472)) / 5954088944):=by
        rw [← Int.tdiv_eq_ediv_of_nonneg (by omega),Int.neg_tdiv,Int.neg_neg]
      rw [this]; omega
  rw [e]
  generalize Int.tdiv (2 * a.val + 2977044472) 5954088944 = p at *
  have e2 : (w64 p).val = p:=by rw [w64_val]; omega
  rw [e2]
  have e3 : (w64 (p - 1)).val = p - 1:=by rw [w64_val]; omega
  rw [e3]
  omega
theorem validfix_p {a : I64} {r : Bool} (h : r = I_ValidFix a) (h2 : (!r) = false) : -1152921504606846976 ≤ a.val ∧ a.val ≤ 1152921504606846976:=by
  rw [h] at h2
  by_cases q : a.val ≥ -1152921504606846976
  · by_cases q2 : a.val ≤ 1152921504606846976
    · exact ⟨q,q2⟩
    · simp [I_ValidFix,I_within,bindP,c64_val,q2] at h2
  · simp [I_ValidFix,I_within,bindP,c64_val,q] at h2
theorem twosOf_b1 (a : I64) : ∀ (fu : Nat) (e : I64),-1000 + (fu : Int) ≤ e.val → e.val ≤ 1000 → -1000 ≤ (I_twosOf_L1 fu a e).val ∧ (I_twosOf_L1 fu a e).val ≤ 1000:=by
  intro fu
  induction fu with
  | zero=>intro e _ _; unfold I_twosOf_L1; simp only [c64_val]; omega
  | succ fu ih=>
    intro e h1 h2
    unfold I_twosOf_L1
    cases decide (e.val ≤ 0)
    · rw [cond_false]; omega
    · rw [cond_true]
      cases decide ((ishl .i64 a.val (w64 (0 - e.val)).val).val < 3221225472)
      · rw [cond_false]; omega
      · rw [cond_true]
        have : (w64 (e.val - 1)).val = e.val - 1:=by rw [w64_val]; omega
        exact ih _ (by omega) (by omega)
theorem twosOf_b0 (a : I64) : ∀ (fu : Nat) (e : I64),e.val + (fu : Int) ≤ 400 → 0 ≤ e.val → -1000 ≤ (I_twosOf_L0 fu a e).val ∧ (I_twosOf_L0 fu a e).val ≤ 1000:=by
  intro fu
  induction fu with
  | zero=>intro e _ _; unfold I_twosOf_L0; simp only [c64_val]; omega
  | succ fu ih=>
    intro e h1 h2
    unfold I_twosOf_L0
    cases decide ((ishr a e.val).val ≥ 6442450944)
    · rw [cond_false]; exact twosOf_b1 a _ e (by omega) (by omega)
    · rw [cond_true]
      have : (w64 (e.val + 1)).val = e.val + 1:=by rw [w64_val]; omega
      exact ih _ (by omega) (by omega)
theorem twosOf_b (a : I64) : -1000 ≤ (I_twosOf a).val ∧ (I_twosOf a).val ≤ 1000:=by
  unfold I_twosOf
  exact twosOf_b0 a _ _ (by simp only [c64_val]; omega) (by simp only [c64_val]; omega)
theorem byte_range (x : U8) : 0 ≤ x.val ∧ x.val ≤ 255:=by
  have h:=x.ok
  simp [IntKind.min,IntKind.max,IntKind.bits,IntKind.signed] at h
  exact h
theorem w_byte (x : U8) : 0 ≤ (w64 x.val).val ∧ (w64 x.val).val ≤ 255:=by
  have h:=byte_range x
  rw [w64_val]
  omega
theorem w_and (x : Int) : 0 ≤ (w64 (iand .u64 x 255).val).val ∧ (w64 (iand .u64 x 255).val).val ≤ 255:=by
  have h : (iand .u64 x 255).val = IntKind.u64.wrap ((BitVec.ofInt 64 x &&& BitVec.ofInt 64 255).toNat):=rfl
  have h2 : (BitVec.ofInt 64 x &&& BitVec.ofInt 64 255).toNat ≤ 255:=by
    rw [BitVec.toNat_and]
    exact Nat.le_trans Nat.and_le_right (by decide)
  rw [IntKind.wrap_u64] at h
  rw [w64_val,h]
  omega
theorem next_range (C : Cd) (b : Src) : 0 ≤ (S_l00Src_next__src C b).1.val ∧ (S_l00Src_next__src C b).1.val ≤ 255:=by
  unfold S_l00Src_next__src
  cases decide (b.ix.val < ((C.L.length : Nat) : Int)) <;> cases decide ((w64 (b.ix.val + 1)).val ≤ ((C.L.length : Nat) : Int)) <;> simp only [cond_true,cond_false] <;> first | exact w_and _ | exact w_byte _ | exact ⟨by decide,by decide⟩
theorem pick_range (C : Cd) (b : Src) (a : I64) : 0 ≤ (S_l00Src_pick__src C b a).1.val ∧ (1 < a.val → (S_l00Src_pick__src C b a).1.val < a.val):=by
  unfold S_l00Src_pick__src
  by_cases h : a.val ≤ 1
  · rw [decide_eq_true h]
    simp only [cond_true]
    exact ⟨Int.le_refl 0,fun h2=>by omega⟩
  · rw [decide_eq_false h]
    simp only [cond_false,bindP]
    have h1:=next_range C b
    cases decide (a.val > 200)
    · simp only [cond_false,imod_val]
      exact ⟨Int.tmod_nonneg _ h1.1,fun _=>Int.tmod_lt_of_pos _ (by omega)⟩
    · simp only [cond_true,imod_val]
      have h2:=next_range C (S_l00Src_next__src C b).2
      have h3 : (w64 ((w64 ((S_l00Src_next__src C b).1.val * 256)).val + (S_l00Src_next__src C (S_l00Src_next__src C b).2).1.val)).val = (S_l00Src_next__src C b).1.val * 256 + (S_l00Src_next__src C (S_l00Src_next__src C b).2).1.val:=by
        simp only [w64_val]
        omega
      rw [h3]
      exact ⟨Int.tmod_nonneg _ (by omega),fun _=>Int.tmod_lt_of_pos _ (by omega)⟩
end Go.Proofs.YtbipmdgocmdgdaaGreat.Abs
