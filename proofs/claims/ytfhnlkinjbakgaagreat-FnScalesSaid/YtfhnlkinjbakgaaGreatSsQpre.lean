/- Facts of arithmetic that the walks lean on. -/
import Derived.Laws.Bits64b
import Derived.Lib.BitFns
import Derived.Test.YtfhnlkinjbakgaaGreatSsF3
set_option linter.unusedVariables false
set_option linter.unusedSimpArgs false
namespace Go.Proofs.YtfhnlkinjbakgaaGreat.Abs
open Go
theorem Y7 (x y : Dp) (h : y.val ≠ 0) : (Jl x y.val).val < y.val:=by
  have h1:=x.lo
  have h2:=y.lo
  rw [Ll,Int.tmod_eq_emod_of_nonneg h1]
  exact Int.emod_lt_of_pos _ (by omega)
theorem vH (u y : Dp) (h : 1 ≤ y.val) : (Ak (u.val - (Ak ((Ak (Int.tdiv u.val y.val)).val * y.val)).val)).val = u.val % y.val:=by
  have h1:=u.lo
  have h2:=u.hi
  have hd : Int.tdiv u.val y.val = u.val / y.val:=Int.tdiv_eq_ediv_of_nonneg h1
  have q0 : 0 ≤ u.val / y.val:=Int.ediv_nonneg h1 (by omega)
  have q1 : u.val / y.val ≤ u.val:=Int.ediv_le_self _ h1
  have e:=Int.emod_add_mul_ediv u.val y.val
  have m0 : 0 ≤ u.val % y.val:=Int.emod_nonneg _ (by omega)
  have m1 : u.val % y.val < y.val:=Int.emod_lt_of_pos _ (by omega)
  have hm : 0 ≤ u.val / y.val * y.val:=Int.mul_nonneg q0 (by omega)
  have hw : (Ak (Int.tdiv u.val y.val)).val = u.val / y.val:=by rw [At,hd]; omega
  have e' : u.val % y.val + u.val / y.val * y.val = u.val:=by rw [Int.mul_comm (u.val / y.val)]; exact e
  rw [hw]
  generalize u.val / y.val * y.val = p at *
  simp only [At]
  omega
theorem Pu (u y : Dp) (h : 1 ≤ y.val) (h2 : y.val ≤ 4294967295) : (Ak (u.val - (Ak ((Ak (Int.tdiv u.val y.val)).val * y.val)).val)).val < 4294967296:=by
  rw [vH u y h]
  have:=Int.emod_lt_of_pos u.val (by omega : 0 < y.val)
  omega
theorem a8 : ∀ (f x : Nat),0 < x → x < 2 ^ f → 1 ≤ Lib.bitLenAux f x ∧ Lib.bitLenAux f x ≤ f ∧ 2 ^ (Lib.bitLenAux f x - 1) ≤ x ∧ x < 2 ^ Lib.bitLenAux f x
  | 0,x,h0,h1=>by simp at h1; omega
  | f + 1,x,h0,h1=>by
    have e : Lib.bitLenAux (f + 1) x = 1 + Lib.bitLenAux f (x / 2):=by
      rw [Lib.bitLenAux,if_neg (by omega)]
    rw [e]
    have hp : 2 ^ (f + 1) = 2 * 2 ^ f:=by rw [Nat.pow_succ]; omega
    by_cases h : x / 2 = 0
    · have hz : Lib.bitLenAux f (x / 2) = 0:=by
        rw [h]
        cases f <;> rfl
      rw [hz]
      refine ⟨by omega,by omega,?_,?_⟩
      · show 2 ^ 0 ≤ x
        omega
      · show x < 2 ^ 1
        omega
    · obtain ⟨a,b,c,d⟩:=a8 f (x / 2) (by omega) (by omega)
      have e1 : 2 ^ (1 + Lib.bitLenAux f (x / 2)) = 2 * 2 ^ Lib.bitLenAux f (x / 2):=by rw [Nat.pow_add]
      have e2 : 2 ^ (1 + Lib.bitLenAux f (x / 2) - 1) = 2 * 2 ^ (Lib.bitLenAux f (x / 2) - 1):=by
        rw [show 1 + Lib.bitLenAux f (x / 2) - 1 = 1 + (Lib.bitLenAux f (x / 2) - 1) by omega,Nat.pow_add]
      refine ⟨by omega,by omega,?_,?_⟩
      · rw [e2]; omega
      · rw [e1]; omega
theorem Adn (y : Dp) (h : 0 < y.val) : ∃ s : Nat,s ≤ 63 ∧ (Ak (Bg y).val).val = s ∧ (Ci .u64 y.val (Ak (Bg y).val).val).val = y.val * 2 ^ s ∧ 9223372036854775808 ≤ y.val * 2 ^ s ∧ y.val * 2 ^ s ≤ 18446744073709551615:=by
  have h1:=y.hi
  obtain ⟨n,hn⟩:=Int.eq_ofNat_of_zero_le (Int.le_of_lt h)
  obtain ⟨a,b,c,d⟩:=a8 64 n (by omega) (by omega)
  have hl : Lib.bitLen n = Lib.bitLenAux 64 n:=rfl
  generalize hL : Lib.bitLenAux 64 n = L at *
  have hs : (Ak (Bg y).val).val = ((64 - L : Nat) : Int):=by
    unfold Bg
    simp only [At,Ad,hn,Int.toNat_natCast,hl]
    omega
  have p1 : 2 ^ (L - 1) * 2 ^ (64 - L) = 9223372036854775808:=by rw [← Nat.pow_add,show L - 1 + (64 - L) = 63 by omega]
  have p2 : 2 ^ L * 2 ^ (64 - L) = 18446744073709551616:=by rw [← Nat.pow_add,show L + (64 - L) = 64 by omega]
  have k1 : 9223372036854775808 ≤ n * 2 ^ (64 - L):=by rw [← p1]; exact Nat.mul_le_mul_right _ c
  have k2 : n * 2 ^ (64 - L) < 18446744073709551616:=by rw [← p2]; exact Nat.mul_lt_mul_of_pos_right d (Nat.pow_pos (by omega))
  have e : (n : Int) * 2 ^ (64 - L) = ((n * 2 ^ (64 - L) : Nat) : Int):=by rw [Int.natCast_mul,Int.natCast_pow]; rfl
  refine ⟨64 - L,by omega,hs,?_,?_,?_⟩
  · rw [hs]
    show IntKind.u64.wrap (y.val * 2 ^ (min ((64 - L : Nat) : Int).toNat 64)) = _
    rw [Int.toNat_natCast,Nat.min_eq_left (by omega),IntKind.wrap_u64,hn,e]
    omega
  · rw [hn,e]; omega
  · rw [hn,e]; omega
theorem J8 (y : Dp) (h : 0 < y.val) : 1 ≤ (Ck (Ci .u64 y.val (Ak (Bg y).val).val) 32).val ∧ (Ck (Ci .u64 y.val (Ak (Bg y).val).val) 32).val ≤ 4294967295:=by
  obtain ⟨s,_,_,e,e1,e2⟩:=Adn y h
  rw [F2,e,Int.fdiv_eq_ediv_of_nonneg _ (by decide)]
  show 1 ≤ y.val * 2 ^ s / 4294967296 ∧ y.val * 2 ^ s / 4294967296 ≤ 4294967295
  omega
theorem bR (x : Aq) : (Ck x 1).val = x.val / 2:=by
  rw [F2,Int.fdiv_eq_ediv_of_nonneg _ (by decide)]
  rfl
theorem Nq (n : Aq) : -1000 ≤ (En n).val ∧ (En n).val ≤ 1000:=by
  have h1:=n.lo
  have h2:=n.hi
  unfold En Lz Dg
  simp only [Aa,Aj]
  by_cases ha : n.val ≥ -1099511627776
  · by_cases hb : n.val ≤ 1099511627776
    · simp only [ha,hb,decide_true,cond_true,Bool.not_true,cond_false]
      have e : (An (n.val + 3373259426)).val = n.val + 3373259426:=by rw [Ad]; omega
      have q : -1000 < Int.tdiv (n.val + 3373259426) 6746518852 ∧ Int.tdiv (n.val + 3373259426) 6746518852 ≤ 1000:=by
        by_cases hs : 0 ≤ n.val + 3373259426
        · rw [Int.tdiv_eq_ediv_of_nonneg hs]; omega
        · have : Int.tdiv (n.val + 3373259426) 6746518852 = -((-(n.val + 3373259426)) / 6746518852):=by
            rw [← Int.tdiv_eq_ediv_of_nonneg (by omega),Int.neg_tdiv,Int.neg_neg]
          rw [this]; omega
      rw [e]
      generalize Int.tdiv (n.val + 3373259426) 6746518852 = p at *
      generalize decide ((An ((An p).val * 6746518852)).val > n.val + 3373259426) = q2
      cases q2 <;> simp only [cond_true,cond_false,Ad] <;> omega
    · simp only [ha,hb,decide_true,decide_false,cond_true,Bool.not_false,Aj]
      omega
  · simp only [ha,decide_false,cond_false,Bool.not_false,cond_true,Aj]
    omega
theorem Vu {a : Iv} (h : Am a = true) : -1152921504606846976 < a.lo.val ∧ a.lo.val ≤ a.hi.val ∧ a.hi.val < 1152921504606846976:=by
  unfold Am at h
  by_cases q : -1152921504606846976 < a.lo.val
  · by_cases q2 : a.lo.val ≤ a.hi.val
    · by_cases q3 : a.hi.val < 1152921504606846976
      · exact ⟨q,q2,q3⟩
      · simp [q3] at h
    · simp [q2] at h
  · simp [q] at h
theorem iF (a e : Aq) (h : 0 ≤ a.val) (he : 0 ≤ e.val) (he2 : e.val ≤ 64) : (Ck a e.val).val = a.val / 2 ^ e.val.toNat:=by
  rw [F2,Int.fdiv_eq_ediv_of_nonneg _ (Int.le_of_lt (Int.pow_pos (by decide))),Nat.min_eq_left (by show e.val.toNat ≤ 64; omega)]
theorem bQ (a e : Aq) (h2 : a.val ≤ 1152921504606846976) (h0 : 0 ≤ e.val) (h : decide ((Ck a e.val).val ≥ 6442450944) = true) : e.val ≤ 27:=by
  have h:=of_decide_eq_true h
  rw [F2,Int.fdiv_eq_ediv_of_nonneg _ (Int.le_of_lt (Int.pow_pos (by decide)))] at h
  by_cases q : e.val ≤ 27
  · exact q
  · exfalso
    have hp : (268435456 : Int) ≤ 2 ^ (min e.val.toNat IntKind.i64.bits):=by
      have : (2 : Nat) ^ 28 ≤ 2 ^ (min e.val.toNat IntKind.i64.bits):=Nat.pow_le_pow_right (by decide) (by show 28 ≤ min e.val.toNat 64; omega)
      have h3 : ((2 ^ 28 : Nat) : Int) ≤ ((2 ^ (min e.val.toNat IntKind.i64.bits) : Nat) : Int):=Int.ofNat_le.2 this
      rw [Int.natCast_pow] at h3
      exact h3
    generalize (2 : Int) ^ (min e.val.toNat IntKind.i64.bits) = p at *
    have h3 : 6442450944 * p ≤ a.val:=(Int.le_ediv_iff_mul_le (by omega)).1 h
    omega
theorem Po (a e : Aq) (he : 0 ≤ e.val) (h : decide ((Ck a e.val).val ≥ 6442450944) = false) : e.val ≤ 0 → a.val * 2 ^ (0 - e.val).toNat < 6442450944:=by
  intro h0
  have : e.val = 0:=by omega
  rw [this] at h ⊢
  have e1 : (Ck a 0).val = a.val:=by
    rw [F2]
    show a.val.fdiv (2 ^ 0) = a.val
    rw [Int.pow_zero,Int.fdiv_one]
  simp only [decide_eq_false_iff_not,e1] at h
  show a.val * 2 ^ 0 < _
  rw [Int.pow_zero,Int.mul_one]
  omega
theorem iR (a e : Int) (he : e ≤ 0) : a * 2 ^ (0 - (e - 1)).toNat = 2 * (a * 2 ^ (0 - e).toNat):=by
  rw [show (0 - (e - 1)).toNat = (0 - e).toNat + 1 by omega,Int.pow_succ,← Int.mul_assoc,Int.mul_comm]
theorem nQ (a e : Aq) (q2 : a.val * 2 ^ (0 - e.val).toNat < 6442450944) (h1 : 1 ≤ a.val) (he : e.val ≤ 0) : -33 < e.val:=by
  by_cases q : -33 < e.val
  · exact q
  · exfalso
    have hp : (8589934592 : Int) ≤ 2 ^ (0 - e.val).toNat:=by
      have : (2 : Nat) ^ 33 ≤ 2 ^ (0 - e.val).toNat:=Nat.pow_le_pow_right (by decide) (by omega)
      have h3 : ((2 ^ 33 : Nat) : Int) ≤ ((2 ^ (0 - e.val).toNat : Nat) : Int):=Int.ofNat_le.2 this
      rw [Int.natCast_pow] at h3
      exact h3
    generalize (2 : Int) ^ (0 - e.val).toNat = p at *
    have : 1 * p ≤ a.val * p:=Int.mul_le_mul_of_nonneg_right h1 (by omega)
    omega
theorem aE (a e n : Aq) (q2 : a.val * 2 ^ (0 - e.val).toNat < 6442450944) (h1 : 1 ≤ a.val) (he : e.val ≤ 0) (hn : n.val = 0 - e.val) : (Ci .i64 a.val n.val).val = a.val * 2 ^ (0 - e.val).toNat:=by
  have hb:=nQ a e q2 h1 he
  have hp : (0 : Int) < 2 ^ (0 - e.val).toNat:=Int.pow_pos (by decide)
  show IntKind.i64.wrap (a.val * 2 ^ (min n.val.toNat 64)) = _
  rw [hn,Nat.min_eq_left (by omega),IntKind.wrap_i64]
  have : 0 ≤ a.val * 2 ^ (0 - e.val).toNat:=Int.mul_nonneg (by omega) (by omega)
  omega
theorem Xq (a e : Aq) (h1 : 1 ≤ a.val) (q2 : e.val ≤ 0 → a.val * 2 ^ (0 - e.val).toNat < 6442450944) (he : decide (e.val ≤ 0) = true) (h : decide ((Ci .i64 a.val (An (0 - e.val)).val).val < 3221225472) = true) :
    -33 < e.val ∧ e.val ≤ 0 ∧ ((An (e.val - 1)).val ≤ 0 → a.val * 2 ^ (0 - (An (e.val - 1)).val).toNat < 6442450944):=by
  simp only [decide_eq_true_eq] at he h
  have hq:=q2 he
  have hb:=nQ a e hq h1 he
  have hn : (An (0 - e.val)).val = 0 - e.val:=by rw [Ad]; omega
  rw [aE a e (An (0 - e.val)) hq h1 he hn] at h
  refine ⟨hb,he,fun _=>?_⟩
  have hm : (An (e.val - 1)).val = e.val - 1:=by rw [Ad]; omega
  rw [hm,iR a.val e.val he]
  omega
theorem Zu (e : Aq) (h : 0 ≤ e.val) : (Ak e.val).val = e.val:=by
  have:=e.hi
  rw [At]
  omega
theorem bO (a e : Aq) (m : Iv) (h2 : a.val ≤ 1152921504606846976) (h0 : 0 ≤ e.val) (h40 : e.val ≤ 40) (hm : m.lo.val = (Ck a (Ak e.val).val).val) (h : decide (m.lo.val ≥ 6442450944) = true) :
    e.val ≤ 27 ∧ 3221225472 ≤ (Ck a (Ak (An (e.val + 1)).val).val).val:=by
  rw [hm,Zu e h0] at h
  refine ⟨bQ a e h2 h0 h,?_⟩
  have e1 : (An (e.val + 1)).val = e.val + 1:=by rw [Ad]; omega
  rw [Zu _ (by omega),e1]
  have h:=of_decide_eq_true h
  rw [F2,Int.fdiv_eq_ediv_of_nonneg _ (Int.le_of_lt (Int.pow_pos (by decide))),show min e.val.toNat IntKind.i64.bits = e.val.toNat by show min e.val.toNat 64 = _; omega] at h
  rw [F2,Int.fdiv_eq_ediv_of_nonneg _ (Int.le_of_lt (Int.pow_pos (by decide))),show min (e.val + 1).toNat IntKind.i64.bits = e.val.toNat + 1 by show min (e.val + 1).toNat 64 = _; omega,Int.pow_succ]
  have hp : (0 : Int) < 2 ^ e.val.toNat:=Int.pow_pos (by decide)
  rw [← Int.ediv_ediv_of_nonneg (by omega)]
  omega
theorem Akp (a : Aq) : (Ck a 0).val = a.val:=by
  rw [F2]
  show a.val.fdiv (2 ^ 0) = a.val
  rw [Int.pow_zero,Int.fdiv_one]
theorem Wp (a : Aq) (h1 : decide (a.val < (-98784247808)) = false) (h2 : decide (a.val > 85899345920) = false) :
    -100 ≤ (An ((An (Int.tdiv (An ((An (2 * a.val)).val + 2977044472)).val 5954088944)).val - 1)).val ∧ (An ((An (Int.tdiv (An ((An (2 * a.val)).val + 2977044472)).val 5954088944)).val - 1)).val ≤ 100 ∧
    -100 ≤ (An (Int.tdiv (An ((An (2 * a.val)).val + 2977044472)).val 5954088944)).val ∧ (An (Int.tdiv (An ((An (2 * a.val)).val + 2977044472)).val 5954088944)).val ≤ 100:=by
  simp only [decide_eq_false_iff_not] at h1 h2
  have e : (An ((An (2 * a.val)).val + 2977044472)).val = 2 * a.val + 2977044472:=by simp only [Ad]; omega
  have q : -50 ≤ Int.tdiv (2 * a.val + 2977044472) 5954088944 ∧ Int.tdiv (2 * a.val + 2977044472) 5954088944 ≤ 50:=by
    by_cases hs : 0 ≤ 2 * a.val + 2977044472
    · rw [Int.tdiv_eq_ediv_of_nonneg hs]; omega
    · have : Int.tdiv (2 * a.val + 2977044472) 5954088944 = -((-(2 * a.val + 2977044472)) / 5954088944):=by
        rw [← Int.tdiv_eq_ediv_of_nonneg (by omega),Int.neg_tdiv,Int.neg_neg]
      rw [this]; omega
  rw [e]
  generalize Int.tdiv (2 * a.val + 2977044472) 5954088944 = p at *
  have e2 : (An p).val = p:=by rw [Ad]; omega
  rw [e2]
  have e3 : (An (p - 1)).val = p - 1:=by rw [Ad]; omega
  rw [e3]
  omega
theorem Sv {a : Aq} {r : Bool} (h : r = Fr a) (h2 : (!r) = false) : -1152921504606846976 ≤ a.val ∧ a.val ≤ 1152921504606846976:=by
  rw [h] at h2
  by_cases q : a.val ≥ -1152921504606846976
  · by_cases q2 : a.val ≤ 1152921504606846976
    · exact ⟨q,q2⟩
    · simp [Fr,Dg,Aa,Aj,q2] at h2
  · simp [Fr,Dg,Aa,Aj,q] at h2
theorem zH (a : Aq) : ∀ (fu : Nat) (e : Aq),-1000 + (fu : Int) ≤ e.val → e.val ≤ 1000 → -1000 ≤ (F7 fu a e).val ∧ (F7 fu a e).val ≤ 1000:=by
  intro fu
  induction fu with
  | zero=>intro e _ _; unfold F7; simp only [Aj]; omega
  | succ fu ih=>
    intro e h1 h2
    unfold F7
    cases decide (e.val ≤ 0)
    · rw [cond_false]; omega
    · rw [cond_true]
      cases decide ((Ci .i64 a.val (An (0 - e.val)).val).val < 3221225472)
      · rw [cond_false]; omega
      · rw [cond_true]
        have : (An (e.val - 1)).val = e.val - 1:=by rw [Ad]; omega
        exact ih _ (by omega) (by omega)
theorem zI (a : Aq) : ∀ (fu : Nat) (e : Aq),e.val + (fu : Int) ≤ 400 → 0 ≤ e.val → -1000 ≤ (Gm fu a e).val ∧ (Gm fu a e).val ≤ 1000:=by
  intro fu
  induction fu with
  | zero=>intro e _ _; unfold Gm; simp only [Aj]; omega
  | succ fu ih=>
    intro e h1 h2
    unfold Gm
    cases decide ((Ck a e.val).val ≥ 6442450944)
    · rw [cond_false]; exact zH a _ e (by omega) (by omega)
    · rw [cond_true]
      have : (An (e.val + 1)).val = e.val + 1:=by rw [Ad]; omega
      exact ih _ (by omega) (by omega)
theorem Xp (a : Aq) : -1000 ≤ (Tu a).val ∧ (Tu a).val ≤ 1000:=by
  unfold Tu
  exact zI a _ _ (by simp only [Aj]; omega) (by simp only [Aj]; omega)
theorem wT (x : U8) : 0 ≤ x.val ∧ x.val ≤ 255:=by
  have h:=x.ok
  simp [IntKind.min,IntKind.max,IntKind.bits,IntKind.signed] at h
  exact h
theorem Ai0 (x : U8) : 0 ≤ (An x.val).val ∧ (An x.val).val ≤ 255:=by
  have h:=wT x
  rw [Ad]
  omega
theorem Aki (x : Int) : 0 ≤ (An (Eo .u64 x 255).val).val ∧ (An (Eo .u64 x 255).val).val ≤ 255:=by
  have h : (Eo .u64 x 255).val = IntKind.u64.wrap ((BitVec.ofInt 64 x &&& BitVec.ofInt 64 255).toNat):=rfl
  have h2 : (BitVec.ofInt 64 x &&& BitVec.ofInt 64 255).toNat ≤ 255:=by
    rw [BitVec.toNat_and]
    exact Nat.le_trans Nat.and_le_right (by decide)
  rw [IntKind.wrap_u64] at h
  rw [Ad,h]
  omega
theorem jN (C : Cd) (b : Je) : 0 ≤ (Be C b).1.val ∧ (Be C b).1.val ≤ 255:=by
  unfold Be
  cases decide (b.ix.val < ((C.L.length : Nat) : Int)) <;> cases decide ((An (b.ix.val + 1)).val ≤ ((C.L.length : Nat) : Int)) <;> simp only [cond_true,cond_false] <;> first | exact Aki _ | exact Ai0 _ | exact ⟨by decide,by decide⟩
theorem Bv (C : Cd) (b : Je) (a : Aq) : 0 ≤ (A9 C b a).1.val ∧ (1 < a.val → (A9 C b a).1.val < a.val):=by
  unfold A9
  by_cases h : a.val ≤ 1
  · rw [decide_eq_true h]
    simp only [cond_true]
    exact ⟨Int.le_refl 0,fun h2=>by omega⟩
  · rw [decide_eq_false h]
    simp only [cond_false,Aa]
    have h1:=jN C b
    cases decide (a.val > 200)
    · simp only [cond_false,Ll]
      exact ⟨Int.tmod_nonneg _ h1.1,fun _=>Int.tmod_lt_of_pos _ (by omega)⟩
    · simp only [cond_true,Ll]
      have h2:=jN C (Be C b).2
      have h3 : (An ((An ((Be C b).1.val * 256)).val + (Be C (Be C b).2).1.val)).val = (Be C b).1.val * 256 + (Be C (Be C b).2).1.val:=by
        simp only [Ad]
        omega
      rw [h3]
      exact ⟨Int.tmod_nonneg _ (by omega),fun _=>Int.tmod_lt_of_pos _ (by omega)⟩
end Go.Proofs.YtfhnlkinjbakgaaGreat.Abs
