/- Plain laws of the functions on numbers: what the program computes is what the reference computes. -/
import Derived.Test.YtbipmdgocmdgdaaGreatCsReal
import Derived.Test.YtbipmdgocmdgdaaGreatCsQzlzmznzo
import Derived.Test.YtbipmdgocmdgdaaGreatCsFx
set_option linter.unusedVariables false
set_option linter.unusedSimpArgs false
namespace Go.Proofs.YtbipmdgocmdgdaaGreat.Abs
open Go
theorem LogTwo_pos (g : I64 → Iv) (a : I64) (h0 : 0 ≤ a.val) (h1 : a.val ≤ 64) : Tr (S_LogTwoI_b g a) (Rl.q a.val * Rl.ln2):=fun ho=>by
  unfold S_LogTwoI_b at ho ⊢
  have hi : S_l00In a (c64 (-64)) (c64 64) = true:=in64_of ⟨by omega,h1⟩
  have en : (w64 (0 - a.val)).val = -a.val:=by rw [w64_val]; omega
  obtain ⟨r,er,rv⟩:=Ln_lo a (by omega) (by omega)
  obtain ⟨s,es,sv⟩:=Ln_hi (w64 (0 - a.val)) (by omega) (by omega)
  rw [en] at sv
  have es2 : (w64 (0 - s.val)).val = -s.val:=by rw [w64_val]; omega
  simp only [bindP_e,hi,decide_eq_false (show ¬ a.val < 0 by omega),Bool.not_true,cond_f,er,es] at ho ⊢
  rw [Make_out ho]
  have ap : (0 : Rat) ≤ (a.val : Rat):=by
    have:=Rl.cast_le h0
    rwa [show ((0 : Int) : Rat) = 0 from rfl] at this
  constructor
  · show Rl.fx r.val ≤ _
    refine Rl.le_trans ?_ (Rl.mul_le_mul_l Rl.ln2_lo (Rl.q_le.2 ap))
    rw [← Rl.q_mul,Rl.fx_q]
    refine Rl.q_le.2 ?_
    have k : r.val * 536870912 ≤ a.val * 1598288580650331957:=by omega
    have:=Rl.cast_le k
    push_cast at this
    unfold Rl.llo
    grind
  · show _ ≤ Rl.fx (w64 (0 - s.val)).val
    rw [es2]
    refine Rl.le_trans (Rl.mul_le_mul_l Rl.ln2_hi (Rl.q_le.2 ap)) ?_
    rw [← Rl.q_mul,Rl.fx_q]
    refine Rl.q_le.2 ?_
    have k : a.val * 1598288580650331958 ≤ -s.val * 536870912:=by omega
    have:=Rl.cast_le k
    push_cast at this ⊢
    unfold Rl.lhi
    grind
theorem tLogTwoS (a : I64) : Tr (S_LogTwoI a) (Rl.q a.val * Rl.ln2):=by
  unfold S_LogTwoI S_LogTwoI_r
  by_cases hr : -64 ≤ a.val ∧ a.val ≤ 64
  · by_cases h : 0 ≤ a.val
    · exact LogTwo_pos _ a h hr.2
    · rw [(log_step _ a (by omega) (by omega)).1]
      unfold S_LogTwoI_r
      have en : (w64 (0 - a.val)).val = -a.val:=by rw [w64_val]; omega
      have:=tNegS (LogTwo_pos (S_LogTwoI_r 0) (w64 (0 - a.val)) (by omega) (by omega))
      rw [en,show ((-a.val : Int) : Rat) = -(a.val : Rat) from by push_cast; rfl,Rl.q_neg,Rl.neg_mul,Rl.neg_neg] at this
      exact this
  · intro ho
    exfalso
    unfold S_LogTwoI_b at ho
    have hi : S_l00In a (c64 (-64)) (c64 64) = false:=by
      rw [sp_in]
      simp only [c64_v,Bool.and_eq_false_iff,decide_eq_false_iff_not]
      omega
    simp only [bindP_e,hi,Bool.not_false,cond_t] at ho
    exact absurd ho (by decide)
theorem tWidenS {a : Iv} {x y : Rl.R} (ha : Tr a x) (h : Rl.Ab (y - x) (Rl.fx 1)) : Tr (S_l08Widen a (c64 1)) y:=fun ho=>by
  unfold S_l08Widen at ho ⊢
  simp only [bindP_e] at ho ⊢
  cases h1 : S_l04Ok a with
  | false=>rw [h1] at ho; simp only [Bool.not_false,cond_t] at ho; exact absurd ho (by decide)
  | true=>
    rw [h1] at ho
    simp only [Bool.not_true,cond_f,c64_v] at ho ⊢
    rw [Make_out ho]
    have A:=ha h1
    have p:=Ok4p h1
    have e1 : (w64 (a.lo.val - 1)).val = a.lo.val - 1:=by rw [w64_val]; omega
    have e2 : (w64 (a.hi.val + 1)).val = a.hi.val + 1:=by rw [w64_val]; omega
    have ey : y = x + (y - x):=(add_sub_self x y).symm
    constructor
    · show Rl.fx (w64 (a.lo.val - 1)).val ≤ y
      rw [e1,ey,Rl.fx_sub,← Rl.add_neg]
      exact Rl.add_le_add A.1 h.1
    · show y ≤ Rl.fx (w64 (a.hi.val + 1)).val
      rw [e2,ey,Rl.fx_add]
      exact Rl.add_le_add A.2 h.2
theorem fx_pow (n : Int) (k : Nat) : Rl.fx (n * 2 ^ k) = Rl.fx n * Rl.q ((2 ^ k : Int) : Rat):=by
  rw [Rl.fx_q,Rl.fx_q,← Rl.q_mul]
  congr 1
  push_cast
  grind
theorem tScaleS {a : Iv} {y z : Rl.R} {k : I64} (ha : Rl.In a.lo.val a.hi.val y) (h0 : 0 ≤ a.lo.val) (h1 : a.hi.val ≤ 8589934593) (k0 : -100 ≤ k.val) (k1 : k.val ≤ 29) (hp : 0 ≤ k.val → z = y * Rl.q ((2 ^ k.val.toNat : Int) : Rat)) (hn : k.val < 0 → z * Rl.q ((2 ^ (-k.val).toNat : Int) : Rat) = y) : Tr (S_l08Scale a k) z:=fun ho=>by
  unfold S_l08Scale at ho ⊢
  have o:=ha.ord
  by_cases hk : k.val ≥ 0
  · rw [decide_eq_true hk,cond_t,bindP_e] at ho ⊢
    rw [Make_out ho]
    have hp2 : (2 : Int) ^ k.val.toNat ≤ 536870912:=by
      have : (2 : Nat) ^ k.val.toNat ≤ 2 ^ 29:=Nat.pow_le_pow_right (by decide) (by omega)
      have h3 : ((2 ^ k.val.toNat : Nat) : Int) ≤ ((2 ^ 29 : Nat) : Int):=Int.ofNat_le.2 this
      rw [Int.natCast_pow] at h3
      exact h3
    have a1 : a.hi.val * 2 ^ k.val.toNat ≤ a.hi.val * 536870912:=Int.mul_le_mul_of_nonneg_left hp2 (by omega)
    have a2 : a.lo.val * 2 ^ k.val.toNat ≤ a.lo.val * 536870912:=Int.mul_le_mul_of_nonneg_left hp2 (by omega)
    have s1:=shl_val_nat a.lo k k.val.toNat (by omega) (by omega) h0 (by omega)
    have s2:=shl_val_nat a.hi k k.val.toNat (by omega) (by omega) (by omega) (by omega)
    have pos : Rl.q 0 ≤ Rl.q ((2 ^ k.val.toNat : Int) : Rat):=Rl.q_le.2 (by
      have:=Rl.cast_le (Int.le_of_lt (show (0 : Int) < 2 ^ k.val.toNat from Int.pow_pos (by decide)))
      rwa [show ((0 : Int) : Rat) = 0 from rfl] at this)
    rw [hp hk]
    constructor
    · show Rl.fx (ishl .i64 a.lo.val (wu64 k.val).val).val ≤ _
      rw [s1,fx_pow]
      exact Rl.mul_le_mul_r ha.1 pos
    · show _ ≤ Rl.fx (ishl .i64 a.hi.val (wu64 k.val).val).val
      rw [s2,fx_pow]
      exact Rl.mul_le_mul_r ha.2 pos
  · rw [decide_eq_false hk,cond_f,bindP_e] at ho ⊢
    rw [Make_out ho]
    have ek : (w64 (0 - k.val)).val = -k.val:=by rw [w64_val]; omega
    have eu : (wu64 (w64 (0 - k.val)).val).val = -k.val:=by rw [wu64_val,ek]; omega
    have en : (w64 (0 - a.hi.val)).val = -a.hi.val:=by rw [w64_val]; omega
    have em : min (-k.val).toNat IntKind.i64.bits = min (-k.val).toNat 64:=rfl
    have pk : (0 : Int) < 2 ^ (-k.val).toNat:=Int.pow_pos (by decide)
    have zp:=hn (by omega)
    have pos : Rl.q 0 < Rl.q ((2 ^ (-k.val).toNat : Int) : Rat):=Rl.q_lt.2 (Rl.cast_pos pk)
    have zn : Rl.q 0 ≤ z:=nn_of_mul zp pos (Rl.le_trans (by rw [← Rl.fx_zero]; exact Rl.fx_le.2 h0) ha.1)
    have cut : ∃ m : Nat,m ≤ (-k.val).toNat ∧ (m = (-k.val).toNat ∨ 64 ≤ m) ∧ (ishr a.lo (wu64 (w64 (0 - k.val)).val).val).val = a.lo.val / 2 ^ m ∧ (ishr (w64 (0 - a.hi.val)) (wu64 (w64 (0 - k.val)).val).val).val = -a.hi.val / 2 ^ m:=by
      refine ⟨min (-k.val).toNat 64,by omega,by omega,?_,?_⟩
      · rw [ishr_val,eu,em,Int.fdiv_eq_ediv_of_nonneg _ (Int.le_of_lt (Int.pow_pos (by decide)))]
      · rw [ishr_val,eu,em,Int.fdiv_eq_ediv_of_nonneg _ (Int.le_of_lt (Int.pow_pos (by decide))),en]
    obtain ⟨m,m1,m2,e1,e2⟩:=cut
    have pm : (0 : Int) < 2 ^ m:=Int.pow_pos (by decide)
    have big : 64 ≤ m → (8589934594 : Int) ≤ 2 ^ m:=fun h=>by
      have : (2 : Nat) ^ 64 ≤ 2 ^ m:=Nat.pow_le_pow_right (by decide) h
      have h3 : ((2 ^ 64 : Nat) : Int) ≤ ((2 ^ m : Nat) : Int):=Int.ofNat_le.2 this
      rw [Int.natCast_pow,Int.natCast_pow] at h3
      refine Int.le_trans (by decide) h3
    have l1 : a.lo.val / 2 ^ m * 2 ^ (-k.val).toNat ≤ a.lo.val:=by
      rcases m2 with m2 | m2
      · rw [← m2]; exact Int.ediv_mul_le _ (by omega)
      · have:=big m2
        rw [Int.ediv_eq_zero_of_lt h0 (by omega),Int.zero_mul]; exact h0
    have l2 : a.hi.val ≤ -(-a.hi.val / 2 ^ m) * 2 ^ (-k.val).toNat:=by
      have g:=Int.ediv_mul_le (-a.hi.val) (b:=2 ^ m) (by omega)
      rcases m2 with m2 | m2
      · rw [← m2,Int.neg_mul]; omega
      · have pmono : (2 : Int) ^ m ≤ 2 ^ (-k.val).toNat:=by
          have : (2 : Nat) ^ m ≤ 2 ^ (-k.val).toNat:=Nat.pow_le_pow_right (by decide) m1
          have h3 : ((2 ^ m : Nat) : Int) ≤ ((2 ^ (-k.val).toNat : Nat) : Int):=Int.ofNat_le.2 this
          rw [Int.natCast_pow,Int.natCast_pow] at h3
          exact h3
        have nn : 0 ≤ -(-a.hi.val / 2 ^ m):=by
          have:=Int.ediv_le_ediv pm (show -a.hi.val ≤ 0 by omega)
          rw [Int.zero_ediv] at this
          omega
        have:=Int.mul_le_mul_of_nonneg_left pmono nn
        rw [Int.neg_mul] at this
        omega
    have ew : (w64 (0 - (ishr (w64 (0 - a.hi.val)) (wu64 (w64 (0 - k.val)).val).val).val)).val = -(-a.hi.val / 2 ^ m):=by
      have b1 : -a.hi.val / 2 ^ m ≤ 0:=by
        have:=Int.ediv_le_ediv pm (show -a.hi.val ≤ 0 by omega)
        rwa [Int.zero_ediv] at this
      have b2 : -a.hi.val ≤ -a.hi.val / 2 ^ m:=by
        refine (Int.le_ediv_iff_mul_le pm).2 ?_
        have:=Int.mul_le_mul_of_nonneg_left (show (1 : Int) ≤ 2 ^ m by omega) (show 0 ≤ a.hi.val by omega)
        rw [Int.neg_mul]; omega
      rw [w64_val,e2]; omega
    constructor
    · show Rl.fx (ishr a.lo (wu64 (w64 (0 - k.val)).val).val).val ≤ z
      rw [e1]
      refine Rl.le_of_mul ?_ pos
      rw [zp,← fx_pow]
      exact Rl.le_trans (Rl.fx_le.2 l1) ha.1
    · show z ≤ Rl.fx (w64 (0 - (ishr (w64 (0 - a.hi.val)) (wu64 (w64 (0 - k.val)).val).val).val)).val
      rw [ew]
      refine Rl.le_of_mul ?_ pos
      rw [zp,← fx_pow]
      exact Rl.le_trans ha.2 (Rl.fx_le.2 l2)
theorem tAt8 (n : I64) : Tr (S_l08At n) (Rl.fx n.val):=fun ho=>by
  unfold S_l08At at ho ⊢
  simp only [bindP_e] at ho ⊢
  rw [Make_out ho]
  exact Rl.In.fix _
theorem tOne8 : Tr S_l08One (Rl.q 1):=by rw [eq_One8]; exact tOneS
theorem tExpStep {r p : Iv} {rv pv : Rl.R} (hr : Tr r rv) (hp : Tr p pv) (n : I64) (c : Rat) (hc : (n.val : Rat) = c) (h0 : 0 < c) :
    Tr (S_AddI (S_Integer (c64 1)) (S_DivI (S_MulI r p) (S_Integer n))) (Rl.ep1 c rv pv):=by
  have hn:=tIntegerS n
  rw [hc] at hn
  exact tAddS tOneS (tDivS (tMulS hr hp) hn (Rl.ep_step h0 rv pv))
def expSum (r : Iv) : Iv:=S_AddI (S_Integer (c64 1)) (S_DivI (S_MulI r (S_AddI (S_Integer (c64 1)) (S_DivI (S_MulI r (S_AddI (S_Integer (c64 1)) (S_DivI (S_MulI r (S_AddI (S_Integer (c64 1)) (S_DivI (S_MulI r (S_AddI (S_Integer (c64 1)) (S_DivI (S_MulI r (S_AddI (S_Integer (c64 1)) (S_DivI (S_MulI r (S_AddI (S_Integer (c64 1)) (S_DivI (S_MulI r (S_AddI (S_Integer (c64 1)) (S_DivI (S_MulI r (S_AddI (S_Integer (c64 1)) (S_DivI (S_MulI r (S_Integer (c64 1))) (S_Integer (c64 9))))) (S_Integer (c64 8))))) (S_Integer (c64 7))))) (S_Integer (c64 6))))) (S_Integer (c64 5))))) (S_Integer (c64 4))))) (S_Integer (c64 3))))) (S_Integer (c64 2))))) (S_Integer (c64 1)))
theorem expSum_tr {r : Iv} {x : Rl.R} (h : Tr r x) : Tr (expSum r) (Rl.ep x):=
  tExpStep h (tExpStep h (tExpStep h (tExpStep h (tExpStep h (tExpStep h (tExpStep h (tExpStep h (tExpStep h tOneS _ 9 (by decide +kernel) (by decide)) _ 8 (by decide +kernel) (by decide)) _ 7 (by decide +kernel) (by decide)) _ 6 (by decide +kernel) (by decide)) _ 5 (by decide +kernel) (by decide)) _ 4 (by decide +kernel) (by decide)) _ 3 (by decide +kernel) (by decide)) _ 2 (by decide +kernel) (by decide)) _ 1 (by decide +kernel) (by decide)
theorem exp_step3 {r p : Iv} (hr : Rest r) (hp : Pos2 p) {c : I64} (hc : 1 ≤ c.val ∧ c.val ≤ 100) : 1317922496 ≤ (S_AddI (S_Integer (c64 1)) (S_DivI (S_MulI r p) (S_Integer c))).lo.val:=by
  obtain ⟨hr0,hr1,hr2⟩:=hr
  obtain ⟨hp0,hp1,hp2⟩:=hp
  have rb:=Ok4 hr0
  have pb:=Ok4 hp0
  obtain ⟨i1,e1,o1,l1,u1⟩:=Integer_val (c64 1) (by decide) (by decide)
  obtain ⟨ic,ec,oc,lc,uc⟩:=Integer_val c (by omega) (by omega)
  rw [e1,ec]
  rw [c64_v] at l1 u1
  have key : ∀ p q : Int,-1488522400 ≤ p → p ≤ 1488522400 → 0 ≤ q → q ≤ 8589934592 → -2977044800 * 4294967296 ≤ p * q ∧ p * q ≤ 2977044800 * 4294967296:=fun p q h1 h2 h3 h4=>by
    have a1 : -1488522400 * q ≤ p * q:=Int.mul_le_mul_of_nonneg_right h1 h3
    have a2 : p * q ≤ 1488522400 * q:=Int.mul_le_mul_of_nonneg_right h2 h3
    omega
  obtain ⟨m,em,om,m0,m1,_⟩:=MulI_in hr0 hp0 (L:=-2977044800) (U:=2977044800) (by decide) (by decide) (key _ _ (by omega) (by omega) (by omega) (by omega)) (key _ _ (by omega) (by omega) (by omega) (by omega)) (key _ _ (by omega) (by omega) (by omega) (by omega)) (key _ _ (by omega) (by omega) (by omega) (by omega))
  rw [em]
  have mb:=Ok4 om
  obtain ⟨d,ed,od,d0,d1⟩:=DivI_in om oc (by omega) (L:=-2977044800) (U:=2977044800) (by decide) (by decide) (by omega) (by omega) (by omega) (by omega)
  rw [ed]
  have db:=Ok4 od
  have hb : -1152921504606846976 < (w64 (i1.lo.val + d.lo.val)).val ∧ (w64 (i1.lo.val + d.lo.val)).val ≤ (w64 (i1.hi.val + d.hi.val)).val ∧ (w64 (i1.hi.val + d.hi.val)).val < 1152921504606846976:=by simp only [w64_val]; omega
  have e : S_AddI i1 d = ⟨w64 (i1.lo.val + d.lo.val),w64 (i1.hi.val + d.hi.val)⟩:=by
    unfold S_AddI
    simp only [bindP_e,o1,od,Bool.not_true,cond_f]
    rw [Make_ok hb]
  rw [e]
  show 1317922496 ≤ (w64 _).val
  rw [w64_val]; omega
theorem expSum_pos {r : Iv} (hr : Rest r) : Pos2 (expSum r) ∧ 1317922496 ≤ (expSum r).lo.val:=by
  have c : ∀ n : I64,n = c64 1 ∨ n = c64 2 ∨ n = c64 3 ∨ n = c64 4 ∨ n = c64 5 ∨ n = c64 6 ∨ n = c64 7 ∨ n = c64 8 ∨ n = c64 9 → 1 ≤ n.val ∧ n.val ≤ 100:=by
    intro n h; rcases h with rfl | rfl | rfl | rfl | rfl | rfl | rfl | rfl | rfl <;> decide
  have p8:=exp_step hr (exp_step hr (exp_step hr (exp_step hr (exp_step hr (exp_step hr (exp_step hr (exp_step hr one_pos2 (c (c64 9) (by simp))) (c (c64 8) (by simp))) (c (c64 7) (by simp))) (c (c64 6) (by simp))) (c (c64 5) (by simp))) (c (c64 4) (by simp))) (c (c64 3) (by simp))) (c (c64 2) (by simp))
  exact ⟨exp_step hr p8 (c (c64 1) (.inl rfl)),exp_step3 hr p8 (c (c64 1) (.inl rfl))⟩
theorem Exp_form (n : I64) (h1 : -98784247808 ≤ n.val) (h2 : n.val ≤ 85899345920) : ∃ k : I64,-41 ≤ k.val ∧ k.val ≤ 29 ∧ (k.val * 5954088944 ≤ 2 * n.val + 2977044472 ∧ 2 * n.val + 2977044472 < (k.val + 1) * 5954088944) ∧
    S_ExpAt n = S_l08Scale (S_l08Widen (expSum (S_SubI (S_l08At n) (S_LogTwoI k))) (c64 1)) k:=by
  obtain ⟨q,e,q1,q2,q3,h⟩:=exp_round n h1 h2
  have ho : S_l03Ok n = true:=Ok3_of (by omega) (by omega)
  unfold S_ExpAt expSum
  simp only [bindP_e,ho,Bool.not_true,cond_f,decide_eq_false (show ¬ n.val > 85899345920 by omega),decide_eq_false (show ¬ n.val < -98784247808 by omega),eq_One8]
  rw [e]
  rcases h with ⟨_,t2,t3⟩ | ⟨_,t2,t3⟩
  · rw [t2,cond_t]
    exact ⟨w64 (q.val - 1),by omega,by omega,by rw [q3]; exact t3,rfl⟩
  · rw [t2,cond_f]
    exact ⟨q,by omega,by omega,t3,rfl⟩
theorem Widen_in {p : Iv} (hp : Pos2 p) : (S_l08Widen p (c64 1)).lo.val = p.lo.val - 1 ∧ (S_l08Widen p (c64 1)).hi.val = p.hi.val + 1 ∧ S_l04Ok (S_l08Widen p (c64 1)) = true:=by
  obtain ⟨ho,hl,hh⟩:=hp
  have b:=Ok4 ho
  have hb : -1152921504606846976 < (w64 (p.lo.val - 1)).val ∧ (w64 (p.lo.val - 1)).val ≤ (w64 (p.hi.val + 1)).val ∧ (w64 (p.hi.val + 1)).val < 1152921504606846976:=by simp only [w64_val]; omega
  have e : S_l08Widen p (c64 1) = ⟨w64 (p.lo.val - 1),w64 (p.hi.val + 1)⟩:=by
    unfold S_l08Widen
    simp only [bindP_e,ho,Bool.not_true,cond_f,c64_v]
    rw [Make_ok hb]
  rw [e]
  exact ⟨by show (w64 _).val = _; rw [w64_val]; omega,by show (w64 _).val = _; rw [w64_val]; omega,Ok4_of hb⟩
theorem tExpAtS (n : I64) : Tr (S_ExpAt n) (Rl.ex (Rl.fx n.val)):=by
  by_cases h1 : n.val > 85899345920
  · intro ho
    exfalso
    unfold S_ExpAt at ho
    simp only [bindP_e,decide_eq_true h1] at ho
    cases hk : S_l03Ok n with
    | false=>rw [hk] at ho; simp only [Bool.not_false,cond_t] at ho; exact absurd ho (by decide)
    | true=>rw [hk] at ho; simp only [Bool.not_true,cond_t,cond_f] at ho; exact absurd ho (by decide)
  · by_cases h2 : n.val < -98784247808
    · intro ho
      unfold S_ExpAt at ho ⊢
      simp only [bindP_e,decide_eq_false h1,decide_eq_true h2] at ho ⊢
      cases hk : S_l03Ok n with
      | false=>rw [hk] at ho; simp only [Bool.not_false,cond_t] at ho; exact absurd ho (by decide)
      | true=>
        simp only [Bool.not_true,cond_t,cond_f]
        have:=Rl.ex_far (x:=Rl.fx n.val) (by
          rw [Rl.fx_q]
          refine Rl.q_le.2 ?_
          have:=Rl.cast_le (Int.le_of_lt h2)
          rw [show ((-98784247808 : Int) : Rat) = -98784247808 from by decide +kernel] at this
          grind)
        exact ⟨by show Rl.fx (c64 0).val ≤ _; rw [c64_v,Rl.fx_zero]; exact this.1,by show _ ≤ Rl.fx (c64 1).val; rw [c64_v]; exact this.2⟩
    · obtain ⟨k,k1,k2,k3,e⟩:=Exp_form n (by omega) (by omega)
      rw [e]
      have R : Tr (S_SubI (S_l08At n) (S_LogTwoI k)) (Rl.fx n.val - Rl.q k.val * Rl.ln2):=tSubS (tAt8 n) (tLogTwoS k)
      have hr : Rest (S_SubI (S_l08At n) (S_LogTwoI k)):=exp_rest ⟨by omega,by omega⟩ k3
      have S:=expSum_tr R
      have P:=(expSum_pos hr).1
      have I:=R hr.1
      generalize S_SubI (S_l08At n) (S_LogTwoI k) = r at *
      generalize hx : Rl.fx n.val - Rl.q k.val * Rl.ln2 = x at *
      have xb : Rl.Ab x (Rl.q (35/100)):=by
        constructor
        · refine Rl.le_trans ?_ I.1
          rw [← Rl.q_neg,Rl.fx_q]
          refine Rl.q_le.2 ?_
          have:=Rl.cast_le hr.2.1
          rw [show ((-1488522400 : Int) : Rat) = -1488522400 from by decide +kernel] at this
          grind
        · refine Rl.le_trans I.2 ?_
          rw [Rl.fx_q]
          refine Rl.q_le.2 ?_
          have:=Rl.cast_le hr.2.2
          rw [show ((1488522400 : Int) : Rat) = 1488522400 from by decide +kernel] at this
          grind
      have W:=tWidenS S (y:=Rl.ex x) (Rl.ex_poly xb)
      obtain ⟨w1,w2,w3⟩:=Widen_in P
      have ex_ : Rl.ex (Rl.fx n.val) = Rl.ex x * Rl.ex (Rl.q k.val * Rl.ln2):=by rw [← Rl.ex_add,← hx,Rl.sub_add_cancel]
      refine tScaleS (y:=Rl.ex x) (W w3) (by rw [w1]; have:=P.2.1; omega) (by rw [w2]; have:=P.2.2; omega) (by omega) k2 (fun h=>?_) (fun h=>?_)
      · have:=Rl.ex_nat k.val.toNat
        rw [show ((k.val.toNat : Nat) : Int) = k.val from Int.toNat_of_nonneg h] at this
        rw [ex_,this]
      · have:=Rl.ex_nat (-k.val).toNat
        rw [show (((-k.val).toNat : Nat) : Int) = -k.val from Int.toNat_of_nonneg (by omega)] at this
        rw [ex_,← this,show ((-k.val : Int) : Rat) = -(k.val : Rat) from by push_cast; rfl,Rl.q_neg,Rl.neg_mul,Rl.mul_assoc,Rl.ex_neg,Rl.mul_one]
theorem Ends_out8 {a b : Iv} (h : S_l04Ok (S_l08Ends a b) = true) : S_l04Ok a = true ∧ S_l04Ok b = true ∧ S_l08Ends a b = ⟨a.lo,b.hi⟩:=by
  unfold S_l08Ends at h ⊢
  simp only [bindP_e] at h ⊢
  cases h1 : S_l04Ok a with
  | false=>rw [h1] at h; simp only [Bool.not_false,cond_t] at h; exact absurd h (by decide)
  | true=>
  cases h2 : S_l04Ok b with
  | false=>rw [h1,h2] at h; simp only [Bool.not_false,Bool.not_true,cond_t,cond_f] at h; exact absurd h (by decide)
  | true=>
    rw [h1,h2] at h
    simp only [Bool.not_true,cond_f] at h ⊢
    rw [Make_out h]
    exact ⟨trivial,trivial,rfl⟩
theorem tEnds {a b : Iv} {u v x : Rl.R} (ha : Tr a u) (hb : Tr b v) (h1 : u ≤ x) (h2 : x ≤ v) : Tr (S_l08Ends a b) x:=fun h=>by
  obtain ⟨k1,k2,e⟩:=Ends_out8 h
  rw [e]
  exact ⟨Rl.le_trans (ha k1).1 h1,Rl.le_trans h2 (hb k2).2⟩
theorem tExpS {a : Iv} {x : Rl.R} (ha : Tr a x) : Tr (S_ExpI a) (Rl.ex x):=by
  unfold S_ExpI
  simp only [bindP_e]
  cases ho : S_l04Ok a with
  | false=>simp only [Bool.not_false,cond_t]; exact tWhole _
  | true=>
    simp only [Bool.not_true,cond_f]
    have A:=ha ho
    exact tEnds (tExpAtS _) (tExpAtS _) (Rl.ex_mono A.1) (Rl.ex_mono A.2)
theorem log1_tr (a : I64) (ha : 1 ≤ a.val) : ∀ (fu : Nat) (e : I64) (s : I64),e.val ≤ 0 → s.val = a.val * 2 ^ (0 - e.val).toNat → a.val * 2 ^ (0 - e.val).toNat < 6442450944 → (64 + e.val).toNat < fu →
    ∃ q s' : I64,S_LogAt_L1 fu a e ⟨s,s⟩ = logEnd q ⟨s',s'⟩ ∧ q.val ≤ 0 ∧ -33 < q.val ∧ s'.val = a.val * 2 ^ (0 - q.val).toNat ∧ 3221225472 ≤ s'.val ∧ s'.val < 6442450944:=by
  intro fu
  induction fu with
  | zero=>intro e s _ _ _ h; exact absurd h (Nat.not_lt_zero _)
  | succ fu ih=>
    intro e s he hs hb hf
    have hu:=two_up a e hb ha he
    by_cases h : s.val < 3221225472
    · have e1 : (w64 (e.val - 1)).val = e.val - 1:=by rw [w64_val]; omega
      have e0 : (w64 (0 - (w64 (e.val - 1)).val)).val = 0 - (w64 (e.val - 1)).val:=by rw [e1,w64_val]; omega
      have hb2 : a.val * 2 ^ (0 - (w64 (e.val - 1)).val).toNat < 6442450944:=by rw [e1,pow_step a.val e.val he]; omega
      have e3 : S_LogAt_L1 (fu + 1) a e ⟨s,s⟩ = S_LogAt_L1 fu a (w64 (e.val - 1)) ⟨ishl .i64 a.val (w64 (0 - (w64 (e.val - 1)).val)).val,ishl .i64 a.val (w64 (0 - (w64 (e.val - 1)).val)).val⟩:=by
        rw [S_LogAt_L1,decide_eq_true (show (⟨s,s⟩ : Iv).lo.val < 3221225472 from h),cond_t,wu_nn (w64 (0 - (w64 (e.val - 1)).val)) (by rw [e0,e1]; omega)]
      rw [e3]
      exact ih (w64 (e.val - 1)) _ (by omega) (shl_val_lo a (w64 (e.val - 1)) (w64 (0 - (w64 (e.val - 1)).val)) hb2 ha (by omega) e0) hb2 (by omega)
    · exact ⟨e,s,log_L1_end _ _ _ _ h,he,by omega,hs,by omega,by omega⟩
theorem log0_tr (a : I64) (ha : 1 ≤ a.val) (ha2 : a.val ≤ 1152921504606846976) : ∀ (fu : Nat) (e : I64) (m : Iv),0 ≤ e.val → e.val ≤ 28 → m.lo.val = a.val / 2 ^ e.val.toNat → m.hi.val = -(-a.val / 2 ^ e.val.toNat) → (e.val = 0 → m = ⟨a,a⟩) → (e.val = 0 ∨ 3221225472 ≤ m.lo.val) → (64 - e.val).toNat < fu →
    ∃ q : I64,∃ m' : Iv,S_LogAt_L0 fu a e m = logEnd q m' ∧ -33 < q.val ∧ q.val ≤ 28 ∧ 3221225472 ≤ m'.lo.val ∧ m'.lo.val < 6442450944 ∧ m'.hi.val ≤ m'.lo.val + 1 ∧ m'.lo.val ≤ m'.hi.val ∧
      (0 ≤ q.val → m'.lo.val * 2 ^ q.val.toNat ≤ a.val ∧ a.val ≤ m'.hi.val * 2 ^ q.val.toNat) ∧ (q.val < 0 → m'.lo.val = a.val * 2 ^ (-q.val).toNat ∧ m'.hi.val = a.val * 2 ^ (-q.val).toNat):=by
  intro fu
  induction fu with
  | zero=>intro e m _ _ _ _ _ _ h; exact absurd h (Nat.not_lt_zero _)
  | succ fu ih=>
    intro e m h0 h28 hl hh hz hc hf
    have hml : m.lo.val = (ishr a (wu64 e.val).val).val:=by rw [wu_nn e h0,shr_val_nn a e (by omega) h0 (by omega),hl]
    by_cases h : m.lo.val ≥ 6442450944
    · have b:=spec_shr_big a e m ha2 h0 (by omega) hml (decide_eq_true h)
      have e1 : (w64 (e.val + 1)).val = e.val + 1:=by rw [w64_val]; omega
      have hw:=wu_nn (w64 (e.val + 1)) (by omega)
      rw [S_LogAt_L0,decide_eq_true h,cond_t,hw]
      have en : (w64 (0 - a.val)).val = -a.val:=by rw [w64_val]; omega
      have s1 : (ishr a (w64 (e.val + 1)).val).val = a.val / 2 ^ (w64 (e.val + 1)).val.toNat:=shr_val_nn a _ (by omega) (by omega) (by omega)
      have s2 : (ishr (w64 (0 - a.val)) (w64 (e.val + 1)).val).val = -a.val / 2 ^ (w64 (e.val + 1)).val.toNat:=by
        rw [ishr_val,Int.fdiv_eq_ediv_of_nonneg _ (Int.le_of_lt (Int.pow_pos (by decide))),Nat.min_eq_left (by show (w64 (e.val + 1)).val.toNat ≤ 64; omega),en]
      have pp : (0 : Int) < 2 ^ (w64 (e.val + 1)).val.toNat:=Int.pow_pos (by decide)
      refine ih (w64 (e.val + 1)) _ (by omega) (by omega) s1 ?_ (fun k=>by omega) (.inr ?_) (by omega)
      · show (w64 (0 - (ishr (w64 (0 - a.val)) (w64 (e.val + 1)).val).val)).val = _
        rw [w64_val,s2]
        have b1 : -a.val / 2 ^ (w64 (e.val + 1)).val.toNat ≤ 0:=by
          have:=Int.ediv_le_ediv pp (show -a.val ≤ 0 by omega)
          rwa [Int.zero_ediv] at this
        have b2 : -a.val ≤ -a.val / 2 ^ (w64 (e.val + 1)).val.toNat:=by
          refine (Int.le_ediv_iff_mul_le pp).2 ?_
          have:=Int.mul_le_mul_of_nonneg_left (show (1 : Int) ≤ 2 ^ (w64 (e.val + 1)).val.toNat by omega) (show 0 ≤ a.val by omega)
          rw [Int.neg_mul]; omega
        omega
      · have b2:=b.2
        rw [hw] at b2
        exact b2
    · have e3 : S_LogAt_L0 (fu + 1) a e m = S_LogAt_L1 ((64 + e.val).toNat + 1) a e m:=by rw [S_LogAt_L0,decide_eq_false h,cond_f]
      rw [e3]
      by_cases k : e.val = 0
      · rw [hz k] at h ⊢
        have p1 : a.val * 2 ^ (0 - e.val).toNat = a.val:=by rw [k]; show a.val * 2 ^ 0 = _; rw [Int.pow_zero,Int.mul_one]
        obtain ⟨q,s',q1,q2,q3,q4,q5,q6⟩:=log1_tr a ha ((64 + e.val).toNat + 1) e a (by omega) p1.symm (by rw [p1]; exact Int.lt_of_not_ge h) (by omega)
        refine ⟨q,⟨s',s'⟩,q1,q3,by omega,q5,q6,by show s'.val ≤ s'.val + 1; omega,Int.le_refl _,fun k=>?_,fun k=>?_⟩
        · have z : q.val = 0:=by omega
          rw [z] at q4 ⊢
          change s'.val = a.val * 2 ^ 0 at q4
          rw [Int.pow_zero,Int.mul_one] at q4
          show s'.val * 2 ^ 0 ≤ a.val ∧ a.val ≤ s'.val * 2 ^ 0
          rw [Int.pow_zero,Int.mul_one]; omega
        · rw [show (0 - q.val).toNat = (-q.val).toNat by omega] at q4
          exact ⟨q4,q4⟩
      · have pp : (0 : Int) < 2 ^ e.val.toNat:=Int.pow_pos (by decide)
        have l1:=Int.ediv_mul_le a.val (b:=2 ^ e.val.toNat) (by omega)
        have l2:=Int.ediv_mul_le (-a.val) (b:=2 ^ e.val.toNat) (by omega)
        have c1 : a.val / 2 ^ e.val.toNat ≤ -(-a.val / 2 ^ e.val.toNat):=by
          refine Int.le_of_mul_le_mul_right (a:=2 ^ e.val.toNat) ?_ pp
          rw [Int.neg_mul]; omega
        have c2 : -(-a.val / 2 ^ e.val.toNat) ≤ a.val / 2 ^ e.val.toNat + 1:=by
          have g1:=Int.lt_ediv_add_one_mul_self a.val pp
          have g2:=Int.lt_ediv_add_one_mul_self (-a.val) pp
          refine Int.le_of_lt_add_one ?_
          refine Int.lt_of_mul_lt_mul_right (a:=2 ^ e.val.toNat) ?_ (Int.le_of_lt pp)
          generalize (2 : Int) ^ e.val.toNat = p at *
          generalize -a.val / p = u at *
          generalize a.val / p = v at *
          rw [Int.add_mul] at g1 g2
          rw [Int.add_mul,Int.add_mul,Int.neg_mul]
          omega
        refine ⟨e,m,log_L1_end _ _ _ _ (by omega),by omega,h28,by omega,by omega,by omega,by omega,fun _=>?_,fun k=>by omega⟩
        rw [hl,hh,Int.neg_mul]
        omega
theorem logEnd_tr {q : I64} {m : Iv} {u y : Rl.R} (hm : Tr m u) (h1 : Rl.q (3/4) ≤ u) (h2 : u ≤ Rl.q (3/2)) (e : Rl.ex y = u) : Tr (logEnd q m) (Rl.q q.val * Rl.ln2 + y):=by
  unfold logEnd
  simp only [bindP_e]
  have mp : Rl.q 0 < u + Rl.q 1:=Rl.add_pos (Rl.lt_of_lt_of_le (Rl.q_lt.2 (by decide +kernel)) h1) (Rl.q_le.2 (by decide))
  obtain ⟨z,ez⟩:=div_ex (x:=u - Rl.q 1) mp
  obtain ⟨z1,z2⟩:=Rl.log_quot h1 h2 e ez
  have Z:=tDivS (tSubS hm tOneS) (tAddS hm tOneS) ez
  have Q:=tSqrS Z
  have P:=tMulS (tMulS tTwoS Z) (tAddS (tFrac (c64 1) 1 (by decide) (by decide +kernel)) (tMulS Q (tAddS (tFrac (c64 3) (1/3) (by decide) (by decide +kernel)) (tMulS Q (tAddS (tFrac (c64 5) (1/5) (by decide) (by decide +kernel)) (tMulS Q (tAddS (tFrac (c64 7) (1/7) (by decide) (by decide +kernel)) (tMulS Q (tAddS (tFrac (c64 9) (1/9) (by decide) (by decide +kernel)) (tMulS Q (tFrac (c64 11) (1/11) (by decide) (by decide +kernel))))))))))))
  have e2:=Rl.lat_pol z
  change Rl.q 2 * z * (Rl.q 1 + z * z * (Rl.q (1/3) + z * z * (Rl.q (1/5) + z * z * (Rl.q (1/7) + z * z * (Rl.q (1/9) + z * z * Rl.q (1/11)))))) = _ at e2
  rw [e2] at P
  exact tAddS (tLogTwoS q) (tWidenS P (by
    have:=(Rl.log_poly z1 z2).neg
    rwa [Rl.neg_sub] at this))
theorem tLogAtS {n : I64} {y : Rl.R} (e : Rl.ex y = Rl.fx n.val) : Tr (S_LogAt n) y:=by
  unfold S_LogAt
  simp only [bindP_e]
  cases hi : S_l00In n (c64 1) (c64 1152921504606846976) with
  | false=>simp only [Bool.not_false,cond_t]; exact tWhole _
  | true=>
    simp only [Bool.not_true,cond_f]
    rw [sp_in] at hi
    simp only [c64_v,Bool.and_eq_true,decide_eq_true_eq] at hi
    obtain ⟨q,m,em,q1,q2,m1,m2,m3,m4,up,dn⟩:=log0_tr n hi.1 hi.2 ((64 - (c64 0).val).toNat + 1) (c64 0) ⟨n,n⟩ (by decide) (by decide) (by rw [c64_v]; show n.val = n.val / 2 ^ 0; rw [Int.pow_zero,Int.ediv_one]) (by rw [c64_v]; show n.val = -(-n.val / 2 ^ 0); rw [Int.pow_zero,Int.ediv_one,Int.neg_neg]) (fun _=>rfl) (.inl (by rw [c64_v])) (Nat.lt_succ_self _)
    rw [em]
    have M : Rl.In m.lo.val m.hi.val (Rl.ex (y - Rl.q q.val * Rl.ln2)):=by
      by_cases hq : 0 ≤ q.val
      · obtain ⟨l,u⟩:=up hq
        have e2:=Rl.ex_ln_pos q.val.toNat y
        rw [show ((q.val.toNat : Nat) : Int) = q.val from Int.toNat_of_nonneg hq,e] at e2
        have pos : Rl.q 0 < Rl.q ((2 ^ q.val.toNat : Int) : Rat):=Rl.q_lt.2 (Rl.cast_pos (Int.pow_pos (by decide)))
        exact ⟨Rl.le_of_mul (by rw [e2,← fx_pow]; exact Rl.fx_le.2 l) pos,Rl.le_of_mul (by rw [e2,← fx_pow]; exact Rl.fx_le.2 u) pos⟩
      · obtain ⟨l,u⟩:=dn (by omega)
        have e2:=Rl.ex_ln_neg (-q.val).toNat y
        rw [show (((-q.val).toNat : Nat) : Int) = -q.val from Int.toNat_of_nonneg (by omega),show ((-q.val : Int) : Rat) = -(q.val : Rat) from by push_cast; rfl,Rl.q_neg,Rl.neg_mul,Rl.add_neg,e,← fx_pow] at e2
        rw [e2,l,u]
        exact Rl.In.fix _
    have L:=logEnd_tr (q:=q) (m:=m) (y:=y - Rl.q q.val * Rl.ln2) (fun _=>M) (Rl.le_trans (by
      have:=Rl.fx_le.2 m1
      refine Rl.le_trans ?_ this
      exact Rl.q_le.2 (by decide +kernel)) M.1) (Rl.le_trans M.2 (by
      have:=Rl.fx_le.2 (show m.hi.val ≤ 6442450944 by omega)
      refine Rl.le_trans this ?_
      exact Rl.q_le.2 (by decide +kernel))) rfl
    rwa [add_sub_self] at L
theorem LogAt_known {n : I64} (h : S_l04Ok (S_LogAt n) = true) : 1 ≤ n.val:=by
  refine Classical.byContradiction fun k=>?_
  unfold S_LogAt at h
  have hi : S_l00In n (c64 1) (c64 1152921504606846976) = false:=by
    rw [sp_in]
    simp only [c64_v,Bool.and_eq_false_iff,decide_eq_false_iff_not]
    exact .inl k
  simp only [bindP_e,hi,Bool.not_false,cond_t] at h
  exact absurd h (by decide)
theorem tLogS {a : Iv} {x y : Rl.R} (ha : Tr a x) (e : Rl.ex y = x) : Tr (S_LogI a) y:=by
  unfold S_LogI
  simp only [bindP_e]
  cases ho : S_l04Ok a with
  | false=>simp only [Bool.not_false,cond_t]; exact tWhole _
  | true=>
    simp only [Bool.not_true,cond_f]
    intro h
    obtain ⟨k1,k2,ee⟩:=Ends_out8 h
    have A:=ha ho
    obtain ⟨u,eu⟩:=Rl.log_ex (Rl.fx_pos (show 0 < a.lo.val by have:=LogAt_known k1; omega))
    obtain ⟨v,ev⟩:=Rl.log_ex (Rl.fx_pos (show 0 < a.hi.val by have:=LogAt_known k2; omega))
    exact tEnds (tLogAtS eu) (tLogAtS ev) (Rl.ex_le.1 (by rw [eu,e]; exact A.1)) (Rl.ex_le.1 (by rw [ev,e]; exact A.2)) h
theorem tExpNeg {n : I64} (h : -1152921504606846976 < n.val) : Tr (S_ExpAt (w64 (0 - n.val))) (Rl.ex (-Rl.fx n.val)):=by
  have w : (w64 (0 - n.val)).val = -n.val:=by rw [w64_val]; have : n.val ≤ 9223372036854775807:=n.hi; omega
  have:=tExpAtS (w64 (0 - n.val))
  rwa [w,Rl.fx_neg] at this
theorem tSinhAtS {n : I64} (h : -1152921504606846976 < n.val) : Tr (S_l08Sinh n) (Rl.q (1/2) * (Rl.ex (Rl.fx n.val) - Rl.ex (-Rl.fx n.val))):=by
  unfold S_l08Sinh
  simp only [bindP_e]
  exact tHalfS (tSubS (tExpAtS n) (tExpNeg h)) (Rl.half_two _)
theorem half_mono {x y : Rl.R} (h : x ≤ y) : Rl.q (1/2) * x ≤ Rl.q (1/2) * y:=Rl.mul_le_mul_l h (Rl.q_le.2 (by decide +kernel))
theorem tSinhS {a : Iv} {t : Rl.R} (ha : Tr a t) : Tr (S_SinhI a) (Rl.q (1/2) * (Rl.ex t - Rl.ex (-t))):=by
  unfold S_SinhI
  simp only [bindP_e]
  cases ho : S_l04Ok a with
  | false=>simp only [Bool.not_false,cond_t]; exact tWhole _
  | true=>
    simp only [Bool.not_true,cond_f]
    have A:=ha ho
    have p:=Ok4p ho
    exact tEnds (tSinhAtS (by omega)) (tSinhAtS (by omega)) (half_mono (Rl.sh_mono A.1)) (half_mono (Rl.sh_mono A.2))
def Bd (N : Int) (z : Iv) : Prop:=S_l04Ok z = true ∧ -N ≤ z.lo.val ∧ z.hi.val ≤ N
def Bo (N : Int) (z : Iv) : Prop:=S_l04Ok z = true → -N ≤ z.lo.val ∧ z.hi.val ≤ N
end Go.Proofs.YtbipmdgocmdgdaaGreat.Abs
