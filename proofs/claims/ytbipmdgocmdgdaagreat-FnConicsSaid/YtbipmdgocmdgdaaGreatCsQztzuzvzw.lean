/- Plain laws of the functions on numbers: what the program computes is what the reference computes. -/
import Derived.Test.YtbipmdgocmdgdaaGreatCsReal
import Derived.Test.YtbipmdgocmdgdaaGreatCsQzpzqzrzs
import Derived.Test.YtbipmdgocmdgdaaGreatCsFx
set_option linter.unusedVariables false
set_option linter.unusedSimpArgs false
namespace Go.Proofs.YtbipmdgocmdgdaaGreat.Abs
open Go
theorem Bd.of {N : Int} {z : Iv} (h : Bo N z) (o : S_l04Ok z = true) : Bd N z:=⟨o,h o⟩
theorem and_odd (x : Int) : (iand .i64 (w64 x).val 1).val = x % 2:=by
  have e : (BitVec.ofInt 64 (w64 x).val &&& BitVec.ofInt 64 1).toNat = (x % 2).toNat:=by
    have e2 : BitVec.ofInt 64 1 = BitVec.ofNat 64 1:=by decide
    rw [e2,BitVec.toNat_and,BitVec.toNat_ofNat,BitVec.toNat_ofInt,w64_val]
    have e3 : (1 : Nat) % 2 ^ 64 = 2 ^ 1 - 1:=by decide
    rw [e3,Nat.and_two_pow_sub_one_eq_mod]
    omega
  show IntKind.i64.wrap ((BitVec.ofInt 64 (w64 x).val &&& BitVec.ofInt 64 1).toNat : Int) = _
  rw [e,IntKind.wrap_i64]
  omega
theorem tan_loop (a : Iv) : ∀ (fu : Nat) (k : I64) (y : Iv),-2000 ≤ k.val → k.val ≤ 2000 → (1002 - k.val).toNat < fu → S_l04Ok (S_TanI_L0 fu a k y) = true →
    S_TanI_L0 fu a k y = tanEnd a ∧ ∀ K : Int,k.val ≤ K → K ≤ (S_QuarterOf a.hi).val + 1 → K % 2 = 1 → S_OverlapI (S_TurnI (w64 K)) a = false:=by
  intro fu
  induction fu with
  | zero=>intro k y _ _ h; omega
  | succ fu ih=>
    intro k y hk hk2 hf hv
    have qb:=spec_quarter_bounds a.hi
    unfold S_TanI_L0 at hv ⊢
    simp only [bindP_e] at hv ⊢
    generalize S_QuarterOf a.hi = qq at *
    have eq1 : (w64 (qq.val + 1)).val = qq.val + 1:=by rw [w64_val]; omega
    rw [eq1] at hv ⊢
    by_cases hc : k.val ≤ qq.val + 1
    · have d : decide (k.val ≤ qq.val + 1) = true:=decide_eq_true hc
      simp only [d,cond_t] at hv ⊢
      have ek : (w64 (k.val + 1)).val = k.val + 1:=by rw [w64_val]; omega
      have ih':=fun y=>ih (w64 (k.val + 1)) y (by omega) (by omega) (by omega)
      have split : ∀ K : Int,k.val ≤ K → K = k.val ∨ (w64 (k.val + 1)).val ≤ K:=fun K h=>by omega
      have wk : w64 k.val = k:=w64_id k
      have a1:=and_odd k.val
      rw [wk] at a1
      by_cases m : k.val % 2 = 1
      · have d1 : ((iand .i64 k.val 1).val == 1) = true:=by rw [a1,m]; rfl
        simp only [d1,cond_t] at hv ⊢
        cases ho : S_OverlapI (S_TurnI k) a with
        | true=>
          exfalso
          unfold S_Whole at hv
          simp only [ho,cond_t,bindP_e] at hv
          exact absurd hv (by decide)
        | false=>
          simp only [ho,cond_f] at hv ⊢
          obtain ⟨i1,i2⟩:=ih' _ hv
          refine ⟨i1,fun K hK hK2 hm=>?_⟩
          rcases split K hK with rfl | h
          · rw [wk,ho]
          · exact i2 K h hK2 hm
      · have d1 : ((iand .i64 k.val 1).val == 1) = false:=by rw [a1]; simp only [beq_eq_false_iff_ne,ne_eq]; exact m
        simp only [d1,cond_f] at hv ⊢
        obtain ⟨i1,i2⟩:=ih' _ hv
        refine ⟨i1,fun K hK hK2 hm=>?_⟩
        rcases split K hK with rfl | h
        · exact absurd hm m
        · exact i2 K h hK2 hm
    · have d : decide (k.val ≤ qq.val + 1) = false:=decide_eq_false hc
      simp only [d,cond_f] at hv ⊢
      exact ⟨rfl,fun K h1 h2=>by omega⟩
theorem Turn_listed {a : Iv} (hok : S_l04Ok a = true) (hlo : S_l06Angle a.lo = true) (hf : S_l06Angle a.hi = true) (K : Int) (g1 : Rl.fx a.lo.val ≤ Rl.kh K) (g2 : Rl.kh K ≤ Rl.fx a.hi.val) :
    (S_QuarterOf a.lo).val - 1 ≤ K ∧ K ≤ (S_QuarterOf a.hi).val + 1 ∧ S_OverlapI (S_TurnI (w64 K)) a = true:=by
  have q1:=Quarter_val hlo
  have q2:=Quarter_val hf
  have kb:=kh_bounds K
  have b : a.lo.val ≤ K * 6746518852 + (if 0 ≤ K then K else 0) ∧ K * 6746518852 + (if 0 ≤ K then 0 else K) ≤ a.hi.val:=by
    by_cases hK : 0 ≤ K
    · obtain ⟨c1,c2⟩:=kb.1 hK
      have e1:=Rl.fx_le.1 (Rl.le_trans g1 c2)
      have e2:=Rl.fx_le.1 (Rl.le_trans c1 g2)
      rw [if_pos hK,if_pos hK]
      omega
    · obtain ⟨c1,c2⟩:=kb.2 (by omega)
      have e1:=Rl.fx_le.1 (Rl.le_trans g1 c2)
      have e2:=Rl.fx_le.1 (Rl.le_trans c1 g2)
      rw [if_neg hK,if_neg hK]
      omega
  have hr : -2000 ≤ K ∧ K ≤ 2000:=by
    have p1 : -1099511627776 ≤ a.lo.val ∧ a.hi.val ≤ 1099511627776:=by
      unfold S_l06Angle at hlo hf
      simp only [bindP_e] at hlo hf
      rw [sp_in] at hlo hf
      simp only [Bool.and_eq_true,decide_eq_true_eq,c64_v] at hlo hf
      omega
    by_cases hK : 0 ≤ K
    · rw [if_pos hK,if_pos hK] at b; omega
    · rw [if_neg hK,if_neg hK] at b; omega
  have wK : (w64 K).val = K:=by rw [w64_val]; omega
  refine ⟨?_,?_,OverlapI_tr (v:=Rl.kh K) (by have:=tTurnS (w64 K); rwa [wK] at this) (fun _=>⟨g1,g2⟩)⟩
  · rw [q1]
    by_cases hK : 0 ≤ K
    · rw [if_pos hK] at b; omega
    · rw [if_neg hK] at b; omega
  · rw [q2]
    by_cases hK : 0 ≤ K
    · rw [if_pos hK,if_pos hK] at b; omega
    · rw [if_neg hK,if_neg hK] at b; omega
theorem tan_up {t u x y : Rl.R} (t1 : -Rl.hp < t) (t2 : t < Rl.hp) (et : Rl.sn t = x * Rl.cn t) (u1 : -Rl.hp < u) (u2 : u < Rl.hp) (eu : Rl.sn u = y * Rl.cn u) (h : t ≤ u) : x ≤ y:=by
  rcases Rl.le_total x y with k | k
  · exact k
  · have e : t = u:=Rl.le_antisymm h (Rl.tan_mono u1 u2 eu t1 t2 et k)
    rw [e,eu] at et
    rw [Rl.eq_of_mul et.symm (Rl.cn_pos u1 u2)]
    exact Rl.le_refl _
theorem tTanS {a : Iv} {x y : Rl.R} (ha : Tr a x) (x1 : -Rl.hp < x) (x2 : x < Rl.hp) (e : Rl.sn x = y * Rl.cn x) : Tr (S_TanI a) y:=by
  unfold S_TanI
  simp only [bindP_e]
  cases hf : S_l06Fits a with
  | false=>unfold S_Whole; simp only [Bool.not_false,cond_t,bindP_e]; exact tWhole _
  | true=>
    simp only [Bool.not_true,cond_f]
    unfold S_l06Fits S_ValidInterval at hf
    simp only [bindP_e] at hf
    cases hok : S_l04Ok a with
    | false=>rw [hok] at hf; cases hf
    | true=>
    rw [hok,cond_t] at hf
    cases hlo : S_l06Angle a.lo with
    | false=>rw [hlo] at hf; cases hf
    | true=>
    rw [hlo,cond_t] at hf
    have A:=ha hok
    have qb1:=spec_quarter_bounds a.lo
    have ek : (w64 ((S_QuarterOf a.lo).val - 1)).val = (S_QuarterOf a.lo).val - 1:=by rw [w64_val]; omega
    intro hv
    obtain ⟨i1,i2⟩:=tan_loop a _ (w64 ((S_QuarterOf a.lo).val - 1)) _ (by omega) (by omega) (by omega) hv
    have none_ : ∀ K : Int,K % 2 = 1 → Rl.fx a.lo.val ≤ Rl.kh K → ¬ Rl.kh K ≤ Rl.fx a.hi.val:=fun K hm g1 g2=>by
      obtain ⟨r1,r2,r3⟩:=Turn_listed hok hlo hf K g1 g2
      rw [i2 K (by omega) r2 hm] at r3
      cases r3
    have h2 : Rl.fx a.hi.val < Rl.hp:=fun k=>none_ 1 (by decide) (by rw [Rl.kh_one]; exact Rl.le_trans A.1 (Rl.le_of_lt x2)) (by rw [Rl.kh_one]; exact k)
    have l1 : -Rl.hp < Rl.fx a.lo.val:=fun k=>none_ (-1) (by decide) (by rw [Rl.kh_neg,Rl.kh_one]; exact k) (by rw [Rl.kh_neg,Rl.kh_one]; exact Rl.le_trans (Rl.le_of_lt x1) A.2)
    have l2 : Rl.fx a.lo.val < Rl.hp:=Rl.lt_of_le_of_lt A.1 x2
    have h1 : -Rl.hp < Rl.fx a.hi.val:=Rl.lt_of_lt_of_le x1 A.2
    obtain ⟨u,eu⟩:=div_ex (x:=Rl.sn (Rl.fx a.lo.val)) (Rl.cn_pos l1 l2)
    obtain ⟨v,ev⟩:=div_ex (x:=Rl.sn (Rl.fx a.hi.val)) (Rl.cn_pos h1 h2)
    rw [i1] at hv ⊢
    unfold tanEnd at hv ⊢
    exact tHullL (tDivS (tSinAtS a.lo) (tCosAtS a.lo) eu) (tDivS (tSinAtS a.hi) (tCosAtS a.hi) ev) (.inl (tan_up l1 l2 eu.symm x1 x2 e A.1)) (.inr (tan_up x1 x2 e h1 h2 ev.symm A.2)) hv
end Go.Proofs.YtbipmdgocmdgdaaGreat.Abs
