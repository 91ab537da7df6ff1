/- Plain laws of the functions on numbers: what the program computes is what the reference computes. -/
import Derived.Test.YtfhnlkinjbakgaaGreatSsReal
import Derived.Test.YtfhnlkinjbakgaaGreatSsQzpzqzrzs
import Derived.Test.YtfhnlkinjbakgaaGreatSsFx
set_option linter.unusedVariables false
set_option linter.unusedSimpArgs false
namespace Go.Proofs.YtfhnlkinjbakgaaGreat.Abs
open Go
theorem Bd.of {N : Int} {z : Iv} (h : Bo N z) (o : Am z = true) : Bd N z:=⟨o,h o⟩
theorem Ah3 {a : Iv} (h : Tr a (Rl.q 0)) : Dx a (Ah 0) = true:=by
  cases ho : Am a with
  | false=>
    unfold Dx
    simp only [Ag,ho,Bool.not_false,Ai]
  | true=>
    have A:=h ho
    rw [← Rl.Fy] at A
    exact (eY ho).2 ⟨Rl.Df.1 A.1,Rl.Df.1 A.2⟩
theorem Ahx (x : Int) : (Eo .i64 (An x).val 1).val = x % 2:=by
  have e : (BitVec.ofInt 64 (An x).val &&& BitVec.ofInt 64 1).toNat = (x % 2).toNat:=by
    have e2 : BitVec.ofInt 64 1 = BitVec.ofNat 64 1:=by decide
    rw [e2,BitVec.toNat_and,BitVec.toNat_ofNat,BitVec.toNat_ofInt,Ad]
    have e3 : (1 : Nat) % 2 ^ 64 = 2 ^ 1 - 1:=by decide
    rw [e3,Nat.and_two_pow_sub_one_eq_mod]
    omega
  show IntKind.i64.wrap ((BitVec.ofInt 64 (An x).val &&& BitVec.ofInt 64 1).toNat : Int) = _
  rw [e,IntKind.wrap_i64]
  omega
theorem Aca (a : Iv) : ∀ (fu : Nat) (k : Aq) (y : Iv),-2000 ≤ k.val → k.val ≤ 2000 → (1002 - k.val).toNat < fu → Am (O9 fu a k y) = true →
    O9 fu a k y = dT a ∧ ∀ K : Int,k.val ≤ K → K ≤ (Cl a.hi).val + 1 → K % 2 = 1 → Bx (C5 (An K)) a = false:=by
  intro fu
  induction fu with
  | zero=>intro k y _ _ h; omega
  | succ fu ih=>
    intro k y hk hk2 hf hv
    have qb:=Ef a.hi
    unfold O9 at hv ⊢
    simp only [Ag] at hv ⊢
    generalize Cl a.hi = qq at *
    have eq1 : (An (qq.val + 1)).val = qq.val + 1:=by rw [Ad]; omega
    rw [eq1] at hv ⊢
    by_cases hc : k.val ≤ qq.val + 1
    · have d : decide (k.val ≤ qq.val + 1) = true:=decide_eq_true hc
      simp only [d,Ai] at hv ⊢
      have ek : (An (k.val + 1)).val = k.val + 1:=by rw [Ad]; omega
      have ih':=fun y=>ih (An (k.val + 1)) y (by omega) (by omega) (by omega)
      have split : ∀ K : Int,k.val ≤ K → K = k.val ∨ (An (k.val + 1)).val ≤ K:=fun K h=>by omega
      have wk : An k.val = k:=Ab4 k
      have a1:=Ahx k.val
      rw [wk] at a1
      by_cases m : k.val % 2 = 1
      · have d1 : ((Eo .i64 k.val 1).val == 1) = true:=by rw [a1,m]; rfl
        simp only [d1,Ai] at hv ⊢
        cases ho : Bx (C5 k) a with
        | true=>
          exfalso
          unfold Cr at hv
          simp only [ho,Ai,Ag] at hv
          exact absurd hv (by decide)
        | false=>
          simp only [ho,Ae] at hv ⊢
          obtain ⟨i1,i2⟩:=ih' _ hv
          refine ⟨i1,fun K hK hK2 hm=>?_⟩
          rcases split K hK with rfl | h
          · rw [wk,ho]
          · exact i2 K h hK2 hm
      · have d1 : ((Eo .i64 k.val 1).val == 1) = false:=by rw [a1]; simp only [beq_eq_false_iff_ne,ne_eq]; exact m
        simp only [d1,Ae] at hv ⊢
        obtain ⟨i1,i2⟩:=ih' _ hv
        refine ⟨i1,fun K hK hK2 hm=>?_⟩
        rcases split K hK with rfl | h
        · exact absurd hm m
        · exact i2 K h hK2 hm
    · have d : decide (k.val ≤ qq.val + 1) = false:=decide_eq_false hc
      simp only [d,Ae] at hv ⊢
      exact ⟨rfl,fun K h1 h2=>by omega⟩
theorem u7 {a : Iv} (hok : Am a = true) (X5 : F5 a.lo = true) (hf : F5 a.hi = true) (K : Int) (g1 : Rl.fx a.lo.val ≤ Rl.kh K) (g2 : Rl.kh K ≤ Rl.fx a.hi.val) :
    (Cl a.lo).val - 1 ≤ K ∧ K ≤ (Cl a.hi).val + 1 ∧ Bx (C5 (An K)) a = true:=by
  have q1:=Um X5
  have q2:=Um hf
  have kb:=mX K
  have b : a.lo.val ≤ K * 6746518852 + (if 0 ≤ K then K else 0) ∧ K * 6746518852 + (if 0 ≤ K then 0 else K) ≤ a.hi.val:=by
    by_cases hK : 0 ≤ K
    · obtain ⟨c1,c2⟩:=kb.1 hK
      have e1:=Rl.Df.1 (Rl.le_trans g1 c2)
      have e2:=Rl.Df.1 (Rl.le_trans c1 g2)
      rw [if_pos hK,if_pos hK]
      omega
    · obtain ⟨c1,c2⟩:=kb.2 (by omega)
      have e1:=Rl.Df.1 (Rl.le_trans g1 c2)
      have e2:=Rl.Df.1 (Rl.le_trans c1 g2)
      rw [if_neg hK,if_neg hK]
      omega
  have hr : -2000 ≤ K ∧ K ≤ 2000:=by
    have p1 : -1099511627776 ≤ a.lo.val ∧ a.hi.val ≤ 1099511627776:=by
      unfold F5 at X5 hf
      simp only [Ag] at X5 hf
      rw [Gk] at X5 hf
      simp only [Bool.and_eq_true,decide_eq_true_eq,A8] at X5 hf
      omega
    by_cases hK : 0 ≤ K
    · rw [if_pos hK,if_pos hK] at b; omega
    · rw [if_neg hK,if_neg hK] at b; omega
  have wK : (An K).val = K:=by rw [Ad]; omega
  refine ⟨?_,?_,Pb (v:=Rl.kh K) (by have:=Xr (An K); rwa [wK] at this) (fun _=>⟨g1,g2⟩)⟩
  · rw [q1]
    by_cases hK : 0 ≤ K
    · rw [if_pos hK] at b; omega
    · rw [if_neg hK] at b; omega
  · rw [q2]
    by_cases hK : 0 ≤ K
    · rw [if_pos hK,if_pos hK] at b; omega
    · rw [if_neg hK,if_neg hK] at b; omega
theorem Ab8 {t u x y : Rl.R} (t1 : -Rl.hp < t) (t2 : t < Rl.hp) (et : Rl.sn t = x * Rl.cn t) (u1 : -Rl.hp < u) (u2 : u < Rl.hp) (eu : Rl.sn u = y * Rl.cn u) (h : t ≤ u) : x ≤ y:=by
  rcases Rl.le_total x y with k | k
  · exact k
  · have e : t = u:=Rl.Cs h (Rl.gY u1 u2 eu t1 t2 et k)
    rw [e,eu] at et
    rw [Rl.Kz et.symm (Rl.Hx u1 u2)]
    exact Rl.le_refl _
theorem Akk {a : Iv} {x y : Rl.R} (ha : Tr a x) (x1 : -Rl.hp < x) (x2 : x < Rl.hp) (e : Rl.sn x = y * Rl.cn x) : Tr (l7 a) y:=by
  unfold l7
  simp only [Ag]
  cases hf : Lx a with
  | false=>unfold Cr; simp only [Bool.not_false,Ai,Ag]; exact Jf _
  | true=>
    simp only [Bool.not_true,Ae]
    unfold Lx Of at hf
    simp only [Ag] at hf
    cases hok : Am a with
    | false=>rw [hok] at hf; cases hf
    | true=>
    rw [hok,Ai] at hf
    cases X5 : F5 a.lo with
    | false=>rw [X5] at hf; cases hf
    | true=>
    rw [X5,Ai] at hf
    have A:=ha hok
    have qb1:=Ef a.lo
    have ek : (An ((Cl a.lo).val - 1)).val = (Cl a.lo).val - 1:=by rw [Ad]; omega
    intro hv
    obtain ⟨i1,i2⟩:=Aca a _ (An ((Cl a.lo).val - 1)) _ (by omega) (by omega) (by omega) hv
    have none_ : ∀ K : Int,K % 2 = 1 → Rl.fx a.lo.val ≤ Rl.kh K → ¬ Rl.kh K ≤ Rl.fx a.hi.val:=fun K hm g1 g2=>by
      obtain ⟨r1,r2,r3⟩:=u7 hok X5 hf K g1 g2
      rw [i2 K (by omega) r2 hm] at r3
      cases r3
    have h2 : Rl.fx a.hi.val < Rl.hp:=fun k=>none_ 1 (by decide) (by rw [Rl.Kx]; exact Rl.le_trans A.1 (Rl.le_of_lt x2)) (by rw [Rl.Kx]; exact k)
    have l1 : -Rl.hp < Rl.fx a.lo.val:=fun k=>none_ (-1) (by decide) (by rw [Rl.Tb,Rl.Kx]; exact k) (by rw [Rl.Tb,Rl.Kx]; exact Rl.le_trans (Rl.le_of_lt x1) A.2)
    have l2 : Rl.fx a.lo.val < Rl.hp:=Rl.Kw A.1 x2
    have h1 : -Rl.hp < Rl.fx a.hi.val:=Rl.lt_of_lt_of_le x1 A.2
    obtain ⟨u,eu⟩:=Ns (x:=Rl.sn (Rl.fx a.lo.val)) (Rl.Hx l1 l2)
    obtain ⟨v,ev⟩:=Ns (x:=Rl.sn (Rl.fx a.hi.val)) (Rl.Hx h1 h2)
    rw [i1] at hv ⊢
    unfold dT at hv ⊢
    exact uW (Ig (xG a.lo) (xL a.lo) eu) (Ig (xG a.hi) (xL a.hi) ev) (.inl (Ab8 l1 l2 eu.symm x1 x2 e A.1)) (.inr (Ab8 x1 x2 e h1 h2 ev.symm A.2)) hv
end Go.Proofs.YtfhnlkinjbakgaaGreat.Abs
