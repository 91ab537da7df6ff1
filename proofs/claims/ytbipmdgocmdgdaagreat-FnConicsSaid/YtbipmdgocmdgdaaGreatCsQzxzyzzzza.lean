/- Plain laws of the functions on numbers: what the program computes is what the reference computes. -/
import Derived.Test.YtbipmdgocmdgdaaGreatCsReal
import Derived.Test.YtbipmdgocmdgdaaGreatCsQztzuzvzw
import Derived.Test.YtbipmdgocmdgdaaGreatCsFx
set_option linter.unusedVariables false
set_option linter.unusedSimpArgs false
namespace Go.Proofs.YtbipmdgocmdgdaaGreat.Abs
open Go
theorem tAsinhPos (f : I64 → Iv) {n : I64} {t : Rl.R} (h0 : 0 ≤ n.val) (h : Rl.Ash (Rl.fx n.val) t) : Tr (S_l08Asinh_b f n) t:=by
  unfold S_l08Asinh_b
  simp only [bindP_e,decide_eq_false (show ¬ n.val < 0 by omega),cond_f]
  by_cases h1 : n.val ≤ 35184372088832
  · rw [decide_eq_true h1,cond_t]
    obtain ⟨s0,es⟩:=Rl.ash_ex h
    have A:=tAddS (tAt8 n) (tSqrtS (tAddS (tSqrS (tAt8 n)) tOne8) s0 es)
    rw [add_sub_self] at A
    exact tLogS A rfl
  · rw [decide_eq_false h1,cond_f]
    obtain ⟨l,el⟩:=Rl.log_ex (Rl.fx_pos (show 0 < n.val by omega))
    obtain ⟨d0,d1⟩:=Rl.ash_far h el (by
      rw [Rl.fx_q]
      refine Rl.q_le.2 ?_
      have:=Rl.cast_le (show (35184372088832 : Int) ≤ n.val by omega)
      rw [show ((35184372088832 : Int) : Rat) = 35184372088832 from by decide +kernel] at this
      grind)
    have two:=tLogTwoS (c64 1)
    rw [show Rl.q ((c64 1).val : Rat) * Rl.ln2 = Rl.ln2 from by rw [c64_v,show Rl.q (((1 : Int)) : Rat) = Rl.q 1 from rfl,Rl.one_mul]] at two
    have D : Tr (⟨c64 0,c64 16⟩ : Iv) (t - (Rl.ln2 + l)):=fun _=>⟨by show Rl.fx (c64 0).val ≤ _; rw [c64_v,Rl.fx_zero]; exact d0,by show _ ≤ Rl.fx (c64 16).val; rw [c64_v]; exact d1⟩
    have A:=tAddS (tAddS two (tLogAtS el)) D
    rwa [add_sub_self] at A
theorem tAsinhAtS {n : I64} {t : Rl.R} (hb : -1152921504606846976 < n.val) (h : Rl.Ash (Rl.fx n.val) t) : Tr (S_l08Asinh n) t:=by
  unfold S_l08Asinh S_l08Asinh_r
  by_cases h0 : 0 ≤ n.val
  · exact tAsinhPos _ h0 h
  · rw [S_l08Asinh_b,decide_eq_true (show n.val < 0 by omega),cond_t,bindP_e,bindP_e]
    have w : (w64 (0 - n.val)).val = -n.val:=by rw [w64_val]; omega
    unfold S_l08Asinh_r
    have P:=tNegS (tAsinhPos (S_l08Asinh_r 0) (n:=w64 (0 - n.val)) (t:=-t) (by omega) (by rw [w,Rl.fx_neg]; exact Rl.ash_neg h))
    rwa [Rl.neg_neg] at P
theorem tAsinhS {a : Iv} {y t : Rl.R} (ha : Tr a y) (h : Rl.Ash y t) : Tr (S_AsinhI a) t:=by
  unfold S_AsinhI
  simp only [bindP_e]
  cases ho : S_l04Ok a with
  | false=>simp only [Bool.not_false,cond_t]; exact tWhole _
  | true=>
    simp only [Bool.not_true,cond_f]
    have A:=ha ho
    have p:=Ok4p ho
    obtain ⟨u,eu⟩:=Rl.ash_exist (Rl.fx a.lo.val)
    obtain ⟨v,ev⟩:=Rl.ash_exist (Rl.fx a.hi.val)
    exact tEnds (tAsinhAtS (by omega) eu) (tAsinhAtS (by omega) ev) (Rl.ash_mono eu h A.1) (Rl.ash_mono h ev A.2)
theorem tIsoS {a : Iv} {x t : Rl.R} (ha : Tr a x) (x1 : -Rl.hp < x) (x2 : x < Rl.hp) (e : Rl.ex t * Rl.cn x = Rl.q 1 + Rl.sn x) : Tr (S_l19Iso a) t:=by
  unfold S_l19Iso
  simp only [bindP_e]
  have cp:=Rl.cn_pos x1 x2
  obtain ⟨y,ey⟩:=div_ex (x:=Rl.sn x) cp
  refine tAsinhS (tTanS ha x1 x2 ey.symm) ?_
  have py:=Rl.pyth x
  have n:=Rl.ex_neg t
  have p:=Rl.ex_pos t
  have e2 : Rl.ex (-t) * Rl.cn x = Rl.q 1 - Rl.sn x:=by
    refine Rl.eq_of_mul (z:=Rl.ex t * Rl.cn x) ?_ (Rl.mul_pos p cp)
    have l : Rl.ex (-t) * Rl.cn x * (Rl.ex t * Rl.cn x) = Rl.ex t * Rl.ex (-t) * (Rl.cn x * Rl.cn x):=Rl.ind3 (P:=fun u v c=>v * c * (u * c) = u * v * (c * c)) (fun a b c=>Rl.pt fun n=>by simp only [Rl.f_mul]; grind) _ _ _
    rw [l,n,Rl.one_mul,e]
    have r : (Rl.q 1 - Rl.sn x) * (Rl.q 1 + Rl.sn x) = Rl.q 1 - Rl.sn x * Rl.sn x:=Rl.mk_ind (P:=fun s=>(Rl.q 1 - s) * (Rl.q 1 + s) = Rl.q 1 - s * s) (fun a=>Rl.pt fun n=>by simp only [Rl.f_add,Rl.f_sub,Rl.f_mul,Rl.f_q]; grind) _
    rw [r,← py,Rl.add_sub_cancel]
  show Rl.ex t - Rl.ex (-t) = y + y
  refine Rl.eq_of_mul (z:=Rl.cn x) ?_ cp
  rw [Rl.sub_mul,e,e2,Rl.add_mul,ey]
  exact Rl.mk_ind (P:=fun s=>Rl.q 1 + s - (Rl.q 1 - s) = s + s) (fun a=>Rl.pt fun n=>by simp only [Rl.f_add,Rl.f_sub,Rl.f_q]; grind) _
theorem rad_in_hp {u : Int} (h1 : -900000000 < u) (h2 : u < 900000000) : -Rl.hp < rad u ∧ rad u < Rl.hp:=by
  have a:=rad_lt h1
  have b:=rad_lt h2
  rw [show (-900000000 : Int) = (-1) * 900000000 from by decide,rad_kh,Rl.kh_neg,Rl.kh_one] at a
  rw [show (900000000 : Int) = 1 * 900000000 from by decide,rad_kh,Rl.kh_one] at b
  exact ⟨a,b⟩
theorem Conic_ok {p : Pj} (h : S_l19Ok p = true) : (p.kind.val = 10 ∨ p.kind.val = 11 ∨ p.kind.val = 12) ∧ S_ValidProjection p = true ∧ (-890000000 ≤ p.lat1.val ∧ p.lat1.val ≤ 890000000) ∧ (-890000000 ≤ p.lat2.val ∧ p.lat2.val ≤ 890000000) ∧ (10000000 ≤ p.lat1.val + p.lat2.val ∨ p.lat1.val + p.lat2.val ≤ -10000000):=by
  unfold S_l19Ok at h
  simp only [bindP_e,sp_in,c64_v] at h
  cases hk : (decide (10 ≤ p.kind.val) && decide (p.kind.val ≤ 12)) with
  | false=>rw [hk,cond_f] at h; cases h
  | true=>
    rw [hk,cond_t] at h
    have hv : S_ValidProjection p = true:=by unfold S_ValidProjection; simp only [bindP_e]; exact h
    simp only [Bool.and_eq_true,decide_eq_true_eq] at hk
    have k3 : p.kind.val = 10 ∨ p.kind.val = 11 ∨ p.kind.val = 12:=by omega
    refine ⟨k3,hv,?_⟩
    unfold S_l17Ok S_l17Standard at h
    simp only [bindP_e,sp_in,c64_v] at h
    cases h1 : S_l11Ok (⟨p.lat0,p.lon0⟩ : Pt) with
    | false=>rw [h1] at h; simp only [Bool.not_false,cond_t] at h; cases h
    | true=>
      rw [h1] at h
      simp only [Bool.not_true,cond_f] at h
      cases h2 : (decide (-890000000 ≤ p.lat1.val) && decide (p.lat1.val ≤ 890000000)) with
      | false=>rw [h2] at h; simp only [Bool.not_false,cond_t] at h; cases h
      | true=>
        rw [h2] at h
        simp only [Bool.not_true,cond_f] at h
        cases h3 : (decide (-890000000 ≤ p.lat2.val) && decide (p.lat2.val ≤ 890000000)) with
        | false=>rw [h3] at h; simp only [Bool.not_false,cond_t] at h; cases h
        | true=>
          rw [h3] at h
          simp only [Bool.not_true,cond_f] at h
          simp only [Bool.and_eq_true,decide_eq_true_eq] at h2 h3
          refine ⟨h2,h3,?_⟩
          have e : (w64 (p.lat1.val + p.lat2.val)).val = p.lat1.val + p.lat2.val:=by rw [w64_val]; omega
          rw [e] at h
          cases hm : decide (p.lat1.val + p.lat2.val ≥ 10000000) with
          | true=>exact .inl (of_decide_eq_true hm)
          | false=>
            cases hn : decide (p.lat1.val + p.lat2.val ≤ -10000000) with
            | true=>exact .inr (of_decide_eq_true hn)
            | false=>
              rw [hm,hn] at h
              rcases k3 with k | k | k
              · rw [k] at h; simp at h
              · rw [k] at h; simp at h
              · rw [k] at h; simp at h
def Core (p : Pj) : Prop:=∃ n g : Rl.R,Tr (S_l19Cone p) n ∧ Tr (S_l19Constant p (S_l19Cone p)) g ∧ Rl.Nf n (rad p.lat1.val) (rad p.lat2.val) ∧
  ∀ x,-Rl.hp ≤ x → x ≤ Rl.hp → (p.kind.val = 11 → -Rl.hp < x ∧ x < Rl.hp) → ∃ r,Rl.q 0 ≤ n * r ∧ (x = rad p.lat1.val → n * r = Rl.cn x) ∧ (x = rad p.lat2.val → n * r = Rl.cn x) ∧
    ∀ N G,Tr N n → Tr G g → (∀ X,Tr X x → Tr (S_l19Radius p.kind N G X) r) ∧ ∀ W,Tr W r →
      (p.kind.val = 10 → Tr (S_DivI (S_SubI G (S_SqrI (S_MulI W N))) (S_MulI (S_Integer (c64 2)) N)) (Rl.sn x)) ∧
      (p.kind.val = 11 → Tr (S_AtanI (S_SinhI (S_DivI (S_LogI (S_DivI G W)) N))) x) ∧
      (p.kind.val = 12 → Tr (S_SubI G W) x)
theorem mean_ne {p : Pj} {n : Rl.R} (h : S_l19Ok p = true) (hn : Rl.Nf n (rad p.lat1.val) (rad p.lat2.val)) : (0 ≤ p.lat1.val + p.lat2.val → Rl.q 0 < n) ∧ (p.lat1.val + p.lat2.val < 0 → n < Rl.q 0) ∧ (n < Rl.q 0 ∨ Rl.q 0 < n):=by
  obtain ⟨_,_,_,_,m⟩:=Conic_ok h
  have a : 0 ≤ p.lat1.val + p.lat2.val → Rl.q 0 < n:=fun k=>hn.1 (by rw [← rad_add,← rad_zero]; exact rad_lt (by omega))
  have b : p.lat1.val + p.lat2.val < 0 → n < Rl.q 0:=fun k=>hn.2.1 (by rw [← rad_add,← rad_zero]; exact rad_lt (by omega))
  refine ⟨a,b,?_⟩
  by_cases k : 0 ≤ p.lat1.val + p.lat2.val
  · exact .inr (a k)
  · exact .inl (b (by omega))
theorem Core_albers {p : Pj} (h : S_l19Ok p = true) (k : p.kind.val = 10) : Core p:=by
  obtain ⟨_,hp,l1,l2,m⟩:=Conic_ok h
  obtain ⟨a1,a2⟩:=rad_in_hp (u:=p.lat1.val) (by omega) (by omega)
  obtain ⟨b1,b2⟩:=rad_in_hp (u:=p.lat2.val) (by omega) (by omega)
  have d : (p.kind.val == 10) = true:=by rw [k]; decide
  have en : Rl.q (1/2) * (Rl.sn (rad p.lat1.val) + Rl.sn (rad p.lat2.val)) + Rl.q (1/2) * (Rl.sn (rad p.lat1.val) + Rl.sn (rad p.lat2.val)) = Rl.sn (rad p.lat1.val) + Rl.sn (rad p.lat2.val):=Rl.half_two _
  generalize Rl.q (1/2) * (Rl.sn (rad p.lat1.val) + Rl.sn (rad p.lat2.val)) = n at en
  have nf:=Rl.nf_albers a1 a2 b1 b2 en
  have hn:=(mean_ne h nf).2.2
  have TN : Tr (S_l19Cone p) n:=by
    unfold S_l19Cone
    simp only [bindP_e,d,cond_t]
    exact tHalfS (tAddS (tSinS (tRadS _)) (tSinS (tRadS _))) en
  refine ⟨n,Rl.cn (rad p.lat1.val) * Rl.cn (rad p.lat1.val) + Rl.q 2 * n * Rl.sn (rad p.lat1.val),TN,?_,nf,fun x x1 x2 _=>?_⟩
  · unfold S_l19Constant
    simp only [bindP_e,d,cond_t]
    exact tAddS (tSqrS (tCosS (tRadS _))) (tMulS (tMulS tTwoS TN) (tSinS (tRadS _)))
  · have eD:=Rl.albers_D (x:=x) en
    have nn : Rl.q 0 ≤ Rl.cn (rad p.lat1.val) * Rl.cn (rad p.lat1.val) + Rl.q 2 * n * Rl.sn (rad p.lat1.val) - Rl.q 2 * n * Rl.sn x:=by rw [eD]; exact Rl.albers_nn
    obtain ⟨s,s0,es⟩:=Rl.sqrt_ex nn
    obtain ⟨r,er⟩:=Rl.quot_ex (x:=s) hn
    have er' : n * r = s:=by rw [Rl.mul_comm,er]
    refine ⟨r,by rw [er']; exact s0,fun e=>?_,fun e=>?_,fun N G hN hG=>⟨fun X hX=>?_,fun W hW=>⟨fun _=>?_,fun e=>absurd e (by omega),fun e=>absurd e (by omega)⟩⟩⟩
    · rw [er']
      refine Rl.sq_eq s0 (by rw [e]; exact Rl.le_of_lt (Rl.cn_pos a1 a2)) ?_
      rw [es,e,Rl.add_sub_cancel]
    · rw [er']
      refine Rl.sq_eq s0 (by rw [e]; exact Rl.le_of_lt (Rl.cn_pos b1 b2)) ?_
      have py:=Rl.pyth x
      rw [es,eD,show Rl.cn x * Rl.cn x = Rl.q 1 - Rl.sn x * Rl.sn x from by rw [← py,Rl.add_sub_cancel],e]
      exact (Rl.ind2 (P:=fun a b=>Rl.q 1 + a * b - (a + b) * b = Rl.q 1 - b * b) (fun a b=>Rl.pt fun n__=>by simp only [Rl.f_add,Rl.f_sub,Rl.f_neg,Rl.f_mul,Rl.f_q]; grind) (Rl.sn (rad p.lat1.val)) (Rl.sn (rad p.lat2.val)))
    · unfold S_l19Radius
      simp only [bindP_e,d,cond_t]
      exact tDivS (tSqrtS (tSubS hG (tMulS (tMulS tTwoS hN) (tSinS hX))) s0 es) hN er
    · refine tDivS (tSubS hG (tSqrS (tMulS hW hN))) (tMulS tTwoS hN) ?_
      rw [er,es,Rl.sub_sub_self,Rl.mul_comm]
theorem Core_equi {p : Pj} (h : S_l19Ok p = true) (k : p.kind.val = 12) : Core p:=by
  obtain ⟨_,hp,l1,l2,m⟩:=Conic_ok h
  obtain ⟨a1,a2⟩:=rad_in_hp (u:=p.lat1.val) (by omega) (by omega)
  obtain ⟨b1,b2⟩:=rad_in_hp (u:=p.lat2.val) (by omega) (by omega)
  have d : (p.kind.val == 10) = false:=by rw [k]; decide
  have d1 : (p.kind.val == 11) = false:=by rw [k]; decide
  obtain ⟨n,TN,hc⟩ : ∃ n,Tr (S_l19Cone p) n ∧ Rl.Cone n (rad p.lat1.val) (rad p.lat2.val):=by
    unfold S_l19Cone
    simp only [bindP_e,d,d1,cond_f]
    by_cases e : p.lat1.val = p.lat2.val
    · have de : (p.lat1.val == p.lat2.val) = true:=by rw [e]; exact beq_self_eq_true _
      simp only [de,cond_t]
      exact ⟨_,tSinS (tRadS _),.inl ⟨by rw [e],rfl⟩⟩
    · have de : (p.lat1.val == p.lat2.val) = false:=by simp only [beq_eq_false_iff_ne,ne_eq]; exact e
      simp only [de,cond_f]
      have o : rad p.lat1.val < rad p.lat2.val ∨ rad p.lat2.val < rad p.lat1.val:=by
        rcases Int.lt_or_gt_of_ne e with c | c
        · exact .inl (rad_lt c)
        · exact .inr (rad_lt c)
      obtain ⟨n,en⟩:=Rl.quot_ex (x:=Rl.cn (rad p.lat1.val) - Rl.cn (rad p.lat2.val)) (y:=rad p.lat2.val - rad p.lat1.val) (o.elim (fun c=>.inr (Rl.sub_pos c)) (fun c=>.inl (by
        have:=Rl.neg_of_pos (Rl.sub_pos c)
        rwa [Rl.neg_sub] at this)))
      exact ⟨n,tDivS (tSubS (tCosS (tRadS _)) (tCosS (tRadS _))) (tSubS (tRadS _) (tRadS _)) en,.inr ⟨o,en⟩⟩
  have nf:=hc.nf a1 a2 b1 b2
  have hn:=(mean_ne h nf).2.2
  obtain ⟨c,ec⟩:=Rl.quot_ex (x:=Rl.cn (rad p.lat1.val)) hn
  refine ⟨n,c + rad p.lat1.val,TN,?_,nf,fun x x1 x2 _=>⟨c + rad p.lat1.val - x,hc.rad a1 a2 b1 b2 x1 x2 ec hn.symm,fun e=>?_,fun e=>?_,fun N G hN hG=>⟨fun X hX=>?_,fun W hW=>⟨fun e=>absurd e (by omega),fun e=>absurd e (by omega),fun _=>?_⟩⟩⟩⟩
  · unfold S_l19Constant
    simp only [bindP_e,d,d1,cond_f]
    exact tAddS (tDivS (tCosS (tRadS _)) TN ec) (tRadS _)
  · rw [e,Rl.add_sub_cancel,Rl.mul_comm,ec]
  · have : n * (c + rad p.lat1.val - x) = c * n - n * (x - rad p.lat1.val):=(Rl.ind4 (P:=fun n c a x=>n * (c + a - x) = c * n - n * (x - a)) (fun n c a x=>Rl.pt fun n__=>by simp only [Rl.f_add,Rl.f_sub,Rl.f_neg,Rl.f_mul,Rl.f_q]; grind) n c (rad p.lat1.val) x)
    rw [this,ec,e]
    rcases hc with ⟨e1,e2⟩ | ⟨_,e2⟩
    · rw [← e1,Rl.sub_self,Rl.mul_zero,Rl.sub_zero]
    · rw [e2,Rl.sub_sub_self]
  · unfold S_l19Radius
    simp only [bindP_e,d,d1,cond_f]
    exact tSubS hG hX
  · have:=tSubS hG hW
    rwa [Rl.sub_sub_self] at this
theorem Core_lambert {p : Pj} (h : S_l19Ok p = true) (k : p.kind.val = 11) : Core p:=by
  obtain ⟨_,hp,l1,l2,m⟩:=Conic_ok h
  obtain ⟨a1,a2⟩:=rad_in_hp (u:=p.lat1.val) (by omega) (by omega)
  obtain ⟨b1,b2⟩:=rad_in_hp (u:=p.lat2.val) (by omega) (by omega)
  have d : (p.kind.val == 10) = false:=by rw [k]; decide
  have d1 : (p.kind.val == 11) = true:=by rw [k]; decide
  have ca:=Rl.cn_pos a1 a2
  have cb:=Rl.cn_pos b1 b2
  obtain ⟨s,hs⟩:=Rl.iso_ex a1 a2
  obtain ⟨t,ht⟩:=Rl.iso_ex b1 b2
  obtain ⟨la,ea⟩:=Rl.log_ex ca
  obtain ⟨lb,eb⟩:=Rl.log_ex cb
  have tS : Tr (S_l19Iso (S_RadiansOf p.lat1)) s:=tIsoS (tRadS _) a1 a2 hs
  have tT : Tr (S_l19Iso (S_RadiansOf p.lat2)) t:=tIsoS (tRadS _) b1 b2 ht
  obtain ⟨n,TN,nf,hc⟩ : ∃ n,Tr (S_l19Cone p) n ∧ Rl.Nf n (rad p.lat1.val) (rad p.lat2.val) ∧ (rad p.lat1.val = rad p.lat2.val ∨ n * (t - s) = la - lb):=by
    unfold S_l19Cone
    simp only [bindP_e,d,d1,cond_f,cond_t]
    by_cases e : p.lat1.val = p.lat2.val
    · have de : (p.lat1.val == p.lat2.val) = true:=by rw [e]; exact beq_self_eq_true _
      simp only [de,cond_t]
      exact ⟨_,tSinS (tRadS _),by rw [← e]; exact Rl.nf_one a1 a2,.inl (by rw [e])⟩
    · have de : (p.lat1.val == p.lat2.val) = false:=by simp only [beq_eq_false_iff_ne,ne_eq]; exact e
      simp only [de,cond_f]
      obtain ⟨n,en,nf⟩ : ∃ n,n * (t - s) = la - lb ∧ Rl.Nf n (rad p.lat1.val) (rad p.lat2.val):=by
        rcases Int.lt_or_gt_of_ne e with c | c
        · have c:=rad_lt c
          obtain ⟨n,en⟩:=Rl.quot_ex (x:=la - lb) (y:=t - s) (.inr (Rl.sub_pos (Rl.iso_lt a1 a2 b1 b2 c hs ht)))
          exact ⟨n,en,Rl.nf_lambert a1 a2 b1 b2 c hs ht ea eb en⟩
        · have c:=rad_lt c
          obtain ⟨n,en⟩:=Rl.quot_ex (x:=lb - la) (y:=s - t) (.inr (Rl.sub_pos (Rl.iso_lt b1 b2 a1 a2 c ht hs)))
          refine ⟨n,?_,Rl.nf_swap (Rl.nf_lambert b1 b2 a1 a2 c ht hs eb ea en)⟩
          rw [← Rl.neg_sub s t,Rl.mul_neg,en,Rl.neg_sub]
      exact ⟨n,tDivS (tSubS (tLogS (tCosS (tRadS _)) ea) (tLogS (tCosS (tRadS _)) eb)) (tSubS tT tS) en,nf,.inr en⟩
  have hn:=(mean_ne h nf).2.2
  obtain ⟨g,eg⟩:=Rl.quot_ex (x:=Rl.cn (rad p.lat1.val) * Rl.ex (n * s)) hn
  refine ⟨n,g,TN,?_,nf,fun x _ _ x3=>?_⟩
  · unfold S_l19Constant
    simp only [bindP_e,d,d1,cond_f,cond_t]
    exact tDivS (tMulS (tCosS (tRadS _)) (tExpS (tMulS TN tS))) TN eg
  · obtain ⟨x1,x2⟩:=x3 k
    have cx:=Rl.cn_pos x1 x2
    obtain ⟨u,hu⟩:=Rl.iso_ex x1 x2
    have e1 : n * (g * Rl.ex (-(n * u))) = Rl.cn (rad p.lat1.val) * (Rl.ex (n * s) * Rl.ex (-(n * u))):=by rw [← Rl.mul_assoc,Rl.mul_comm n,eg,Rl.mul_assoc]
    have ux : ∀ v,Rl.Iso x v → u = v:=fun v hv=>Rl.iso_inj hu hv cx
    refine ⟨g * Rl.ex (-(n * u)),?_,fun e=>?_,fun e=>?_,fun N G hN hG=>⟨fun X hX=>?_,fun W hW=>⟨fun e=>absurd e (by omega),fun _=>?_,fun e=>absurd e (by omega)⟩⟩⟩
    · rw [e1]
      exact Rl.le_of_lt (Rl.mul_pos ca (Rl.mul_pos (Rl.ex_pos _) (Rl.ex_pos _)))
    · rw [e1,ux s (by rw [e]; exact hs),Rl.ex_neg,Rl.mul_one,e]
    · rw [e1,ux t (by rw [e]; exact ht)]
      rcases hc with c | c
      · have : s = t:=Rl.iso_inj hs (by rw [c]; exact ht) ca
        rw [this,Rl.ex_neg,Rl.mul_one,e,c]
      · rw [← Rl.ex_add,show n * s + -(n * t) = -(n * (t - s)) from (Rl.ind3 (P:=fun n s t=>n * s + -(n * t) = -(n * (t - s))) (fun n s t=>Rl.pt fun n__=>by simp only [Rl.f_add,Rl.f_sub,Rl.f_neg,Rl.f_mul,Rl.f_q]; grind) n s t),c,Rl.neg_sub,← ea,← Rl.ex_add,Rl.add_comm,Rl.sub_add_cancel,eb,e]
    · unfold S_l19Radius
      simp only [bindP_e,d,d1,cond_f,cond_t]
      exact tMulS hG (tExpS (tNegS (tMulS hN (tIsoS hX x1 x2 hu))))
    · have q : Tr (S_DivI G W) (Rl.ex (n * u)):=tDivS hG hW (by rw [Rl.mul_left_comm,Rl.ex_neg,Rl.mul_one])
      have y : Tr (S_DivI (S_LogI (S_DivI G W)) N) u:=tDivS (tLogS q rfl) hN (Rl.mul_comm _ _)
      refine tAtanS (tSinhS y) x1 x2 ?_
      have i1 : Rl.ex u * Rl.cn x = Rl.q 1 + Rl.sn x:=hu
      have i2:=Rl.iso_neg hu cx
      rw [Rl.mul_assoc,Rl.sub_mul,i1,i2]
      exact (Rl.mk_ind (P:=fun s=>s = Rl.q (1/2) * (Rl.q 1 + s - (Rl.q 1 - s))) (fun s=>Rl.pt fun n__=>by simp only [Rl.f_add,Rl.f_sub,Rl.f_neg,Rl.f_mul,Rl.f_q]; grind) (Rl.sn x))
theorem Core_of {p : Pj} (h : S_l19Ok p = true) : Core p:=by
  rcases (Conic_ok h).1 with k | k | k
  · exact Core_albers h k
  · exact Core_lambert h k
  · exact Core_equi h k
theorem and_255 (x : IK .u64) : 0 ≤ (iand .u64 x.val 255).val ∧ (iand .u64 x.val 255).val ≤ 255:=by
  have e : (BitVec.ofInt 64 x.val &&& BitVec.ofInt 64 255).toNat ≤ 255:=by
    have e2 : BitVec.ofInt 64 255 = BitVec.ofNat 64 255:=by decide
    rw [e2,BitVec.toNat_and,BitVec.toNat_ofNat]
    exact Nat.and_le_right
  show 0 ≤ IntKind.u64.wrap ((BitVec.ofInt 64 x.val &&& BitVec.ofInt 64 255).toNat : Int) ∧ IntKind.u64.wrap ((BitVec.ofInt 64 x.val &&& BitVec.ofInt 64 255).toNat : Int) ≤ 255
  rw [IntKind.wrap_u64]
  omega
theorem next_nn (C : Cd) (b : Src) : 0 ≤ (S_l00Src_next__src C b).1.val ∧ (S_l00Src_next__src C b).1.val ≤ 255:=by
  have hb : ∀ i,0 ≤ (byteAt C.L i).val ∧ (byteAt C.L i).val ≤ 255:=fun i=>by
    exact (byteAt C.L i).ok
  have hw : ∀ x : Int,0 ≤ x ∧ x ≤ 255 → 0 ≤ (w64 x).val ∧ (w64 x).val ≤ 255:=fun x h=>by rw [w64_val]; omega
  unfold S_l00Src_next__src
  refine cond_both (p:=fun r : I64 × Src=>0 ≤ r.1.val ∧ r.1.val ≤ 255) (cond_both (p:=fun r : I64 × Src=>0 ≤ r.1.val ∧ r.1.val ≤ 255) (hw _ (hb _)) (hw _ (and_255 _))) (cond_both (p:=fun r : I64 × Src=>0 ≤ r.1.val ∧ r.1.val ≤ 255) ?_ (hw _ (and_255 _)))
  show 0 ≤ (c64 0).val ∧ (c64 0).val ≤ 255
  rw [c64_v]; omega
theorem pick_in (C : Cd) (b : Src) (n : I64) (h : 1 ≤ n.val ∧ n.val ≤ 200) : 0 ≤ (S_l00Src_pick__src C b n).1.val ∧ (S_l00Src_pick__src C b n).1.val < n.val:=by
  unfold S_l00Src_pick__src
  by_cases h1 : n.val ≤ 1
  · rw [decide_eq_true h1,cond_t,c64_v]; omega
  · rw [decide_eq_false h1,cond_f,bindP_e,decide_eq_false (show ¬ n.val > 200 by omega),cond_f]
    have:=next_nn C b
    generalize S_l00Src_next__src C b = r at *
    show 0 ≤ (imod r.1 n.val).val ∧ (imod r.1 n.val).val < n.val
    rw [imod_val,Int.tmod_eq_emod_of_nonneg this.1]
    exact ⟨Int.emod_nonneg _ (by omega),Int.emod_lt_of_pos _ (by omega)⟩
theorem draw_kind (C : Cd) (b : Src) (k : I64) : (S_l17Draw__src C b k).1.kind = k:=by
  unfold S_l17Draw__src
  simp only [bindP_e]
  refine cond_both (p:=fun r : Pj × Src=>r.1.kind = k) rfl (cond_both (p:=fun r : Pj × Src=>r.1.kind = k) rfl (cond_both (p:=fun r : Pj × Src=>r.1.kind = k) rfl (cond_both (p:=fun r : Pj × Src=>r.1.kind = k) rfl (cond_both (p:=fun r : Pj × Src=>r.1.kind = k) ?_ rfl))))
  refine cond_both (p:=fun r : Pj × Src=>r.1.kind = k) (cond_both (p:=fun r : Pj × Src=>r.1.kind = k) rfl rfl) (cond_both (p:=fun r : Pj × Src=>r.1.kind = k) rfl rfl)
theorem A2_ok (C : Cd) (lo hi : I64) (h : 1 ≤ lo.val ∧ lo.val ≤ hi.val ∧ hi.val ≤ 16) : S_ValidProjection (S_A2Projection C lo hi).1 = true ∧ S_l11Ok (S_A2Projection C lo hi).2 = true ∧
    ((S_A2Projection C lo hi).1.kind.val = 1 ∨ (lo.val ≤ (S_A2Projection C lo hi).1.kind.val ∧ (S_A2Projection C lo hi).1.kind.val ≤ hi.val)):=by
  have plate : S_ValidProjection (⟨c64 1,c64 0,c64 0,c64 0,c64 0⟩ : Pj) = true:=by decide
  have en : (w64 ((w64 (hi.val - lo.val)).val + 1)).val = hi.val - lo.val + 1:=by rw [w64_val,w64_val]; omega
  have hpick:=pick_in C (⟨c64 0,cu64 0⟩ : Src) (w64 ((w64 (hi.val - lo.val)).val + 1)) (by rw [en]; omega)
  unfold S_A2Projection
  simp only [bindP_e]
  generalize S_l00Src_pick__src C (⟨c64 0,cu64 0⟩ : Src) (w64 ((w64 (hi.val - lo.val)).val + 1)) = r1 at *
  rw [en] at hpick
  have ek : (w64 (lo.val + r1.1.val)).val = lo.val + r1.1.val:=by rw [w64_val]; omega
  have hk:=draw_kind C r1.2 (w64 (lo.val + r1.1.val))
  generalize S_l17Draw__src C r1.2 (w64 (lo.val + r1.1.val)) = r2 at *
  cases hv : S_l17Ok r2.1 with
  | false=>
    simp only [Bool.not_false,cond_t]
    generalize S_l22Near__src C r2.2 (⟨c64 1,c64 0,c64 0,c64 0,c64 0⟩ : Pj) = r5
    cases ho : S_l11Ok r5.1 with
    | false=>simp only [Bool.not_false,cond_t]; exact ⟨plate,draw_point C _,.inl (c64_v _ _)⟩
    | true=>simp only [Bool.not_true,cond_f]; exact ⟨plate,ho,.inl (c64_v _ _)⟩
  | true=>
    simp only [Bool.not_true,cond_f]
    have hv' : S_ValidProjection r2.1 = true:=by unfold S_ValidProjection; rw [bindP_e]; exact hv
    have kk : lo.val ≤ r2.1.kind.val ∧ r2.1.kind.val ≤ hi.val:=by rw [hk,ek]; omega
    generalize S_l22Near__src C r2.2 r2.1 = r9
    cases ho : S_l11Ok r9.1 with
    | false=>simp only [Bool.not_false,cond_t]; exact ⟨hv',draw_point C _,.inr kk⟩
    | true=>simp only [Bool.not_true,cond_f]; exact ⟨hv',ho,.inr kk⟩
theorem half_tr {t : Rl.R} (h1 : -Rl.pi ≤ t) (h2 : t ≤ Rl.pi) : Tr (⟨w64 (0 - (S_l05Turn (c64 2)).hi.val),(S_l05Turn (c64 2)).hi⟩ : Iv) t:=by
  intro _
  obtain ⟨z,e1,e2,e3,b1,b2,_⟩:=Turn_in (c64 2) (by decide)
  have e4 : S_TurnI (c64 2) = S_l05Turn (c64 2):=by
    unfold S_TurnI
    have : S_l00In (c64 2) (c64 (-4096)) (c64 4096) = true:=by decide
    simp only [bindP_e,this,Bool.not_true,cond_f]
  have p1 : Rl.pi ≤ Rl.fx (S_l05Turn (c64 2)).hi.val:=by
    rw [← e4,e1]
    have:=e3.2
    rwa [c64_v,Rl.pi_kh2] at this
  have b3 : (S_l05Turn (c64 2)).hi.val ≤ 30000000000000:=by rw [← e4,e1]; exact b2
  have b4 : 0 ≤ (S_l05Turn (c64 2)).hi.val:=Rl.fx_le.1 (Rl.le_trans (by rw [Rl.fx_zero]; exact Rl.le_of_lt Rl.pi_pos) p1)
  have w : (w64 (0 - (S_l05Turn (c64 2)).hi.val)).val = -(S_l05Turn (c64 2)).hi.val:=by rw [w64_val]; omega
  refine ⟨?_,Rl.le_trans h2 p1⟩
  show Rl.fx (w64 (0 - (S_l05Turn (c64 2)).hi.val)).val ≤ t
  rw [w,Rl.fx_neg]
  exact Rl.le_trans (Rl.neg_le_neg p1) h1
theorem Back_ok {p : Pj} {lat lon : Iv} {x t : Rl.R} (hx : Tr lat x) (x1 : -Rl.hp ≤ x) (x2 : x ≤ Rl.hp) (ht : Tr lon t) (t1 : -Rl.pi ≤ t) (t2 : t ≤ Rl.pi) :
    S_l17Back p lat lon = (lat,S_AddI lon (S_RadiansOf p.lon0),c64 0) ∨ (S_l17Back p lat lon).2.2.val = 9:=by
  have q:=OverlapI_tr hx (Quarter_tr x1 x2)
  have h:=OverlapI_tr ht (half_tr t1 t2)
  unfold S_l07Quarter at q
  simp only [bindP_e] at q
  unfold S_l17Back
  simp only [bindP_e,q,h,Bool.not_true,cond_f]
  cases o1 : S_l04Ok lat with
  | false=>
    right
    cases o2 : S_l04Ok lon with
    | true=>simp only [cond_t,cond_f,Bool.not_false]; exact c64_v _ _
    | false=>simp only [cond_t,cond_f,Bool.not_false]; exact c64_v _ _
  | true=>
    have fin : ((bif !S_l04Ok (S_AddI lon (S_RadiansOf p.lon0)) then ((⟨c64 0,c64 0⟩ : Iv),(⟨c64 0,c64 0⟩ : Iv),c64 9) else (lat,S_AddI lon (S_RadiansOf p.lon0),c64 0)) : Iv × Iv × I64) = (lat,S_AddI lon (S_RadiansOf p.lon0),c64 0) ∨ ((bif !S_l04Ok (S_AddI lon (S_RadiansOf p.lon0)) then ((⟨c64 0,c64 0⟩ : Iv),(⟨c64 0,c64 0⟩ : Iv),c64 9) else (lat,S_AddI lon (S_RadiansOf p.lon0),c64 0)) : Iv × Iv × I64).2.2.val = 9:=by
      cases S_l04Ok (S_AddI lon (S_RadiansOf p.lon0)) with
      | true=>exact .inl rfl
      | false=>exact .inr (c64_v _ _)
    cases o2 : S_l04Ok lon with
    | true=>simp only [cond_t,cond_f,Bool.not_true]; exact fin
    | false=>simp only [cond_t,cond_f,Bool.not_true]; exact fin
theorem Iso_pole : S_l04Ok (S_l19Iso (S_RadiansOf (c64 900000000))) = false ∧ S_l04Ok (S_l19Iso (S_RadiansOf (c64 (-900000000)))) = false:=by
  constructor <;> decide +kernel
def cR (p : Pj) (X : Iv) : Iv:=S_l19Radius p.kind (S_l19Cone p) (S_l19Constant p (S_l19Cone p)) X
theorem Conic_std {p : Pj} (h : S_l19Ok p = true) : (S_StandardScales p).2.2.val = 9 ∨ ((S_StandardScales p).2.2.val = 0 ∧ S_OverlapI (S_StandardScales p).1 (S_Integer (c64 1)) = true ∧ S_OverlapI (S_StandardScales p).2.1 (S_Integer (c64 1)) = true):=by
  obtain ⟨_,hp,l1,l2,m⟩:=Conic_ok h
  obtain ⟨a1,a2⟩:=rad_in_hp (u:=p.lat1.val) (by omega) (by omega)
  obtain ⟨b1,b2⟩:=rad_in_hp (u:=p.lat2.val) (by omega) (by omega)
  obtain ⟨n,g,TN,TG,nf,H⟩:=Core_of h
  obtain ⟨r,_,rA,_,HR⟩:=H _ (Rl.le_of_lt a1) (Rl.le_of_lt a2) fun _=>⟨a1,a2⟩
  obtain ⟨s,_,_,sB,HS⟩:=H _ (Rl.le_of_lt b1) (Rl.le_of_lt b2) fun _=>⟨b1,b2⟩
  have A : Tr (S_l19Scale p (S_RadiansOf p.lat1)) (Rl.q 1):=by
    unfold S_l19Scale
    simp only [bindP_e]
    exact tDivS (tMulS TN ((HR _ _ TN TG).1 _ (tRadS _))) (tCosS (tRadS _)) (by rw [rA rfl,Rl.one_mul])
  have B : Tr (S_l19Scale p (S_RadiansOf p.lat2)) (Rl.q 1):=by
    unfold S_l19Scale
    simp only [bindP_e]
    exact tDivS (tMulS TN ((HS _ _ TN TG).1 _ (tRadS _))) (tCosS (tRadS _)) (by rw [sB rfl,Rl.one_mul])
  have oA:=OverlapI_tr A tOneS
  have oB:=OverlapI_tr B tOneS
  unfold S_StandardScales S_l17Scales
  simp only [bindP_e,h,Bool.not_true,cond_f]
  generalize S_l19Scale p (S_RadiansOf p.lat1) = x at *
  generalize S_l19Scale p (S_RadiansOf p.lat2) = y at *
  cases S_l04Ok x with
  | false=>exact .inl (c64_v _ _)
  | true=>
    cases S_l04Ok y with
    | false=>exact .inl (c64_v _ _)
    | true=>exact .inr ⟨c64_v _ _,oA,oB⟩
theorem cond_same {α : Type} (b : Bool) (x : α) : (bif b then x else x) = x:=by cases b <;> rfl
theorem ConicF_ok {p : Pj} {q : Pt} (hp : S_l19Ok p = true) (hq : S_l11Ok q = true) :
    (S_ConicForward p q).2.val = 8 ∨ (S_ConicForward p q).2.val = 9 ∨ ((S_ConicForward p q).2.val = 0 ∧ (p.kind.val = 11 → S_l11Pole q = false) ∧
      (S_ConicForward p q).1 = (⟨S_MulI (cR p (S_LatOf q)) (S_SinI (S_MulI (S_l19Cone p) (S_l17Lon p q))),S_SubI (cR p (S_RadiansOf p.lat0)) (S_MulI (cR p (S_LatOf q)) (S_CosI (S_MulI (S_l19Cone p) (S_l17Lon p q))))⟩ : Pn) ∧
      S_l04Ok (S_MulI (cR p (S_LatOf q)) (S_SinI (S_MulI (S_l19Cone p) (S_l17Lon p q)))) = true ∧ S_l04Ok (S_SubI (cR p (S_RadiansOf p.lat0)) (S_MulI (cR p (S_LatOf q)) (S_CosI (S_MulI (S_l19Cone p) (S_l17Lon p q))))) = true):=by
  unfold S_ConicForward S_l17End cR
  simp only [bindP_e,hp,hq,Bool.not_true,cond_f]
  generalize S_MulI (S_l19Radius p.kind (S_l19Cone p) (S_l19Constant p (S_l19Cone p)) (S_LatOf q)) (S_SinI (S_MulI (S_l19Cone p) (S_l17Lon p q))) = X
  generalize S_SubI (S_l19Radius p.kind (S_l19Cone p) (S_l19Constant p (S_l19Cone p)) (S_RadiansOf p.lat0)) (S_MulI (S_l19Radius p.kind (S_l19Cone p) (S_l19Constant p (S_l19Cone p)) (S_LatOf q)) (S_CosI (S_MulI (S_l19Cone p) (S_l17Lon p q)))) = Y
  cases hk : (p.kind.val == 11) with
  | true=>
    simp only [cond_t]
    cases ho : S_l11Pole q with
    | true=>exact .inl (c64_v _ _)
    | false=>
      simp only [cond_f]
      cases h1 : S_l04Ok X with
      | false=>exact .inr (.inl (c64_v _ _))
      | true=>
        cases h2 : S_l04Ok Y with
        | false=>exact .inr (.inl (c64_v _ _))
        | true=>exact .inr (.inr ⟨c64_v _ _,fun _=>by first | rfl | trivial,rfl,rfl,rfl⟩)
  | false=>
    simp only [cond_f]
    cases h1 : S_l04Ok X with
    | false=>exact .inr (.inl (c64_v _ _))
    | true=>
      cases h2 : S_l04Ok Y with
      | false=>exact .inr (.inl (c64_v _ _))
      | true=>exact .inr (.inr ⟨c64_v _ _,fun k=>by rw [k] at hk; exact absurd hk (by decide),rfl,rfl,rfl⟩)
theorem not_pole {p : Pt} (h : S_l11Ok p = true) (k : S_l11Pole p = false) : -Rl.hp < rad p.lat.val ∧ rad p.lat.val < Rl.hp:=by
  obtain ⟨b1,b2,_,_⟩:=Lat_bound h
  unfold S_l11Pole at k
  cases k1 : (p.lat.val == 900000000) with
  | true=>rw [k1] at k; cases k
  | false=>
    rw [k1,cond_f] at k
    simp only [beq_eq_false_iff_ne,ne_eq] at k k1
    exact rad_in_hp (by omega) (by omega)
theorem O_tr {p : Pj} (h : S_l19Ok p = true) : ∃ o,Tr (cR p (S_RadiansOf p.lat0)) o:=by
  obtain ⟨n,g,TN,TG,nf,H⟩:=Core_of h
  obtain ⟨_,hp,_⟩:=Conic_ok h
  obtain ⟨_,_,v3,v4⟩:=Valid_bound hp
  obtain ⟨l1,l2⟩:=rad_hp v3 v4
  have gen : (p.kind.val = 11 → -Rl.hp < rad p.lat0.val ∧ rad p.lat0.val < Rl.hp) → ∃ o,Tr (cR p (S_RadiansOf p.lat0)) o:=fun k=>by
    obtain ⟨r,_,_,_,HR⟩:=H _ l1 l2 k
    exact ⟨r,(HR _ _ TN TG).1 _ (tRadS _)⟩
  have pole : S_l04Ok (S_l19Iso (S_RadiansOf p.lat0)) = false → p.kind.val = 11 → ∃ o,Tr (cR p (S_RadiansOf p.lat0)) o:=fun e k=>by
    have d : (p.kind.val == 10) = false:=by rw [k]; decide
    have d1 : (p.kind.val == 11) = true:=by rw [k]; decide
    have T : Tr (S_l19Iso (S_RadiansOf p.lat0)) (Rl.q 0):=fun o=>by rw [e] at o; cases o
    refine ⟨g * Rl.ex (-(n * Rl.q 0)),?_⟩
    unfold cR S_l19Radius
    simp only [bindP_e,d,d1,cond_f,cond_t]
    exact tMulS TG (tExpS (tNegS (tMulS TN T)))
  by_cases k : p.kind.val = 11
  · by_cases c1 : p.lat0.val = 900000000
    · exact pole (by rw [show p.lat0 = c64 900000000 from IK.eq (by rw [c1,c64_v])]; exact Iso_pole.1) k
    · by_cases c2 : p.lat0.val = -900000000
      · exact pole (by rw [show p.lat0 = c64 (-900000000) from IK.eq (by rw [c2,c64_v])]; exact Iso_pole.2) k
      · exact gen fun _=>rad_in_hp (by omega) (by omega)
  · exact gen fun c=>absurd c k
theorem turn_range {n l : Rl.R} (n1 : -Rl.q 1 < n) (n2 : n < Rl.q 1) (l1 : -Rl.pi < l) (l2 : l ≤ Rl.pi) : -Rl.pi < n * l ∧ n * l ≤ Rl.pi:=by
  rcases Rl.lt_total (Rl.q 0) l with c | c
  · obtain ⟨h1,h2⟩:=Rl.mul_lt_one n1 n2 c l2
    exact ⟨h1,Rl.le_of_lt h2⟩
  · rcases Rl.lt_total l (Rl.q 0) with c2 | c2
    · obtain ⟨h1,h2⟩:=Rl.mul_lt_one n1 n2 (Rl.neg_pos c2) (d:=Rl.pi) (by have:=Rl.neg_le_neg (Rl.le_of_lt l1); rwa [Rl.neg_neg] at this)
      rw [Rl.mul_neg] at h1 h2
      have h3:=Rl.neg_lt h1
      have h4:=Rl.neg_lt h2
      rw [Rl.neg_neg] at h4
      rw [Rl.neg_neg,Rl.neg_neg] at h3
      exact ⟨h4,Rl.le_of_lt h3⟩
    · rw [Rl.le_antisymm c c2,Rl.mul_zero]
      exact ⟨Rl.neg_pi_lt,Rl.le_of_lt Rl.pi_pos⟩
theorem sq_polar (r t : Rl.R) : r * Rl.sn t * (r * Rl.sn t) + r * Rl.cn t * (r * Rl.cn t) = r * r:=by
  have e : r * Rl.sn t * (r * Rl.sn t) + r * Rl.cn t * (r * Rl.cn t) = r * r * (Rl.cn t * Rl.cn t + Rl.sn t * Rl.sn t):=(Rl.ind3 (P:=fun r s c=>r * s * (r * s) + r * c * (r * c) = r * r * (c * c + s * s)) (fun r s c=>Rl.pt fun n__=>by simp only [Rl.f_add,Rl.f_sub,Rl.f_neg,Rl.f_mul,Rl.f_q]; grind) r (Rl.sn t) (Rl.cn t))
  rw [e,Rl.pyth,Rl.mul_one]
theorem tDirPolar {Y X : Iv} {r t : Rl.R} (hY : Tr Y (r * Rl.sn t)) (hX : Tr X (r * Rl.cn t)) (r0 : Rl.q 0 ≤ r) (t1 : -Rl.pi < t) (t2 : t ≤ Rl.pi) : Tr (S_DirectionI Y X) t:=fun o=>by
  have k:=Dir_known o hY hX
  rw [Rl.add_comm,sq_polar] at k
  have rp : Rl.q 0 < r:=fun c=>by
    rw [Rl.le_antisymm c r0,Rl.mul_zero] at k
    exact k (Rl.le_refl _)
  exact tDirS hY hX (dir_scale rp t1 t2) o
theorem Conic_point {p : Pj} {q : Pt} (h : S_l19Ok p = true) (hq : S_l11Ok q = true) (pole : p.kind.val = 11 → S_l11Pole q = false) (xy : Pn)
    (ex : xy.x = S_MulI (cR p (S_LatOf q)) (S_SinI (S_MulI (S_l19Cone p) (S_l17Lon p q)))) (ey : xy.y = S_SubI (cR p (S_RadiansOf p.lat0)) (S_MulI (cR p (S_LatOf q)) (S_CosI (S_MulI (S_l19Cone p) (S_l17Lon p q))))) :
    ((S_ConicInverse p xy).2.2.val = 9 ∨ ((S_ConicInverse p xy).2.2.val = 0 ∧ S_AtPoint (S_ConicInverse p xy).1 (S_ConicInverse p xy).2.1 q = true)) ∧
    S_OverlapI (S_AddI (S_SqrI xy.x) (S_SqrI (S_SubI (cR p (S_RadiansOf p.lat0)) xy.y))) (S_SqrI (cR p (S_LatOf q))) = true:=by
  obtain ⟨k3,hp,l1,l2,m⟩:=Conic_ok h
  obtain ⟨n,g,TN,TG,nf,H⟩:=Core_of h
  obtain ⟨np,nn,_⟩:=mean_ne h nf
  obtain ⟨_,_,n1,n2⟩:=nf
  obtain ⟨o,TO⟩:=O_tr h
  obtain ⟨b1,b2,b3,b4⟩:=Lat_bound hq
  obtain ⟨v1,v2,_,_⟩:=Valid_bound hp
  obtain ⟨x1,x2⟩:=rad_hp b1 b2
  obtain ⟨r,r0,_,_,HR⟩:=H _ x1 x2 fun k=>not_pole hq (pole k)
  obtain ⟨HF,HB⟩:=HR _ _ TN TG
  have TR : Tr (cR p (S_LatOf q)) r:=HF _ (tLatOf hq)
  have wd : (w64 (q.lon.val - p.lon0.val)).val = q.lon.val - p.lon0.val:=by rw [w64_val]; omega
  obtain ⟨j,j1,j2,ej⟩:=Wrap_turn (w64 (q.lon.val - p.lon0.val)) (by omega)
  have wb:=wrap_in64 (w64 (q.lon.val - p.lon0.val))
  rw [wd] at ej
  have TL : Tr (S_l17Lon p q) (rad (S_l11Wrap (w64 (q.lon.val - p.lon0.val))).val):=by
    unfold S_l17Lon
    simp only [bindP_e]
    exact tRadS _
  generalize S_l11Wrap (w64 (q.lon.val - p.lon0.val)) = w at *
  obtain ⟨w1,w2⟩:=wrap_range w wb
  obtain ⟨t1,t2⟩:=turn_range n1 n2 w1 w2
  have TT:=tMulS TN TL
  have X : Tr xy.x (r * Rl.sn (n * rad w.val)):=by rw [ex]; exact tMulS TR (tSinS TT)
  have Y0 : Tr xy.y (o - r * Rl.cn (n * rad w.val)):=by rw [ey]; exact tSubS TO (tMulS TR (tCosS TT))
  have Y : Tr (S_SubI (cR p (S_RadiansOf p.lat0)) xy.y) (r * Rl.cn (n * rad w.val)):=by
    have:=tSubS TO Y0
    rwa [Rl.sub_sub_self] at this
  have S:=tAddS (tSqrS X) (tSqrS Y)
  rw [sq_polar] at S
  refine ⟨?_,OverlapI_tr S (tSqrS TR)⟩
  have fin : ∀ lat lon,Tr lat (rad q.lat.val) → Tr lon (rad w.val) → ((S_l17Back p lat lon).2.2.val = 9 ∨ ((S_l17Back p lat lon).2.2.val = 0 ∧ S_AtPoint (S_l17Back p lat lon).1 (S_l17Back p lat lon).2.1 q = true)):=fun lat lon h1 h2=>by
    rcases Back_ok (p:=p) h1 x1 x2 h2 (Rl.le_of_lt w1) w2 with e | e
    · rw [e]
      refine .inr ⟨c64_v _ _,tAtPoint hq j (by omega) h1 (.inr (.inr ?_))⟩
      have A:=tAddS h2 (tRadS p.lon0)
      rwa [← rad_add,show w.val + p.lon0.val = q.lon.val + 3600000000 * j from by omega] at A
    · exact .inl e
  have lats : ∀ W lon,Tr W r → Tr lon (rad w.val) → ∀ z : Iv × Iv × I64,
      z = (bif (p.kind.val == 10) then (bif S_l04Ok (S_DivI (S_SubI (S_l19Constant p (S_l19Cone p)) (S_SqrI (S_MulI W (S_l19Cone p)))) (S_MulI (S_Integer (c64 2)) (S_l19Cone p))) then (bif !S_OverlapI (S_DivI (S_SubI (S_l19Constant p (S_l19Cone p)) (S_SqrI (S_MulI W (S_l19Cone p)))) (S_MulI (S_Integer (c64 2)) (S_l19Cone p))) S_l06Ring then ((⟨c64 0,c64 0⟩ : Iv),(⟨c64 0,c64 0⟩ : Iv),c64 8) else
          S_l17Back p (S_AsinI (S_DivI (S_SubI (S_l19Constant p (S_l19Cone p)) (S_SqrI (S_MulI W (S_l19Cone p)))) (S_MulI (S_Integer (c64 2)) (S_l19Cone p)))) lon) else S_l17Back p (S_AsinI (S_DivI (S_SubI (S_l19Constant p (S_l19Cone p)) (S_SqrI (S_MulI W (S_l19Cone p)))) (S_MulI (S_Integer (c64 2)) (S_l19Cone p)))) lon)
        else (bif (p.kind.val == 11) then S_l17Back p (S_AtanI (S_SinhI (S_DivI (S_LogI (S_DivI (S_l19Constant p (S_l19Cone p)) W)) (S_l19Cone p)))) lon else S_l17Back p (S_SubI (S_l19Constant p (S_l19Cone p)) W) lon)) →
      (z.2.2.val = 9 ∨ (z.2.2.val = 0 ∧ S_AtPoint z.1 z.2.1 q = true)):=fun W lon hW hlon z hz=>by
    obtain ⟨HA,HL,HE⟩:=HB W hW
    rw [hz]
    rcases k3 with k | k | k
    · have d : (p.kind.val == 10) = true:=by rw [k]; decide
      rw [d,cond_t,OverlapI_tr (HA k) (tRing (Rl.sn_le _)),Bool.not_true,cond_f,cond_same]
      exact fin _ _ (tAsinS (HA k) x1 x2) hlon
    · have d : (p.kind.val == 10) = false:=by rw [k]; decide
      have d1 : (p.kind.val == 11) = true:=by rw [k]; decide
      rw [d,cond_f,d1,cond_t]
      exact fin _ _ (HL k) hlon
    · have d : (p.kind.val == 10) = false:=by rw [k]; decide
      have d1 : (p.kind.val == 11) = false:=by rw [k]; decide
      rw [d,cond_f,d1,cond_f]
      exact fin _ _ (HE k) hlon
  have em : (w64 (p.lat1.val + p.lat2.val)).val = p.lat1.val + p.lat2.val:=by rw [w64_val]; omega
  have lon_of : rad w.val * n = n * rad w.val:=Rl.mul_comm _ _
  unfold S_ConicInverse
  simp only [bindP_e,h,Bool.not_true,cond_f,em]
  change Tr (S_SubI (S_l19Radius p.kind (S_l19Cone p) (S_l19Constant p (S_l19Cone p)) (S_RadiansOf p.lat0)) xy.y) _ at Y
  change Tr (S_AddI (S_SqrI xy.x) (S_SqrI (S_SubI (S_l19Radius p.kind (S_l19Cone p) (S_l19Constant p (S_l19Cone p)) (S_RadiansOf p.lat0)) xy.y))) _ at S
  generalize S_SubI (S_l19Radius p.kind (S_l19Cone p) (S_l19Constant p (S_l19Cone p)) (S_RadiansOf p.lat0)) xy.y = y at *
  by_cases hm : p.lat1.val + p.lat2.val < 0
  · rw [decide_eq_true hm,cond_t]
    have nneg:=nn hm
    have r1 : Rl.q 0 ≤ -r:=nn_of_mul (y:=-n) (x:=n * r) (by rw [Rl.mul_neg,Rl.neg_mul,Rl.neg_neg,Rl.mul_comm]) (Rl.neg_pos nneg) r0
    have W:=tNegS (tSqrtS S r1 (by rw [Rl.mul_neg,Rl.neg_mul,Rl.neg_neg]))
    rw [Rl.neg_neg] at W
    have D:=tDirPolar (r:=-r) (t:=n * rad w.val) (by rw [Rl.neg_mul]; exact tNegS X) (by rw [Rl.neg_mul]; exact tNegS Y) r1 t1 t2
    exact lats _ _ W (tDivS D TN lon_of) _ rfl
  · rw [decide_eq_false hm,cond_f]
    have npos:=np (by omega)
    have r1 : Rl.q 0 ≤ r:=nn_of_mul (y:=n) (x:=n * r) (Rl.mul_comm _ _) npos r0
    have W:=tSqrtS S r1 rfl
    have D:=tDirPolar (r:=r) (t:=n * rad w.val) X Y r1 t1 t2
    exact lats _ _ W (tDivS D TN lon_of) _ rfl
theorem pure_FnConics (code : Cd) : L_FnConics code = true:=by
  unfold L_FnConics
  rw [bindP_e]
  cases L_a2Long code Cd.nil with
  | true=>rfl
  | false=>
    rw [cond_f,bindP_e]
    obtain ⟨hv,hq,hk⟩:=A2_ok code (c64 10) (c64 12) (by decide)
    simp only [c64_v] at hk
    generalize S_A2Projection code (c64 10) (c64 12) = pq at *
    obtain ⟨p,q⟩:=pq
    change p.kind.val = 1 ∨ (10 ≤ p.kind.val ∧ p.kind.val ≤ 12) at hk
    change S_ValidProjection p = true at hv
    change S_l11Ok q = true at hq
    cases h1 : (p.kind.val == 1) with
    | true=>simp only [h1,cond_t]
    | false=>
      have k1 : ¬ p.kind.val = 1:=by simpa using h1
      have h19 : S_l19Ok p = true:=by
        unfold S_l19Ok
        unfold S_ValidProjection at hv
        simp only [bindP_e] at hv ⊢
        rw [sp_in,c64_v,c64_v,decide_eq_true (show 10 ≤ p.kind.val by omega),decide_eq_true (show p.kind.val ≤ 12 by omega)]
        exact hv
      simp only [bindP_e,eq_StandardScales,eq_ConicForward,eq_ConicInverse,eq_ConicRadius,h1,cond_f]
      rcases Conic_std h19 with s | ⟨s0,s1,s2⟩
      · have c0 : ((S_StandardScales p).2.2.val != 0) = true:=by rw [s]; decide
        rw [c0,cond_t,s]; rfl
      · have c0 : ((S_StandardScales p).2.2.val != 0) = false:=by rw [s0]; decide
        rw [c0,cond_f,s1,s2]
        simp only [Bool.not_true,cond_f]
        rcases ConicF_ok h19 hq with f | f | ⟨f0,f1,f2,f3,f4⟩
        · have c1 : ((S_ConicForward p q).2.val != 0) = true:=by rw [f]; decide
          rw [c1,cond_t,f]; rfl
        · have c1 : ((S_ConicForward p q).2.val != 0) = true:=by rw [f]; decide
          rw [c1,cond_t,f]; rfl
        · have c1 : ((S_ConicForward p q).2.val != 0) = false:=by rw [f0]; decide
          rw [c1,cond_f]
          generalize S_ConicForward p q = xy at *
          obtain ⟨xy,cc⟩:=xy
          simp only [] at f2 ⊢
          obtain ⟨P1,P2⟩:=Conic_point h19 hq f1 xy (by rw [f2]) (by rw [f2])
          have oR : S_l04Ok (cR p (S_LatOf q)) = true:=(MulI_out f3).1
          have oO : S_l04Ok (cR p (S_RadiansOf p.lat0)) = true:=(SubI_out f4).1
          have R1 : S_ConicRadius p (S_LatOf q) = (cR p (S_LatOf q),c64 0):=by
            unfold S_ConicRadius S_l19Known
            unfold cR at oR ⊢
            simp only [bindP_e,h19,oR,Bool.not_true,cond_f]
          have R2 : S_ConicRadius p (S_RadiansOf p.lat0) = (cR p (S_RadiansOf p.lat0),c64 0):=by
            unfold S_ConicRadius S_l19Known
            unfold cR at oO ⊢
            simp only [bindP_e,h19,oO,Bool.not_true,cond_f]
          have z : ((c64 0).val != 0) = false:=by decide
          simp only [R1,R2,z,cond_f,P2]
          rcases P1 with i | ⟨i0,i1⟩
          · rw [i]; rfl
          · rw [i0,i1]; rfl
end Go.Proofs.YtbipmdgocmdgdaaGreat.Abs
