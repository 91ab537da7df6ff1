/- Plain laws of the functions on numbers: what the program computes is what the reference computes. -/
import Derived.Test.YtfhnlkinjbakgaaGreatMsReal
import Derived.Test.YtfhnlkinjbakgaaGreatMsQzdzezfzg
import Derived.Test.YtfhnlkinjbakgaaGreatMsF4
set_option linter.unusedVariables false
set_option linter.unusedSimpArgs false
namespace Go.Proofs.YtfhnlkinjbakgaaGreat.Abs
open Go
theorem q_one_mul (r : Rat) (n : I64) (h : r * (n.val : Rat) = 1) : Rl.q r * Rl.q n.val = Rl.q (c64 1).val:=by
  rw [← Rl.q_mul,h,c64_v]
  congr 1
theorem tFrac (n : I64) (r : Rat) (h0 : 0 < n.val) (h : r * (n.val : Rat) = 1) : Tr (S_Quotient (c64 1) n) (Rl.q r):=
  tQuotS (by decide) h0 (q_one_mul r n h)
theorem tArcSeriesS {a : Iv} {x t : Rl.R} (ha : Tr a x) (h1 : -Rl.hp < t) (h2 : t < Rl.hp) (e : Rl.sn t = x * Rl.cn t) : Tr (S_ArcSeries a) t:=by
  unfold S_ArcSeries S_Whole
  simp only [bindP_e]
  cases hi : S_InsideI a (⟨c64 (-1073741824),c64 1073741824⟩ : Iv) with
  | false=>simp only [Bool.not_false,cond_t]; exact tWhole _
  | true=>
    simp only [Bool.not_true,cond_f]
    have hb : S_l04Ok a = true ∧ -1073741824 ≤ a.lo.val ∧ a.hi.val ≤ 1073741824:=by
      unfold S_InsideI at hi
      have o : S_l04Ok (⟨c64 (-1073741824),c64 1073741824⟩ : Iv) = true:=by decide
      simp only [bindP_e,o,Bool.not_true,cond_f] at hi
      cases hk : S_l04Ok a with
      | false=>rw [hk] at hi; cases hi
      | true=>
        rw [hk] at hi
        simp only [cond_t,c64_v] at hi
        by_cases c : -1073741824 ≤ a.lo.val
        · rw [decide_eq_true c] at hi
          simp only [cond_t,decide_eq_true_eq] at hi
          exact ⟨rfl,c,hi⟩
        · rw [decide_eq_false c] at hi; cases hi
    obtain ⟨h3,h4,h5⟩:=hb
    have A:=ha h3
    have hx : Rl.Ab x (Rl.q (1/4)):=by
      have k1:=Rl.le_trans (Rl.fx_le.2 h4) A.1
      have k2:=Rl.le_trans A.2 (Rl.fx_le.2 h5)
      rw [show Rl.fx (-1073741824) = -Rl.q (1/4) from by rw [← Rl.q_neg,Rl.fx_q]; congr 1; decide +kernel] at k1
      rw [show Rl.fx 1073741824 = Rl.q (1/4) from by rw [Rl.fx_q]; congr 1; decide +kernel] at k2
      exact ⟨k1,k2⟩
    have hy:=tSqrS ha
    have S:=tMulS ha (tSubS (tFrac (c64 1) 1 (by decide) (by decide +kernel)) (tMulS hy (tSubS (tFrac (c64 3) (1/3) (by decide) (by decide +kernel)) (tMulS hy (tSubS (tFrac (c64 5) (1/5) (by decide) (by decide +kernel)) (tMulS hy (tSubS (tFrac (c64 7) (1/7) (by decide) (by decide +kernel)) (tMulS hy (tSubS (tFrac (c64 9) (1/9) (by decide) (by decide +kernel)) (tMulS hy (tSubS (tFrac (c64 11) (1/11) (by decide) (by decide +kernel)) (tMulS hy (tSubS (tFrac (c64 13) (1/13) (by decide) (by decide +kernel)) (tMulS hy (tSubS (tFrac (c64 15) (1/15) (by decide) (by decide +kernel)) (tMulS hy (tSubS (tFrac (c64 17) (1/17) (by decide) (by decide +kernel)) (tMulS hy (tSubS (tFrac (c64 19) (1/19) (by decide) (by decide +kernel)) (tMulS hy (tFrac (c64 21) (1/21) (by decide) (by decide +kernel))))))))))))))))))))))
    have S2:=tAddS S (tTiny (d:=t - Rl.pol Rl.aC x) (by
      have:=(Rl.atan_series h1 h2 e hx).neg
      rwa [Rl.neg_sub] at this))
    have e2:=Rl.hat_pol x
    change x * (Rl.q 1 - x * x * (Rl.q (1/3) - x * x * (Rl.q (1/5) - x * x * (Rl.q (1/7) - x * x * (Rl.q (1/9) - x * x * (Rl.q (1/11) - x * x * (Rl.q (1/13) - x * x * (Rl.q (1/15) - x * x * (Rl.q (1/17) - x * x * (Rl.q (1/19) - x * x * Rl.q (1/21))))))))))) = _ at e2
    rw [e2,add_sub_self] at S2
    exact S2
theorem tHalveS {a : Iv} {x s z : Rl.R} (ha : Tr a x) (hs : Rl.q 0 ≤ s) (es : s * s = Rl.q 1 + x * x) (ez : z * (Rl.q 1 + s) = x) : Tr (S_l07Halve a) z:=by
  unfold S_l07Halve
  simp only [bindP_e]
  exact tDivS ha (tAddS tOneS (tSqrtS (tAddS tOneS (tSqrS ha)) hs es)) ez
theorem tCoreS {a : Iv} {x t : Rl.R} (ha : Tr a x) (h1 : -Rl.hp < t) (h2 : t < Rl.hp) (e : Rl.sn t = x * Rl.cn t) : Tr (S_l07Core a) t:=by
  unfold S_l07Core
  simp only [bindP_e]
  obtain ⟨s,z,s0,es,ez⟩:=Rl.root_z x
  obtain ⟨b1,b2⟩:=Rl.half_lt_hp h1 h2
  have e2:=Rl.tan_half h1 h2 e s0 es ez
  have Z:=tHalveS ha s0 es ez
  obtain ⟨s',z',s0',es',ez'⟩:=Rl.root_z z
  obtain ⟨c1,c2⟩:=Rl.half_lt_hp b1 b2
  have e3:=Rl.tan_half b1 b2 e2 s0' es' ez'
  have Z':=tHalveS Z s0' es' ez'
  have D:=tDoubleS (tDoubleS (tArcSeriesS Z' c1 c2 e3))
  rwa [Rl.half_two,Rl.half_two] at D
theorem Quarter_tr {t : Rl.R} (h1 : -Rl.hp ≤ t) (h2 : t ≤ Rl.hp) : Tr S_l07Quarter t:=by
  intro _
  have p1 : (Rl.hp ≤ Rl.fx (S_l05Turn (c64 1)).hi.val):=by
    obtain ⟨z,e1,e2,e3,_⟩:=Turn_in (c64 1) (by decide)
    have e4 : S_TurnI (c64 1) = S_l05Turn (c64 1):=by
      unfold S_TurnI
      have : S_l00In (c64 1) (c64 (-4096)) (c64 4096) = true:=by decide
      simp only [bindP_e,this,Bool.not_true,cond_f]
    rw [← e4,e1]
    have:=e3.2
    rwa [c64_v,Rl.kh_one] at this
  have e : S_l07Quarter = ⟨w64 (0 - (S_l05Turn (c64 1)).hi.val),(S_l05Turn (c64 1)).hi⟩:=by
    unfold S_l07Quarter
    simp only [bindP_e]
  rw [e]
  have v:=Turn1_hi
  constructor
  · show Rl.fx (w64 (0 - (S_l05Turn (c64 1)).hi.val)).val ≤ t
    rw [show (w64 (0 - (S_l05Turn (c64 1)).hi.val)).val = -(S_l05Turn (c64 1)).hi.val from by rw [w64_val,v]; decide,Rl.fx_neg]
    exact Rl.le_trans (Rl.neg_le_neg p1) h1
  · exact Rl.le_trans h2 p1
theorem tAtanPos {n : I64} (hn : 0 ≤ n.val) (fu : Nat) {t : Rl.R} (h1 : -Rl.hp < t) (h2 : t < Rl.hp) (e : Rl.sn t = Rl.fx n.val * Rl.cn t) : Tr (S_AtanAt_r (fu + 1) n) t:=by
  unfold S_AtanAt_r S_AtanAt_b
  simp only [bindP_e]
  cases hf : S_l07Fix n with
  | false=>simp only [Bool.not_false,cond_t]; exact Quarter_tr (Rl.le_of_lt h1) (Rl.le_of_lt h2)
  | true=>
    simp only [Bool.not_true,cond_f,decide_eq_false (show ¬ n.val < 0 by omega)]
    by_cases hg : n.val > 4294967296
    · simp only [decide_eq_true hg,cond_t]
      have np : Rl.q 0 < Rl.fx n.val:=Rl.fx_pos (by omega)
      have tp:=Rl.tan_pos h1 h2 e np
      obtain ⟨i,hi,i0⟩:=Rl.inv_ex np
      have D : Tr (S_DivI (S_Integer (c64 1)) (S_l05At n)) i:=tDivS tOneS (tAtS n) (by rw [Rl.mul_comm]; exact hi)
      have k1 : -Rl.hp < Rl.hp - t:=by
        refine Rl.lt_trans Rl.neg_hp_lt ?_
        intro k
        refine h2 ?_
        have:=Rl.add_le_add k (Rl.le_refl t)
        rwa [Rl.sub_add_cancel,Rl.zero_add] at this
      have k2 : Rl.hp - t < Rl.hp:=by
        intro k
        refine tp ?_
        have:=Rl.sub_le_sub (Rl.le_refl Rl.hp) k
        rwa [Rl.sub_self,show Rl.hp - (Rl.hp - t) = t from Rl.sub_sub_self _ _] at this
      have e3 : Rl.sn (Rl.hp - t) = i * Rl.cn (Rl.hp - t):=by
        rw [Rl.sn_hp_sub,Rl.cn_hp_sub,e,← Rl.mul_assoc,Rl.mul_comm i,hi,Rl.one_mul]
      have C:=tSubS (tTurnS (c64 1)) (tCoreS D k1 k2 e3)
      rwa [c64_v,Rl.kh_one,Rl.sub_sub_self] at C
    · simp only [decide_eq_false hg,cond_f]
      exact tCoreS (tAtS n) h1 h2 e
theorem neg_lt_hp {t : Rl.R} (h1 : -Rl.hp < t) (h2 : t < Rl.hp) : -Rl.hp < -t ∧ -t < Rl.hp:=⟨Rl.neg_lt h2,by have:=Rl.neg_lt h1; rwa [Rl.neg_neg] at this⟩
theorem tAtanAtS {n : I64} {t : Rl.R} (h1 : -Rl.hp < t) (h2 : t < Rl.hp) (e : Rl.sn t = Rl.fx n.val * Rl.cn t) : Tr (S_AtanAt n) t:=by
  unfold S_AtanAt
  by_cases hn : 0 ≤ n.val
  · exact tAtanPos hn 1 h1 h2 e
  · unfold S_AtanAt_r S_AtanAt_b
    simp only [bindP_e]
    cases hf : S_l07Fix n with
    | false=>simp only [Bool.not_false,cond_t]; exact Quarter_tr (Rl.le_of_lt h1) (Rl.le_of_lt h2)
    | true=>
      obtain ⟨o1,o2⟩:=open_val hf
      simp only [Bool.not_true,cond_f,decide_eq_true (show n.val < 0 by omega),cond_t]
      have w : (w64 (0 - n.val)).val = -n.val:=by rw [w64_val]; omega
      obtain ⟨k1,k2⟩:=neg_lt_hp h1 h2
      have P:=tNegS (tAtanPos (n:=w64 (0 - n.val)) (by omega) 0 k1 k2 (by rw [Rl.sn_neg,Rl.cn_neg,w,Rl.fx_neg,e,Rl.neg_mul]))
      rwa [Rl.neg_neg] at P
theorem tAtanS {a : Iv} {x t : Rl.R} (ha : Tr a x) (h1 : -Rl.hp < t) (h2 : t < Rl.hp) (e : Rl.sn t = x * Rl.cn t) : Tr (S_AtanI a) t:=by
  unfold S_AtanI S_IsWhole
  simp only [bindP_e]
  cases ho : S_l04Ok a with
  | false=>simp only [Bool.not_false,cond_t]; exact Quarter_tr (Rl.le_of_lt h1) (Rl.le_of_lt h2)
  | true=>
    simp only [Bool.not_true,cond_f]
    have A:=ha ho
    obtain ⟨u,u1,u2,ue⟩:=Rl.tan_ex (Rl.fx a.lo.val)
    obtain ⟨v,v1,v2,ve⟩:=Rl.tan_ex (Rl.fx a.hi.val)
    exact tHullL (tAtanAtS u1 u2 ue) (tAtanAtS v1 v2 ve) (.inl (Rl.tan_mono u1 u2 ue h1 h2 e A.1)) (.inr (Rl.tan_mono h1 h2 e v1 v2 ve A.2))
theorem tPiS : Tr S_PiI Rl.pi:=by
  have e4 : S_TurnI (c64 2) = S_PiI:=by
    unfold S_TurnI S_PiI
    have : S_l00In (c64 2) (c64 (-4096)) (c64 4096) = true:=by decide
    simp only [bindP_e,this,Bool.not_true,cond_f]
  have:=tTurnS (c64 2)
  rw [c64_v,e4,← Rl.pi_kh] at this
  exact this
theorem tInt (n : I64) (k : Rat) (h : (n.val : Rat) = k) : Tr (S_Integer n) (Rl.q k):=by
  have:=tIntegerS n
  rwa [h] at this
theorem tTwoS : Tr (S_Integer (c64 2)) (Rl.q 2):=tInt _ 2 (by rw [c64_v]; decide)
theorem Lat_bound {p : Pt} (h : S_l11Ok p = true) : -900000000 ≤ p.lat.val ∧ p.lat.val ≤ 900000000 ∧ -1800000000 < p.lon.val ∧ p.lon.val ≤ 1800000000:=by
  unfold S_l11Ok at h
  simp only [bindP_e,sp_in,c64_v] at h
  by_cases c : -900000000 ≤ p.lat.val ∧ p.lat.val ≤ 900000000
  · rw [decide_eq_true c.1,decide_eq_true c.2] at h
    simp only [Bool.and_self,cond_t,Bool.and_eq_true,decide_eq_true_eq] at h
    omega
  · exfalso
    have : (decide (-900000000 ≤ p.lat.val) && decide (p.lat.val ≤ 900000000)) = false:=by
      simp only [Bool.and_eq_false_iff,decide_eq_false_iff_not]
      omega
    rw [this,cond_f] at h
    cases h
theorem tLatOf {p : Pt} (h : S_l11Ok p = true) : Tr (S_LatOf p) (rad p.lat.val):=by
  unfold S_LatOf
  simp only [bindP_e,h,Bool.not_true,cond_f]
  exact tRadS _
theorem rad_hp {u : Int} (h1 : -900000000 ≤ u) (h2 : u ≤ 900000000) : -Rl.hp ≤ rad u ∧ rad u ≤ Rl.hp:=by
  have e : rad 900000000 = Rl.hp:=by rw [← Rl.kh_one,← rad_kh]; rfl
  have e2 : rad (-900000000) = -Rl.hp:=by rw [rad_neg,e]
  exact ⟨by rw [← e2]; exact rad_mono h1,by rw [← e]; exact rad_mono h2⟩
theorem cond_or (a b : Bool) : (bif a then true else b) = (a || b):=by cases a <;> rfl
theorem tAtPoint {lat lon : Iv} {p : Pt} (h : S_l11Ok p = true) (k : Int) (hk : -9 ≤ k ∧ k ≤ 9) (h1 : Tr lat (rad p.lat.val)) (h2 : p.lat.val = 900000000 ∨ p.lat.val = -900000000 ∨ Tr lon (rad (p.lon.val + 3600000000 * k))) : S_AtPoint lat lon p = true:=by
  obtain ⟨b1,b2,b3,b4⟩:=Lat_bound h
  unfold S_AtPoint
  simp only [bindP_e,h,Bool.not_true,cond_f,OverlapI_tr h1 (tLatOf h)]
  by_cases hp : p.lat.val = 900000000 ∨ p.lat.val = -900000000
  · have : S_l11Pole p = true:=by
      unfold S_l11Pole
      rw [cond_or,Bool.or_eq_true,beq_iff_eq,beq_iff_eq]
      exact hp
    rw [this,cond_t]
  · have h3 : Tr lon (rad (p.lon.val + 3600000000 * k)):=by
      rcases h2 with h2 | h2 | h2
      · exact absurd (.inl h2) hp
      · exact absurd (.inr h2) hp
      · exact h2
    have w : (w64 (p.lon.val + 3600000000 * k)).val = p.lon.val + 3600000000 * k:=by rw [w64_val]; omega
    have ov : S_OverlapI lon (S_RadiansOf (w64 (p.lon.val + 3600000000 * k))) = true:=by
      have:=tRadS (w64 (p.lon.val + 3600000000 * k))
      rw [w] at this
      exact OverlapI_tr h3 this
    simp only [cond_or,Bool.or_eq_true]
    right
    have hd : k = -9 ∨ k = -8 ∨ k = -7 ∨ k = -6 ∨ k = -5 ∨ k = -4 ∨ k = -3 ∨ k = -2 ∨ k = -1 ∨ k = 0 ∨ k = 1 ∨ k = 2 ∨ k = 3 ∨ k = 4 ∨ k = 5 ∨ k = 6 ∨ k = 7 ∨ k = 8 ∨ k = 9:=by omega
    rcases hd with rfl | rfl | rfl | rfl | rfl | rfl | rfl | rfl | rfl | rfl | rfl | rfl | rfl | rfl | rfl | rfl | rfl | rfl | rfl
    · exact .inl ov
    · exact .inr (.inl ov)
    · exact .inr (.inr (.inl ov))
    · exact .inr (.inr (.inr (.inl ov)))
    · exact .inr (.inr (.inr (.inr (.inl ov))))
    · exact .inr (.inr (.inr (.inr (.inr (.inl ov)))))
    · exact .inr (.inr (.inr (.inr (.inr (.inr (.inl ov))))))
    · exact .inr (.inr (.inr (.inr (.inr (.inr (.inr (.inl ov)))))))
    · exact .inr (.inr (.inr (.inr (.inr (.inr (.inr (.inr (.inl ov))))))))
    · exact .inr (.inr (.inr (.inr (.inr (.inr (.inr (.inr (.inr (.inl ov)))))))))
    · exact .inr (.inr (.inr (.inr (.inr (.inr (.inr (.inr (.inr (.inr (.inl ov))))))))))
    · exact .inr (.inr (.inr (.inr (.inr (.inr (.inr (.inr (.inr (.inr (.inr (.inl ov)))))))))))
    · exact .inr (.inr (.inr (.inr (.inr (.inr (.inr (.inr (.inr (.inr (.inr (.inr (.inl ov))))))))))))
    · exact .inr (.inr (.inr (.inr (.inr (.inr (.inr (.inr (.inr (.inr (.inr (.inr (.inr (.inl ov)))))))))))))
    · exact .inr (.inr (.inr (.inr (.inr (.inr (.inr (.inr (.inr (.inr (.inr (.inr (.inr (.inr (.inl ov))))))))))))))
    · exact .inr (.inr (.inr (.inr (.inr (.inr (.inr (.inr (.inr (.inr (.inr (.inr (.inr (.inr (.inr (.inl ov)))))))))))))))
    · exact .inr (.inr (.inr (.inr (.inr (.inr (.inr (.inr (.inr (.inr (.inr (.inr (.inr (.inr (.inr (.inr (.inl ov))))))))))))))))
    · exact .inr (.inr (.inr (.inr (.inr (.inr (.inr (.inr (.inr (.inr (.inr (.inr (.inr (.inr (.inr (.inr (.inr (.inl ov)))))))))))))))))
    · exact .inr (.inr (.inr (.inr (.inr (.inr (.inr (.inr (.inr (.inr (.inr (.inr (.inr (.inr (.inr (.inr (.inr (.inr (.inl ov))))))))))))))))))
def Gd (z : Iv) : Prop:=S_l04Ok z = true ∨ z = S_l04Whole
theorem Gd.whole : Gd S_l04Whole:=.inr rfl
theorem Gd.cond (b : Bool) {x y : Iv} (hx : Gd x) (hy : Gd y) : Gd (bif b then x else y):=by cases b <;> assumption
theorem Gd.make (a b : I64) : Gd (S_l04Make a b):=by
  by_cases c : -1152921504606846976 < a.val ∧ a.val ≤ b.val ∧ b.val < 1152921504606846976
  · rw [Make_ok c]; exact .inl (Ok4_of c)
  · exact .inr (Make_bad c)
theorem hp_end : Rl.hp ≤ Rl.fx 6746518853:=by
  obtain ⟨z,e1,e2,e3,_⟩:=Turn_in (c64 1) (by decide)
  have e4 : S_TurnI (c64 1) = S_l05Turn (c64 1):=by
    unfold S_TurnI
    have : S_l00In (c64 1) (c64 (-4096)) (c64 4096) = true:=by decide
    simp only [bindP_e,this,Bool.not_true,cond_f]
  have:=e3.2
  rwa [c64_v,Rl.kh_one,← e1,e4,Turn1_hi] at this
end Go.Proofs.YtfhnlkinjbakgaaGreat.Abs
