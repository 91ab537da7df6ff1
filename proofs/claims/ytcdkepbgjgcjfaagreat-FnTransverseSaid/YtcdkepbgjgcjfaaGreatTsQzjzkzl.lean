/- Plain laws of the functions on numbers: what the program computes is what the reference computes. -/
import Derived.Test.YtcdkepbgjgcjfaaGreatTsReal
import Derived.Test.YtcdkepbgjgcjfaaGreatTsQzgzhzi
import Derived.Test.YtcdkepbgjgcjfaaGreatTsFx
set_option linter.unusedVariables false
set_option linter.unusedSimpArgs false
namespace Go.Proofs.YtcdkepbgjgcjfaaGreat.Abs
open Go
theorem LessI_no {a b : Iv} {x y : Rl.R} (ha : Tr a x) (hb : Tr b y) (h : y ≤ x) : ((S_LessI a b).val == 1) = false:=by
  unfold S_LessI
  simp only [bindP_e]
  cases h1 : S_l04Ok a with
  | false=>simp only [Bool.not_false,cond_t,c64_v]; decide
  | true=>
    cases h2 : S_l04Ok b with
    | false=>simp only [Bool.not_false,Bool.not_true,cond_t,cond_f,c64_v]; decide
    | true=>
      simp only [Bool.not_true,cond_f]
      have k:=Rl.fx_le.1 (Rl.le_trans (hb h2).1 (Rl.le_trans h (ha h1).2))
      rw [decide_eq_false (show ¬ a.hi.val < b.lo.val by omega),cond_f]
      cases decide (a.lo.val ≥ b.hi.val) <;> simp only [cond_t,cond_f,c64_v] <;> decide
theorem tInt (n : I64) (k : Rat) (h : (n.val : Rat) = k) : Tr (S_Integer n) (Rl.q k):=by
  have:=tIntegerS n
  rwa [h] at this
theorem tTwoS : Tr (S_Integer (c64 2)) (Rl.q 2):=tInt _ 2 (by rw [c64_v]; decide)
theorem Lat_bound {p : Pt} (h : S_l11Ok p = true) : -900000000 ≤ p.lat.val ∧ p.lat.val ≤ 900000000 ∧ -1800000000 < p.lon.val ∧ p.lon.val ≤ 1800000000:=by
  unfold S_l11Ok at h
  simp only [bindP_e,sp_in,c64_v] at h
  by_cases c : -900000000 ≤ p.lat.val ∧ p.lat.val ≤ 900000000
  · rw [decide_eq_true c.1,decide_eq_true c.2] at h
    simp only [Bool.and_self,cond_t,Bool.and_eq_true,decide_eq_true_eq] at h
    omega
  · exfalso
    have : (decide (-900000000 ≤ p.lat.val) && decide (p.lat.val ≤ 900000000)) = false:=by
      simp only [Bool.and_eq_false_iff,decide_eq_false_iff_not]
      omega
    rw [this,cond_f] at h
    cases h
theorem tLatOf {p : Pt} (h : S_l11Ok p = true) : Tr (S_LatOf p) (rad p.lat.val):=by
  unfold S_LatOf
  simp only [bindP_e,h,Bool.not_true,cond_f]
  exact tRadS _
theorem rad_hp {u : Int} (h1 : -900000000 ≤ u) (h2 : u ≤ 900000000) : -Rl.hp ≤ rad u ∧ rad u ≤ Rl.hp:=by
  have e : rad 900000000 = Rl.hp:=by rw [← Rl.kh_one,← rad_kh]; rfl
  have e2 : rad (-900000000) = -Rl.hp:=by rw [rad_neg,e]
  exact ⟨by rw [← e2]; exact rad_mono h1,by rw [← e]; exact rad_mono h2⟩
theorem cond_or (a b : Bool) : (bif a then true else b) = (a || b):=by cases a <;> rfl
theorem tAtPoint {lat lon : Iv} {p : Pt} (h : S_l11Ok p = true) (k : Int) (hk : -9 ≤ k ∧ k ≤ 9) (h1 : Tr lat (rad p.lat.val)) (h2 : p.lat.val = 900000000 ∨ p.lat.val = -900000000 ∨ Tr lon (rad (p.lon.val + 3600000000 * k))) : S_AtPoint lat lon p = true:=by
  obtain ⟨b1,b2,b3,b4⟩:=Lat_bound h
  unfold S_AtPoint
  simp only [bindP_e,h,Bool.not_true,cond_f,OverlapI_tr h1 (tLatOf h)]
  by_cases hp : p.lat.val = 900000000 ∨ p.lat.val = -900000000
  · have : S_l11Pole p = true:=by
      unfold S_l11Pole
      rw [cond_or,Bool.or_eq_true,beq_iff_eq,beq_iff_eq]
      exact hp
    rw [this,cond_t]
  · have h3 : Tr lon (rad (p.lon.val + 3600000000 * k)):=by
      rcases h2 with h2 | h2 | h2
      · exact absurd (.inl h2) hp
      · exact absurd (.inr h2) hp
      · exact h2
    have w : (w64 (p.lon.val + 3600000000 * k)).val = p.lon.val + 3600000000 * k:=by rw [w64_val]; omega
    have ov : S_OverlapI lon (S_RadiansOf (w64 (p.lon.val + 3600000000 * k))) = true:=by
      have:=tRadS (w64 (p.lon.val + 3600000000 * k))
      rw [w] at this
      exact OverlapI_tr h3 this
    simp only [cond_or,Bool.or_eq_true]
    right
    have hd : k = -9 ∨ k = -8 ∨ k = -7 ∨ k = -6 ∨ k = -5 ∨ k = -4 ∨ k = -3 ∨ k = -2 ∨ k = -1 ∨ k = 0 ∨ k = 1 ∨ k = 2 ∨ k = 3 ∨ k = 4 ∨ k = 5 ∨ k = 6 ∨ k = 7 ∨ k = 8 ∨ k = 9:=by omega
    rcases hd with rfl | rfl | rfl | rfl | rfl | rfl | rfl | rfl | rfl | rfl | rfl | rfl | rfl | rfl | rfl | rfl | rfl | rfl | rfl
    · exact .inl ov
    · exact .inr (.inl ov)
    · exact .inr (.inr (.inl ov))
    · exact .inr (.inr (.inr (.inl ov)))
    · exact .inr (.inr (.inr (.inr (.inl ov))))
    · exact .inr (.inr (.inr (.inr (.inr (.inl ov)))))
    · exact .inr (.inr (.inr (.inr (.inr (.inr (.inl ov))))))
    · exact .inr (.inr (.inr (.inr (.inr (.inr (.inr (.inl ov)))))))
    · exact .inr (.inr (.inr (.inr (.inr (.inr (.inr (.inr (.inl ov))))))))
    · exact .inr (.inr (.inr (.inr (.inr (.inr (.inr (.inr (.inr (.inl ov)))))))))
    · exact .inr (.inr (.inr (.inr (.inr (.inr (.inr (.inr (.inr (.inr (.inl ov))))))))))
    · exact .inr (.inr (.inr (.inr (.inr (.inr (.inr (.inr (.inr (.inr (.inr (.inl ov)))))))))))
    · exact .inr (.inr (.inr (.inr (.inr (.inr (.inr (.inr (.inr (.inr (.inr (.inr (.inl ov))))))))))))
    · exact .inr (.inr (.inr (.inr (.inr (.inr (.inr (.inr (.inr (.inr (.inr (.inr (.inr (.inl ov)))))))))))))
    · exact .inr (.inr (.inr (.inr (.inr (.inr (.inr (.inr (.inr (.inr (.inr (.inr (.inr (.inr (.inl ov))))))))))))))
    · exact .inr (.inr (.inr (.inr (.inr (.inr (.inr (.inr (.inr (.inr (.inr (.inr (.inr (.inr (.inr (.inl ov)))))))))))))))
    · exact .inr (.inr (.inr (.inr (.inr (.inr (.inr (.inr (.inr (.inr (.inr (.inr (.inr (.inr (.inr (.inr (.inl ov))))))))))))))))
    · exact .inr (.inr (.inr (.inr (.inr (.inr (.inr (.inr (.inr (.inr (.inr (.inr (.inr (.inr (.inr (.inr (.inr (.inl ov)))))))))))))))))
    · exact .inr (.inr (.inr (.inr (.inr (.inr (.inr (.inr (.inr (.inr (.inr (.inr (.inr (.inr (.inr (.inr (.inr (.inr (.inl ov))))))))))))))))))
theorem Wrap_turn (a : I64) (h : -3600000000 ≤ a.val ∧ a.val ≤ 3600000000) : ∃ k : Int,-1 ≤ k ∧ k ≤ 1 ∧ (S_l11Wrap a).val = a.val + 3600000000 * k:=by
  have b:=wrap_in64 a
  have m : (S_l11Wrap a).val % 3600000000 = a.val % 3600000000:=by
    unfold S_l11Wrap
    have hm : (imod a 3600000000).val = Int.tmod a.val 3600000000:=by rw [imod_val]
    have h1:=Int.tmod_add_mul_tdiv a.val 3600000000
    generalize (imod a 3600000000) = r at *
    rw [hm.symm] at h1
    have rb : -3600000000 < r.val ∧ r.val < 3600000000:=by
      rw [hm]
      exact ⟨by have:=Int.lt_tmod_of_pos a.val (by decide : (0 : Int) < 3600000000); omega,Int.tmod_lt_of_pos a.val (by decide)⟩
    generalize Int.tdiv a.val 3600000000 = t at *
    cases c1 : decide (r.val > 1800000000) with
    | true=>
      simp only [cond_t]
      cases c2 : decide ((w64 (r.val - 3600000000)).val ≤ -1800000000) with
      | true=>simp only [cond_t,w64_val]; omega
      | false=>simp only [cond_f,w64_val]; omega
    | false=>
      simp only [cond_f]
      cases c2 : decide (r.val ≤ -1800000000) with
      | true=>simp only [cond_t,w64_val]; omega
      | false=>simp only [cond_f]; omega
  generalize (S_l11Wrap a).val = w at *
  exact ⟨(w - a.val) / 3600000000,by omega,by omega,by omega⟩
theorem Asin_ok {a : Iv} (h : (S_MeetI a S_l06Ring).2 = true) : S_l04Ok (S_AsinI a) = true:=by
  have quarter:=Quarter_eq
  have meet : ∀ x y : Iv,S_l04Ok y = true → -4294967296000 ≤ y.lo.val → y.hi.val ≤ 4294967296000 → (S_MeetI x y).2 = true → S_l04Ok (S_MeetI x y).1 = true ∧ y.lo.val ≤ (S_MeetI x y).1.lo.val ∧ (S_MeetI x y).1.hi.val ≤ y.hi.val:=by
    intro x y o b1 b2 m1
    unfold S_MeetI at m1 ⊢
    simp only [bindP_e,o,Bool.not_true,cond_f] at m1 ⊢
    cases ho : S_l04Ok x with
    | false=>simp only [Bool.not_false,cond_t]; exact ⟨o,Int.le_refl _,Int.le_refl _⟩
    | true=>
      rw [ho] at m1
      simp only [Bool.not_true,cond_f] at m1 ⊢
      by_cases c : (S_l00Max x.lo y.lo).val > (S_l00Min x.hi y.hi).val
      · rw [decide_eq_true c,cond_t] at m1; cases m1
      · rw [decide_eq_false c,cond_f]
        have x1:=max_out x.lo y.lo
        have x2:=min_out x.hi y.hi
        have p:=Ok4p o
        simp only []
        generalize S_l00Max x.lo y.lo = p at *
        generalize S_l00Min x.hi y.hi = r at *
        refine ⟨Ok4_of ?_,by omega,by omega⟩
        show -1152921504606846976 < p.val ∧ p.val ≤ r.val ∧ r.val < 1152921504606846976
        omega
  have at_ok : ∀ n : I64,-4294967296 ≤ n.val → n.val ≤ 4294967296 → S_l04Ok (S_AsinAt n) = true ∧ -6746518853 ≤ (S_AsinAt n).lo.val ∧ (S_AsinAt n).hi.val ≤ 6746518853:=by
    intro n h1 h2
    unfold S_AsinAt
    have hi : S_l00In n (c64 (-4294967296)) (c64 4294967296) = true:=by
      rw [sp_in]
      simp only [Bool.and_eq_true,decide_eq_true_eq,c64_v]
      omega
    simp only [bindP_e,hi,Bool.not_true,cond_f]
    generalize S_DoubleI (S_AtanI (S_DivI (S_l05At n) (S_AddI (S_Integer (c64 1)) (S_CircleAt n)))) = z
    rw [quarter]
    cases hm : (S_MeetI z (⟨c64 (-6746518853),c64 6746518853⟩ : Iv)).2 with
    | true=>
      have:=meet z ⟨c64 (-6746518853),c64 6746518853⟩ (by decide) (by decide) (by decide) hm
      rw [c64_v,c64_v] at this
      exact this
    | false=>
      have : (S_MeetI z (⟨c64 (-6746518853),c64 6746518853⟩ : Iv)).1 = ⟨c64 0,c64 0⟩:=by
        unfold S_MeetI at hm ⊢
        have o : S_l04Ok (⟨c64 (-6746518853),c64 6746518853⟩ : Iv) = true:=by decide
        simp only [bindP_e,o,Bool.not_true,cond_f] at hm ⊢
        cases ho : S_l04Ok z with
        | false=>rw [ho] at hm; simp only [Bool.not_false,cond_t] at hm; cases hm
        | true=>
          rw [ho] at hm
          simp only [Bool.not_true,cond_f] at hm ⊢
          generalize decide ((S_l00Max z.lo (c64 (-6746518853))).val > (S_l00Min z.hi (c64 6746518853)).val) = d at *
          cases d with
          | true=>rfl
          | false=>rw [cond_f] at hm; cases hm
      rw [this]
      decide
  unfold S_AsinI
  simp only [bindP_e,h,Bool.not_true,cond_f]
  obtain ⟨m1,m2,m3⟩:=meet a S_l06Ring (by decide) (by decide) (by decide) h
  have r1 : S_l06Ring.lo.val = -4294967296:=by decide
  have r2 : S_l06Ring.hi.val = 4294967296:=by decide
  have po:=Ok4p m1
  generalize (S_MeetI a S_l06Ring).1 = y at *
  obtain ⟨a1,a2,a3⟩:=at_ok y.lo (by omega) (by omega)
  obtain ⟨b1,b2,b3⟩:=at_ok y.hi (by omega) (by omega)
  unfold S_HullI
  simp only [bindP_e,a1,b1,Bool.not_true,cond_f]
  have pa:=Ok4p a1
  have pb:=Ok4p b1
  have x1:=min_is (S_AsinAt y.lo).lo (S_AsinAt y.hi).lo
  have x2:=max_is (S_AsinAt y.lo).hi (S_AsinAt y.hi).hi
  have y1:=min_out (S_AsinAt y.lo).lo (S_AsinAt y.hi).lo
  have y2:=max_out (S_AsinAt y.lo).hi (S_AsinAt y.hi).hi
  rw [Make_ok (by omega)]
  exact Ok4_of (by show -1152921504606846976 < (S_l00Min (S_AsinAt y.lo).lo (S_AsinAt y.hi).lo).val ∧ (S_l00Min (S_AsinAt y.lo).lo (S_AsinAt y.hi).lo).val ≤ (S_l00Max (S_AsinAt y.lo).hi (S_AsinAt y.hi).hi).val ∧ (S_l00Max (S_AsinAt y.lo).hi (S_AsinAt y.hi).hi).val < 1152921504606846976
                   omega)
def Gd (z : Iv) : Prop:=S_l04Ok z = true ∨ z = S_l04Whole
theorem Gd.whole : Gd S_l04Whole:=.inr rfl
theorem abs_ex (x : Rl.R) : ∃ y,Rl.q 0 ≤ y ∧ (y = x ∨ y = -x):=by
  rcases Rl.le_total (Rl.q 0) x with h | h
  · exact ⟨x,h,.inl rfl⟩
  · exact ⟨-x,Rl.neg_nonneg h,.inr rfl⟩
theorem Asin_known {a : Iv} {t : Rl.R} (ha : Tr a (Rl.sn t)) : S_l04Ok (S_AsinI a) = true:=Asin_ok (MeetI_tr ha (tRing (Rl.sn_le t))).1
theorem root_pos {x s : Rl.R} (hx : Rl.q 0 < x) (s0 : Rl.q 0 ≤ s) (e : s * s = x) : Rl.q 0 < s:=fun k=>by
  have z : s = Rl.q 0:=Rl.le_antisymm k s0
  rw [z,Rl.zero_mul] at e
  rw [← e] at hx
  exact hx (Rl.le_refl _)
theorem div_ex {x y : Rl.R} (h : Rl.q 0 < y) : ∃ z,z * y = x:=by
  obtain ⟨i,hi,_⟩:=Rl.inv_ex h
  exact ⟨x * i,by rw [Rl.mul_assoc,Rl.mul_comm i,hi,Rl.mul_one]⟩
theorem nn_of_mul {z y x : Rl.R} (e : z * y = x) (hy : Rl.q 0 < y) (hx : Rl.q 0 ≤ x) : Rl.q 0 ≤ z:=by
  refine Rl.le_of_mul (z:=y) ?_ hy
  rw [Rl.zero_mul,e]; exact hx
theorem Valid_bound {p : Pj} (h : S_ValidProjection p = true) : -1800000000 < p.lon0.val ∧ p.lon0.val ≤ 1800000000 ∧ -900000000 ≤ p.lat0.val ∧ p.lat0.val ≤ 900000000:=by
  unfold S_ValidProjection S_l17Ok at h
  simp only [bindP_e] at h
  cases h1 : S_l11Ok (⟨p.lat0,p.lon0⟩ : Pt) with
  | false=>rw [h1] at h; simp only [Bool.not_false,cond_t] at h; cases h
  | true=>
    have:=Lat_bound h1
    exact ⟨this.2.2.1,this.2.2.2,this.1,this.2.1⟩
end Go.Proofs.YtcdkepbgjgcjfaaGreat.Abs
