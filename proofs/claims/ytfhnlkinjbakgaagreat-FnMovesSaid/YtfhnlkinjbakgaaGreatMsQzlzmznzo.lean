/- Plain laws of the functions on numbers: what the program computes is what the reference computes. -/
import Derived.Test.YtfhnlkinjbakgaaGreatMsReal
import Derived.Test.YtfhnlkinjbakgaaGreatMsQzhzizjzk
import Derived.Test.YtfhnlkinjbakgaaGreatMsF4
set_option linter.unusedVariables false
set_option linter.unusedSimpArgs false
namespace Go.Proofs.YtfhnlkinjbakgaaGreat.Abs
open Go
theorem abs_ex (x : Rl.R) : ∃ y,Rl.q 0 ≤ y ∧ (y = x ∨ y = -x):=by
  rcases Rl.le_total (Rl.q 0) x with h | h
  · exact ⟨x,h,.inl rfl⟩
  · exact ⟨-x,Rl.neg_nonneg h,.inr rfl⟩
theorem root_pos {x s : Rl.R} (hx : Rl.q 0 < x) (s0 : Rl.q 0 ≤ s) (e : s * s = x) : Rl.q 0 < s:=fun k=>by
  have z : s = Rl.q 0:=Rl.le_antisymm k s0
  rw [z,Rl.zero_mul] at e
  rw [← e] at hx
  exact hx (Rl.le_refl _)
theorem div_ex {x y : Rl.R} (h : Rl.q 0 < y) : ∃ z,z * y = x:=by
  obtain ⟨i,hi,_⟩:=Rl.inv_ex h
  exact ⟨x * i,by rw [Rl.mul_assoc,Rl.mul_comm i,hi,Rl.mul_one]⟩
theorem nn_of_mul {z y x : Rl.R} (e : z * y = x) (hy : Rl.q 0 < y) (hx : Rl.q 0 ≤ x) : Rl.q 0 ≤ z:=by
  refine Rl.le_of_mul (z:=y) ?_ hy
  rw [Rl.zero_mul,e]; exact hx
theorem DirAt_form {y x : I64} (hy : S_l07Fix y = true) (hx : S_l07Fix x = true) : S_DirectionAt y x =
    if x.val = 0 ∧ y.val = 0 then S_l04Whole else if (if y.val < 0 then -y.val else y.val) > x.val ∧ (if y.val < 0 then -y.val else y.val) > -x.val then (if y.val < 0 then S_SubI (S_TurnI (c64 (-1))) (S_AtanI (S_DivI (S_l05At x) (S_l05At y))) else S_SubI (S_TurnI (c64 1)) (S_AtanI (S_DivI (S_l05At x) (S_l05At y)))) else if x.val > 0 then S_AtanI (S_DivI (S_l05At y) (S_l05At x)) else if y.val < 0 then S_AddI (S_AtanI (S_DivI (S_l05At y) (S_l05At x))) (S_TurnI (c64 (-2))) else S_AddI (S_AtanI (S_DivI (S_l05At y) (S_l05At x))) (S_TurnI (c64 2)):=by
  rw [← eq_DirectionAt]
  unfold I_DirectionAt
  simp only [bindP_e,eq_isOpen,eq_Whole,eq_at,eq_TurnI,eq_DivI,eq_AtanI,eq_SubI,eq_AddI]
  have yb:=open_val hy
  have xb:=open_val hx
  have ey : (w64 (0 - y.val)).val = -y.val:=by rw [w64_val]; omega
  have ex : (w64 (0 - x.val)).val = -x.val:=by rw [w64_val]; omega
  simp only [hy,hx,Bool.not_true,cond_f,abs_pos yb,abs_pos xb,ey,ex]
  rw [direction_cases]
theorem fx_neg_lt {n : Int} (h : n < 0) : Rl.fx n < Rl.q 0:=by rw [← Rl.fx_zero]; exact fun k=>absurd (Rl.fx_le.1 k) (by omega)
theorem ratio {a b r s c : Rl.R} (ea : a = r * s) (eb : b = r * c) (hb : b < Rl.q 0 ∨ Rl.q 0 < b) (hr : Rl.q 0 < r) : ∃ z,z * b = a ∧ s = z * c:=by
  have key : ∀ {b c a s : Rl.R},a = r * s → b = r * c → Rl.q 0 < b → ∃ z,z * b = a ∧ s = z * c:=fun {b c a s} ea eb hb=>by
    obtain ⟨z,ez⟩:=div_ex (x:=a) hb
    refine ⟨z,ez,Rl.eq_of_mul (z:=r) ?_ hr⟩
    rw [Rl.mul_comm s,← ea,← ez,eb,Rl.mul_assoc,Rl.mul_comm c]
  rcases hb with hb | hb
  · obtain ⟨z,e1,e2⟩:=key (b:=-b) (c:=-c) (a:=-a) (s:=-s) (by rw [ea,Rl.mul_neg]) (by rw [eb,Rl.mul_neg]) (by
      have:=Rl.neg_lt hb
      rwa [← Rl.q_neg,show -(0 : Rat) = 0 from by decide] at this)
    refine ⟨z,?_,?_⟩
    · rw [Rl.mul_neg] at e1
      have:=congrArg (fun z=>-z) e1
      simpa only [Rl.neg_neg] using this
    · rw [Rl.mul_neg] at e2
      have:=congrArg (fun z=>-z) e2
      simpa only [Rl.neg_neg] using this
  · exact key ea eb hb
theorem tDirAtS {y x : I64} {t : Rl.R} (h : Rl.Dir (Rl.fx y.val) (Rl.fx x.val) t) : Tr (S_DirectionAt y x) t:=by
  have fixes : S_l07Fix y = false ∨ S_l07Fix x = false → Tr (S_DirectionAt y x) t:=by
    intro k
    unfold S_DirectionAt S_Whole
    simp only [bindP_e]
    cases hy : S_l07Fix y with
    | false=>simp only [Bool.not_false,cond_t]; exact tWhole _
    | true=>
      have hx : S_l07Fix x = false:=by
        rcases k with k | k
        · rw [hy] at k; cases k
        · exact k
      simp only [hx,Bool.not_false,Bool.not_true,cond_t,cond_f]
      exact tWhole _
  cases hy : S_l07Fix y with
  | false=>exact fixes (.inl hy)
  | true=>
  cases hx : S_l07Fix x with
  | false=>exact fixes (.inr hx)
  | true=>
    rw [DirAt_form hy hx]
    by_cases c0 : x.val = 0 ∧ y.val = 0
    · rw [if_pos c0]; exact tWhole _
    · rw [if_neg c0]
      obtain ⟨d1,d2,d3⟩:=Rl.dir_pos h
      have hup:=Rl.dir_up h
      have hneg:=Rl.dir_neg h
      obtain ⟨h1,h2,r,hr,ey,ex⟩:=h
      have one:=tTurnS (c64 1)
      rw [c64_v,Rl.kh_one] at one
      have mone:=tTurnS (c64 (-1))
      rw [c64_v,Rl.kh_neg,Rl.kh_one] at mone
      have two:=tTurnS (c64 2)
      rw [c64_v,← Rl.pi_kh] at two
      have mtwo:=tTurnS (c64 (-2))
      rw [c64_v,Rl.kh_neg,← Rl.pi_kh] at mtwo
      by_cases c1 : (if y.val < 0 then -y.val else y.val) > x.val ∧ (if y.val < 0 then -y.val else y.val) > -x.val
      · rw [if_pos c1]
        by_cases c2 : y.val < 0
        · rw [if_pos c2]
          have yn:=fx_neg_lt c2
          obtain ⟨z,ez,es⟩:=ratio ex ey (.inl yn) hr
          have t0:=d3 yn
          have A:=tSubS mone (tAtanS (tDivS (tAtS x) (tAtS y) ez) (t:=-Rl.hp - t) ?_ ?_ ?_)
          · rwa [Rl.sub_sub_self] at A
          · intro k
            refine t0 ?_
            have:=Rl.sub_le_sub (Rl.le_refl (-Rl.hp)) k
            rwa [Rl.sub_self,Rl.sub_sub_self] at this
          · intro k
            refine h1 ?_
            have:=Rl.sub_le_sub (Rl.le_refl (-Rl.hp)) k
            rw [Rl.sub_sub_self] at this
            rwa [show -Rl.hp - Rl.hp = -Rl.pi from by rw [← Rl.neg_add]; rfl] at this
          · rw [show -Rl.hp - t = -(t + Rl.hp) from by rw [Rl.add_comm,Rl.neg_add],Rl.sn_neg,Rl.cn_neg,Rl.sn_hp_add,Rl.cn_hp_add,es,Rl.mul_neg]
        · rw [if_neg c2]
          have yp : Rl.q 0 < Rl.fx y.val:=Rl.fx_pos (by
            rw [if_neg c2] at c1
            omega)
          obtain ⟨z,ez,es⟩:=ratio ex ey (.inr yp) hr
          obtain ⟨t0,t1⟩:=hup yp
          have A:=tSubS one (tAtanS (tDivS (tAtS x) (tAtS y) ez) (t:=Rl.hp - t) ?_ ?_ ?_)
          · rwa [Rl.sub_sub_self] at A
          · intro k
            refine t1 ?_
            have:=Rl.sub_le_sub (Rl.le_refl Rl.hp) k
            rw [Rl.sub_sub_self,Rl.sub_neg] at this
            exact this
          · intro k
            refine t0 ?_
            have:=Rl.sub_le_sub (Rl.le_refl Rl.hp) k
            rwa [Rl.sub_self,Rl.sub_sub_self] at this
          · rw [Rl.sn_hp_sub,Rl.cn_hp_sub,es]
      · rw [if_neg c1]
        by_cases c3 : x.val > 0
        · rw [if_pos c3]
          have xp : Rl.q 0 < Rl.fx x.val:=Rl.fx_pos (by omega)
          obtain ⟨z,ez,es⟩:=ratio ey ex (.inr xp) hr
          obtain ⟨t0,t1⟩:=d1 xp
          exact tAtanS (tDivS (tAtS y) (tAtS x) ez) t0 t1 es
        · rw [if_neg c3]
          have xn : Rl.fx x.val < Rl.q 0:=fx_neg_lt (by
            by_cases c4 : y.val < 0
            · rw [if_pos c4] at c1; omega
            · rw [if_neg c4] at c1; omega)
          obtain ⟨z,ez,es⟩:=ratio ey ex (.inl xn) hr
          obtain ⟨n1,n2⟩:=hneg xn
          by_cases c4 : y.val < 0
          · rw [if_pos c4]
            have tn:=n2 (fx_neg_lt c4)
            have A:=tAddS (tAtanS (tDivS (tAtS y) (tAtS x) ez) (t:=t + Rl.pi) ?_ ?_ ?_) mtwo
            · rwa [Rl.add_neg,Rl.add_sub_cancel] at A
            · intro k
              refine h1 (Rl.le_trans (y:=-Rl.hp - Rl.pi) ?_ ?_)
              · have:=Rl.sub_le_sub k (Rl.le_refl Rl.pi)
                rwa [Rl.add_sub_cancel] at this
              · have:=Rl.sub_le_sub (Rl.le_of_lt Rl.neg_hp_lt) (Rl.le_refl Rl.pi)
                rwa [Rl.zero_sub] at this
            · intro k
              refine tn ?_
              have:=Rl.sub_le_sub k (Rl.le_refl Rl.pi)
              rw [Rl.add_sub_cancel] at this
              refine Rl.le_trans (y:=Rl.hp - Rl.pi) ?_ this
              rw [show Rl.hp - Rl.pi = -Rl.hp from by rw [show Rl.pi = Rl.hp + Rl.hp from rfl,← Rl.neg_sub,Rl.add_sub_cancel]]
              exact Rl.le_refl _
            · rw [Rl.sn_pi,Rl.cn_pi,es,Rl.mul_neg]
          · rw [if_neg c4]
            have tp:=n1 (by rw [← Rl.fx_zero]; exact Rl.fx_le.2 (by omega))
            have A:=tAddS (tAtanS (tDivS (tAtS y) (tAtS x) ez) (t:=t - Rl.pi) ?_ ?_ ?_) two
            · rwa [Rl.sub_add_cancel] at A
            · intro k
              refine tp ?_
              have:=Rl.add_le_add k (Rl.le_refl Rl.pi)
              rw [Rl.sub_add_cancel] at this
              refine Rl.le_trans this ?_
              rw [show -Rl.hp + Rl.pi = Rl.hp from by rw [show Rl.pi = Rl.hp + Rl.hp from rfl,Rl.add_comm,Rl.add_neg,Rl.add_sub_cancel]]
              exact Rl.le_refl _
            · intro k
              have e:=Rl.sub_le_sub h2 (Rl.le_refl Rl.pi)
              rw [Rl.sub_self] at e
              exact Rl.hp_pos (Rl.le_trans k e)
            · have e : t = t - Rl.pi + Rl.pi:=(Rl.sub_add_cancel _ _).symm
              have s1:=Rl.sn_pi (t - Rl.pi)
              have s2:=Rl.cn_pi (t - Rl.pi)
              rw [Rl.sub_add_cancel] at s1 s2
              rw [s1,s2,Rl.mul_neg] at es
              have:=congrArg (fun z=>-z) es
              simpa only [Rl.neg_neg] using this
theorem Hull4_out {a b c d : Iv} (h : S_l04Ok (S_HullI (S_HullI a b) (S_HullI c d)) = true) : ∀ z,(z = a ∨ z = b ∨ z = c ∨ z = d) → S_l04Ok z = true ∧ (S_HullI (S_HullI a b) (S_HullI c d)).lo.val ≤ z.lo.val ∧ z.hi.val ≤ (S_HullI (S_HullI a b) (S_HullI c d)).hi.val:=by
  obtain ⟨h1,h2,h3,h4,h5,h6⟩:=HullI_out h
  obtain ⟨a1,a2,a3,a4,a5,a6⟩:=HullI_out h1
  obtain ⟨b1,b2,b3,b4,b5,b6⟩:=HullI_out h2
  rintro z (rfl | rfl | rfl | rfl)
  · exact ⟨a1,by omega,by omega⟩
  · exact ⟨a2,by omega,by omega⟩
  · exact ⟨b1,by omega,by omega⟩
  · exact ⟨b2,by omega,by omega⟩
theorem DirI_form {y x : Iv} (hy : S_l04Ok y = true) (hx : S_l04Ok x = true) : S_DirectionI y x = (bif (S_HasI y (c64 0) && S_HasI x (c64 0)) || (decide (x.lo.val < 0) && decide (y.lo.val < 0) && decide (y.hi.val ≥ 0)) then S_l04Whole else
    S_HullI (S_HullI (S_DirectionAt y.lo x.lo) (S_DirectionAt y.lo x.hi)) (S_HullI (S_DirectionAt y.hi x.lo) (S_DirectionAt y.hi x.hi))):=by
  unfold S_DirectionI S_IsWhole S_Whole
  simp only [bindP_e,hy,hx,Bool.not_true,cond_f]
  cases S_HasI y (c64 0) <;> cases S_HasI x (c64 0) <;> cases decide (x.lo.val < 0) <;> cases decide (y.lo.val < 0) <;> cases decide (y.hi.val ≥ 0) <;> simp only [cond_t,cond_f,Bool.and_false,Bool.and_true,Bool.or_false,Bool.or_true]
theorem HasI_zero {a : Iv} (h : S_l04Ok a = true) : S_HasI a (c64 0) = true ↔ a.lo.val ≤ 0 ∧ 0 ≤ a.hi.val:=by
  unfold S_HasI S_l04Has
  simp only [bindP_e,h,Bool.not_true,cond_f,sp_in,c64_v,Bool.and_eq_true,decide_eq_true_eq]
theorem sq_sum_pos {u v : Rl.R} (h : Rl.q 0 < u ∨ u < Rl.q 0 ∨ Rl.q 0 < v ∨ v < Rl.q 0) : Rl.q 0 < u * u + v * v:=by
  have neg : ∀ {u : Rl.R},u < Rl.q 0 → Rl.q 0 < u * u:=fun {u} h=>by
    have h' : Rl.q 0 < -u:=by
      have:=Rl.neg_lt h
      rwa [← Rl.q_neg,show -(0 : Rat) = 0 from by decide] at this
    have:=Rl.mul_pos h' h'
    rwa [Rl.neg_mul,Rl.mul_neg,Rl.neg_neg] at this
  rcases h with h | h | h | h
  · exact Rl.add_pos (Rl.mul_pos h h) (Rl.sq_nonneg v)
  · exact Rl.add_pos (neg h) (Rl.sq_nonneg v)
  · rw [Rl.add_comm]; exact Rl.add_pos (Rl.mul_pos h h) (Rl.sq_nonneg u)
  · rw [Rl.add_comm]; exact Rl.add_pos (neg h) (Rl.sq_nonneg u)
theorem tDirS {Y X : Iv} {y x t : Rl.R} (hY : Tr Y y) (hX : Tr X x) (h : Rl.Dir y x t) : Tr (S_DirectionI Y X) t:=by
  cases oy : S_l04Ok Y with
  | false=>
    unfold S_DirectionI S_IsWhole S_Whole
    simp only [bindP_e,oy,Bool.not_false,cond_t]
    exact tWhole _
  | true=>
  cases ox : S_l04Ok X with
  | false=>
    unfold S_DirectionI S_IsWhole S_Whole
    simp only [bindP_e,oy,ox,Bool.not_false,Bool.not_true,cond_t,cond_f]
    exact tWhole _
  | true=>
    rw [DirI_form oy ox]
    cases hb : ((S_HasI Y (c64 0) && S_HasI X (c64 0)) || (decide (X.lo.val < 0) && decide (Y.lo.val < 0) && decide (Y.hi.val ≥ 0))) with
    | true=>rw [cond_t]; exact tWhole _
    | false=>
      rw [cond_f]
      have A:=hY oy
      have B:=hX ox
      have pY:=A.ord
      have pX:=B.ord
      have hb' : ¬ ((Y.lo.val ≤ 0 ∧ 0 ≤ Y.hi.val) ∧ X.lo.val ≤ 0 ∧ 0 ≤ X.hi.val) ∧ ¬ (X.lo.val < 0 ∧ Y.lo.val < 0 ∧ Y.hi.val ≥ 0):=by
        simp only [Bool.or_eq_false_iff] at hb
        refine ⟨fun k=>?_,fun k=>?_⟩
        · have e1:=(HasI_zero oy).2 k.1
          have e2:=(HasI_zero ox).2 k.2
          rw [e1,e2] at hb
          exact absurd hb.1 (by decide)
        · have:=hb.2
          rw [decide_eq_true k.1,decide_eq_true k.2.1,decide_eq_true k.2.2] at this
          exact absurd this (by decide)
      have ends : ∀ a,(a < t ∧ t ≤ a + Rl.pi) → (∀ u v : Rl.R,(u = Rl.fx X.lo.val ∨ u = Rl.fx X.hi.val) → (v = Rl.fx Y.lo.val ∨ v = Rl.fx Y.hi.val) → ∃ s,Rl.Dir v u s ∧ a < s ∧ s ≤ a + Rl.pi) → Tr (S_HullI (S_HullI (S_DirectionAt Y.lo X.lo) (S_DirectionAt Y.lo X.hi)) (S_HullI (S_DirectionAt Y.hi X.lo) (S_DirectionAt Y.hi X.hi))) t:=by
        intro a ha hc ok
        obtain ⟨⟨u,v,s,hu,hv,d,le⟩,⟨u',v',s',hu',hv',d',le'⟩⟩:=Rl.dir_hull h B.1 B.2 A.1 A.2 ha hc
        have H:=Hull4_out ok
        constructor
        · rcases hu with rfl | rfl <;> rcases hv with rfl | rfl
          · obtain ⟨k1,k2,_⟩:=H _ (.inl rfl)
            exact Rl.le_trans (Rl.fx_le.2 k2) (Rl.le_trans (tDirAtS d k1).1 le)
          · obtain ⟨k1,k2,_⟩:=H _ (.inr (.inr (.inl rfl)))
            exact Rl.le_trans (Rl.fx_le.2 k2) (Rl.le_trans (tDirAtS d k1).1 le)
          · obtain ⟨k1,k2,_⟩:=H _ (.inr (.inl rfl))
            exact Rl.le_trans (Rl.fx_le.2 k2) (Rl.le_trans (tDirAtS d k1).1 le)
          · obtain ⟨k1,k2,_⟩:=H _ (.inr (.inr (.inr rfl)))
            exact Rl.le_trans (Rl.fx_le.2 k2) (Rl.le_trans (tDirAtS d k1).1 le)
        · rcases hu' with rfl | rfl <;> rcases hv' with rfl | rfl
          · obtain ⟨k1,_,k2⟩:=H _ (.inl rfl)
            exact Rl.le_trans le' (Rl.le_trans (tDirAtS d' k1).2 (Rl.fx_le.2 k2))
          · obtain ⟨k1,_,k2⟩:=H _ (.inr (.inr (.inl rfl)))
            exact Rl.le_trans le' (Rl.le_trans (tDirAtS d' k1).2 (Rl.fx_le.2 k2))
          · obtain ⟨k1,_,k2⟩:=H _ (.inr (.inl rfl))
            exact Rl.le_trans le' (Rl.le_trans (tDirAtS d' k1).2 (Rl.fx_le.2 k2))
          · obtain ⟨k1,_,k2⟩:=H _ (.inr (.inr (.inr rfl)))
            exact Rl.le_trans le' (Rl.le_trans (tDirAtS d' k1).2 (Rl.fx_le.2 k2))
      have cls : ∀ (P : Rl.R → Rl.R → Prop) (a : Rl.R),(∀ v u s,P v u → Rl.Dir v u s → a < s ∧ s ≤ a + Rl.pi) → P y x → (∀ u v : Rl.R,(u = Rl.fx X.lo.val ∨ u = Rl.fx X.hi.val) → (v = Rl.fx Y.lo.val ∨ v = Rl.fx Y.hi.val) → P v u ∧ (Rl.q 0 < u ∨ u < Rl.q 0 ∨ Rl.q 0 < v ∨ v < Rl.q 0)) → Tr (S_HullI (S_HullI (S_DirectionAt Y.lo X.lo) (S_DirectionAt Y.lo X.hi)) (S_HullI (S_DirectionAt Y.hi X.lo) (S_DirectionAt Y.hi X.hi))) t:=by
        intro P a hP p hc
        refine ends a (hP _ _ _ p h) fun u v hu hv=>?_
        obtain ⟨c1,c2⟩:=hc u v hu hv
        obtain ⟨s,d⟩:=Rl.dir_ex (sq_sum_pos c2)
        exact ⟨s,d,hP _ _ _ c1 d⟩
      by_cases k1 : 0 < X.lo.val
      · refine cls (fun v u=>Rl.q 0 < u) (-Rl.hp) (fun v u s p d=>?_) (Rl.lt_of_lt_of_le (Rl.fx_pos k1) B.1) fun u v hu hv=>?_
        · obtain ⟨e1,e2⟩:=(Rl.dir_pos d).1 p
          refine ⟨e1,Rl.le_trans (Rl.le_of_lt e2) ?_⟩
          rw [show -Rl.hp + Rl.pi = Rl.hp from by rw [show Rl.pi = Rl.hp + Rl.hp from rfl,Rl.add_comm,Rl.add_neg,Rl.add_sub_cancel]]
          exact Rl.le_refl _
        · have : Rl.q 0 < u:=by
            rcases hu with rfl | rfl
            · exact Rl.fx_pos k1
            · exact Rl.fx_pos (by omega)
          exact ⟨this,.inl this⟩
      · by_cases k2 : 0 < Y.lo.val
        · refine cls (fun v u=>Rl.q 0 < v) (Rl.q 0) (fun v u s p d=>?_) (Rl.lt_of_lt_of_le (Rl.fx_pos k2) A.1) fun u v hu hv=>?_
          · obtain ⟨e1,e2⟩:=Rl.dir_up d p
            exact ⟨e1,by rw [Rl.zero_add]; exact Rl.le_of_lt e2⟩
          · have : Rl.q 0 < v:=by
              rcases hv with rfl | rfl
              · exact Rl.fx_pos k2
              · exact Rl.fx_pos (by omega)
            exact ⟨this,.inr (.inr (.inl this))⟩
        · by_cases k3 : Y.hi.val < 0
          · refine cls (fun v u=>v < Rl.q 0) (-Rl.pi) (fun v u s p d=>?_) (Rl.lt_of_le_of_lt A.2 (fx_neg_lt k3)) fun u v hu hv=>?_
            · have e1:=(Rl.dir_pos d).2.2 p
              exact ⟨d.1,by rw [Rl.add_comm,Rl.add_neg,Rl.sub_self]; exact Rl.le_of_lt e1⟩
            · have : v < Rl.q 0:=by
                rcases hv with rfl | rfl
                · exact fx_neg_lt (by omega)
                · exact fx_neg_lt k3
              exact ⟨this,.inr (.inr (.inr this))⟩
          · have k4 : Y.lo.val = 0 ∧ X.hi.val < 0:=by omega
            refine cls (fun v u=>Rl.q 0 ≤ v ∧ u < Rl.q 0) (Rl.q 0) (fun v u s p d=>?_) ⟨?_,Rl.lt_of_le_of_lt B.2 (fx_neg_lt k4.2)⟩ fun u v hu hv=>?_
            · have e1:=(Rl.dir_neg d p.2).1 p.1
              exact ⟨Rl.lt_trans Rl.hp_pos e1,by rw [Rl.zero_add]; exact d.2.1⟩
            · have:=A.1
              rwa [k4.1,Rl.fx_zero] at this
            · have c1 : u < Rl.q 0:=by
                rcases hu with rfl | rfl
                · exact fx_neg_lt (by omega)
                · exact fx_neg_lt k4.2
              have c2 : Rl.q 0 ≤ v:=by
                rw [← Rl.fx_zero]
                rcases hv with rfl | rfl
                · exact Rl.fx_le.2 (by omega)
                · exact Rl.fx_le.2 (by omega)
              exact ⟨⟨c2,c1⟩,.inr (.inl c1)⟩
theorem tZeroS : Tr (⟨c64 0,c64 0⟩ : Iv) (Rl.q 0):=fun _=>by
  show Rl.In (c64 0).val (c64 0).val _
  rw [c64_v,← Rl.fx_zero]
  exact Rl.In.fix _
theorem fx_sq3_le {a b c r : Int} {x y z n : Rl.R} (hr : r * r ≤ a * a + b * b + c * c) (hn : Rl.q 0 ≤ n) (e : n * n = x * x + y * y + z * z) (ha : 0 ≤ a) (hb : 0 ≤ b) (hc : 0 ≤ c) (h1 : Rl.fx a ≤ x) (h2 : Rl.fx b ≤ y) (h3 : Rl.fx c ≤ z) : Rl.fx r ≤ n:=by
  have nn : ∀ {a : Int},0 ≤ a → Rl.q 0 ≤ Rl.fx a:=fun h=>by rw [← Rl.fx_zero]; exact Rl.fx_le.2 h
  have sq : ∀ {a : Int} {x : Rl.R},0 ≤ a → Rl.fx a ≤ x → Rl.fx a * Rl.fx a ≤ x * x:=fun ha h=>Rl.le_trans (Rl.mul_le_mul_l h (nn ha)) (Rl.mul_le_mul_r h (Rl.le_trans (nn ha) h))
  refine Rl.le_of_sq ?_ hn
  rw [e]
  refine Rl.le_trans ?_ (Rl.add_le_add (Rl.add_le_add (sq ha h1) (sq hb h2)) (sq hc h3))
  rw [Rl.fx_mul,Rl.fx_mul,Rl.fx_mul,Rl.fx_mul,← Rl.q_add,← Rl.q_add]
  refine Rl.q_le.2 ?_
  have:=Rl.cast_le hr
  push_cast at this
  grind
theorem fx_sq3_ge {a b c r : Int} {x y z n : Rl.R} (hr : a * a + b * b + c * c ≤ r * r) (h0 : 0 ≤ r) (e : n * n = x * x + y * y + z * z) (hx : Rl.q 0 ≤ x) (hy : Rl.q 0 ≤ y) (hz : Rl.q 0 ≤ z) (h1 : x ≤ Rl.fx a) (h2 : y ≤ Rl.fx b) (h3 : z ≤ Rl.fx c) : n ≤ Rl.fx r:=by
  have nn : Rl.q 0 ≤ Rl.fx r:=by rw [← Rl.fx_zero]; exact Rl.fx_le.2 h0
  have sq : ∀ {a : Int} {x : Rl.R},Rl.q 0 ≤ x → x ≤ Rl.fx a → x * x ≤ Rl.fx a * Rl.fx a:=fun hx h=>Rl.le_trans (Rl.mul_le_mul_l h hx) (Rl.mul_le_mul_r h (Rl.le_trans hx h))
  refine Rl.le_of_sq ?_ nn
  rw [e]
  refine Rl.le_trans (Rl.add_le_add (Rl.add_le_add (sq hx h1) (sq hy h2)) (sq hz h3)) ?_
  rw [Rl.fx_mul,Rl.fx_mul,Rl.fx_mul,Rl.fx_mul,← Rl.q_add,← Rl.q_add]
  refine Rl.q_le.2 ?_
  have:=Rl.cast_le hr
  push_cast at this
  grind
theorem sq_of_abs {x y : Rl.R} (h : y = x ∨ y = -x) : y * y = x * x:=by
  rcases h with h | h
  · rw [h]
  · rw [h,Rl.neg_mul,Rl.mul_neg,Rl.neg_neg]
theorem tNormS {v : Vc} {x y z n : Rl.R} (hx : Tr v.x x) (hy : Tr v.y y) (hz : Tr v.z z) (hn : Rl.q 0 ≤ n) (e : n * n = x * x + y * y + z * z) : Tr (S_NormV v) n:=by
  unfold S_NormV S_IsWhole S_Whole S_l10Ends
  simp only [bindP_e]
  cases ox : S_l04Ok v.x with
  | false=>simp only [Bool.not_false,cond_t]; exact tWhole _
  | true=>
  cases oy : S_l04Ok v.y with
  | false=>simp only [Bool.not_false,Bool.not_true,cond_t,cond_f]; exact tWhole _
  | true=>
  cases oz : S_l04Ok v.z with
  | false=>simp only [Bool.not_false,Bool.not_true,cond_t,cond_f]; exact tWhole _
  | true=>
    simp only [Bool.not_true,cond_f,AbsI_val ox,AbsI_val oy,AbsI_val oz]
    obtain ⟨x1,x2,x3⟩:=Ends_val ox
    obtain ⟨y1,y2,y3⟩:=Ends_val oy
    obtain ⟨z1,z2,z3⟩:=Ends_val oz
    obtain ⟨ax,ax0,eax⟩:=abs_ex x
    obtain ⟨ay,ay0,eay⟩:=abs_ex y
    obtain ⟨az,az0,eaz⟩:=abs_ex z
    have bnd : ∀ {a : Iv} {x ax : Rl.R},Tr a x → Rl.q 0 ≤ ax → (ax = x ∨ ax = -x) → S_l04Ok a = true → Rl.In (S_l04Ends a).1.val (S_l04Ends a).2.val ax:=fun {a x ax} h h0 ea o=>by
      have:=tAbsS h h0 ea
      rw [AbsI_val o] at this
      obtain ⟨p1,p2,p3⟩:=Ends_val o
      exact this (Ok4_of (by show -1152921504606846976 < (S_l04Ends a).1.val ∧ (S_l04Ends a).1.val ≤ (S_l04Ends a).2.val ∧ (S_l04Ends a).2.val < 1152921504606846976; omega))
    have bx:=bnd hx ax0 eax ox
    have by_:=bnd hy ay0 eay oy
    have bz:=bnd hz az0 eaz oz
    rw [← sq_of_abs eax,← sq_of_abs eay,← sq_of_abs eaz] at e
    generalize S_l04Ends v.x = X at *
    generalize S_l04Ends v.y = Y at *
    generalize S_l04Ends v.z = Z at *
    obtain ⟨a1,a2,_,_,a5⟩:=Sum_val X.1 Y.1 Z.1 (by omega) (by omega) (by omega)
    obtain ⟨b1,b2,_,_,b5⟩:=Sum_val X.2 Y.2 Z.2 (by omega) (by omega) (by omega)
    obtain ⟨r1,r2⟩:=Root_val _ a2
    obtain ⟨s1,s2⟩:=Root_val _ b2
    have r0 : 0 ≤ (S_l02Root (S_l10Sum X.1 Y.1 Z.1)).val:=(S_l02Root (S_l10Sum X.1 Y.1 Z.1)).lo
    have s0 : 0 ≤ (S_l02Root (S_l10Sum X.2 Y.2 Z.2)).val:=(S_l02Root (S_l10Sum X.2 Y.2 Z.2)).lo
    have ru : (S_l02Root (S_l10Sum X.1 Y.1 Z.1)).val < 2305843009213693952:=by
      refine sq_lt r0 (by decide) ?_
      omega
    have su : (S_l02Root (S_l10Sum X.2 Y.2 Z.2)).val < 2305843009213693952:=by
      refine sq_lt s0 (by decide) ?_
      omega
    generalize S_l02Root (S_l10Sum X.1 Y.1 Z.1) = r at *
    generalize S_l02Root (S_l10Sum X.2 Y.2 Z.2) = s at *
    generalize S_l10Sum X.1 Y.1 Z.1 = S1 at *
    generalize S_l10Sum X.2 Y.2 Z.2 = S2 at *
    have er : (w64 r.val).val = r.val:=by rw [w64_val]; omega
    have e2 : (w64 s.val).val = s.val:=by rw [w64_val]; omega
    have e3 : (w64 ((w64 s.val).val + 1)).val = s.val + 1:=by rw [w64_val]; omega
    have low : Rl.fx r.val ≤ n:=fx_sq3_le (by rw [← a1]; exact r1) hn e x1 y1 z1 bx.1 by_.1 bz.1
    have up : ∀ m : Int,0 ≤ m → S2.z ≤ m * m → n ≤ Rl.fx m:=fun m h0 h=>fx_sq3_ge (by rw [← b1]; exact h) h0 e ax0 ay0 az0 bx.2 by_.2 bz.2
    have mz:=sp_Mul (w64 s.val) (w64 s.val)
    rw [e2] at mz
    generalize S_l02Mul (w64 s.val) (w64 s.val) = M at *
    cases hb : (M.hi.val == S2.hi.val && M.lo.val == S2.lo.val) with
    | true=>
      simp only [Bool.not_true,cond_f]
      cases decide ((w64 s.val).val ≥ 1152921504606846976) with
      | true=>rw [cond_t]; exact tWhole _
      | false=>
        rw [cond_f]
        simp only [Bool.and_eq_true,beq_iff_eq] at hb
        have ez : M.z = S2.z:=by
          show M.hi.val * 18446744073709551616 + M.lo.val = S2.hi.val * 18446744073709551616 + S2.lo.val
          rw [hb.1,hb.2]
        exact fun _=>⟨by show Rl.fx (w64 r.val).val ≤ n; rw [er]; exact low,by show n ≤ Rl.fx (w64 s.val).val; rw [e2]; exact up _ s0 (by omega)⟩
    | false=>
      simp only [Bool.not_false,cond_t]
      cases decide ((w64 ((w64 s.val).val + 1)).val ≥ 1152921504606846976) with
      | true=>rw [cond_t]; exact tWhole _
      | false=>
        rw [cond_f]
        exact fun _=>⟨by show Rl.fx (w64 r.val).val ≤ n; rw [er]; exact low,by show n ≤ Rl.fx (w64 ((w64 s.val).val + 1)).val; rw [e3]; exact up _ (by omega) (by omega)⟩
theorem tDotS {a b : Vc} {a1 a2 a3 b1 b2 b3 : Rl.R} (h1 : Tr a.x a1) (h2 : Tr a.y a2) (h3 : Tr a.z a3) (k1 : Tr b.x b1) (k2 : Tr b.y b2) (k3 : Tr b.z b3) : Tr (S_DotV a b) (a1 * b1 + a2 * b2 + a3 * b3):=by
  unfold S_DotV
  simp only [bindP_e]
  exact tAddS (tAddS (tMulS h1 k1) (tMulS h2 k2)) (tMulS h3 k3)
theorem tFlatS {v : Vc} {x y n : Rl.R} (hx : Tr v.x x) (hy : Tr v.y y) (hn : Rl.q 0 ≤ n) (e : n * n = x * x + y * y) : Tr (S_l15Flat v) n:=by
  unfold S_l15Flat
  simp only [bindP_e]
  exact tNormS hx hy tZeroS hn (by rw [e,Rl.zero_mul,Rl.add_zero])
theorem Dir_known {Y X : Iv} {y x : Rl.R} (h : S_l04Ok (S_DirectionI Y X) = true) (hY : Tr Y y) (hX : Tr X x) : Rl.q 0 < x * x + y * y:=by
  have oy : S_l04Ok Y = true:=by
    cases oy : S_l04Ok Y with
    | true=>rfl
    | false=>
      unfold S_DirectionI S_IsWhole S_Whole at h
      simp only [bindP_e,oy,Bool.not_false,cond_t] at h
      exact absurd h (by decide)
  have ox : S_l04Ok X = true:=by
    cases ox : S_l04Ok X with
    | true=>rfl
    | false=>
      unfold S_DirectionI S_IsWhole S_Whole at h
      simp only [bindP_e,oy,ox,Bool.not_false,Bool.not_true,cond_t,cond_f] at h
      exact absurd h (by decide)
  have A:=hY oy
  have B:=hX ox
  rcases Rl.lt_total (Rl.q 0) x with c1 | c1
  · exact sq_sum_pos (.inl c1)
  · rcases Rl.lt_total x (Rl.q 0) with c2 | c2
    · exact sq_sum_pos (.inr (.inl c2))
    · rcases Rl.lt_total (Rl.q 0) y with c3 | c3
      · exact sq_sum_pos (.inr (.inr (.inl c3)))
      · rcases Rl.lt_total y (Rl.q 0) with c4 | c4
        · exact sq_sum_pos (.inr (.inr (.inr c4)))
        · exfalso
          rw [Rl.le_antisymm c3 c4,← Rl.fx_zero] at A
          rw [Rl.le_antisymm c1 c2,← Rl.fx_zero] at B
          rw [DirI_form oy ox,(HasI_zero oy).2 ⟨Rl.fx_le.1 A.1,Rl.fx_le.1 A.2⟩,(HasI_zero ox).2 ⟨Rl.fx_le.1 B.1,Rl.fx_le.1 B.2⟩,Bool.and_self,Bool.true_or,cond_t] at h
          exact absurd h (by decide)
theorem dir_scale {r t : Rl.R} (hr : Rl.q 0 < r) (h1 : -Rl.pi < t) (h2 : t ≤ Rl.pi) : Rl.Dir (r * Rl.sn t) (r * Rl.cn t) t:=⟨h1,h2,r,hr,rfl,rfl⟩
theorem wrap_range (w : I64) (h : -1800000000 < w.val ∧ w.val ≤ 1800000000) : -Rl.pi < rad w.val ∧ rad w.val ≤ Rl.pi:=by
  have e : rad 1800000000 = Rl.pi:=by rw [Rl.pi_kh,← rad_kh]; rfl
  exact ⟨by rw [← e,← rad_neg]; exact rad_lt (by omega),by rw [← e]; exact rad_mono h.2⟩
end Go.Proofs.YtfhnlkinjbakgaaGreat.Abs
