/- Plain laws of the functions on numbers: what the program computes is what the reference computes. -/
import Derived.Test.YtfhnlkinjbakgaaGreatSsReal
import Derived.Test.YtfhnlkinjbakgaaGreatSsQzhzizjzk
import Derived.Test.YtfhnlkinjbakgaaGreatSsFx
set_option linter.unusedVariables false
set_option linter.unusedSimpArgs false
namespace Go.Proofs.YtfhnlkinjbakgaaGreat.Abs
open Go
theorem pW (x : Rl.R) : ∃ y,Rl.q 0 ≤ y ∧ (y = x ∨ y = -x):=by
  rcases Rl.le_total (Rl.q 0) x with h | h
  · exact ⟨x,h,.inl rfl⟩
  · exact ⟨-x,Rl.Fo h,.inr rfl⟩
theorem Ns {x y : Rl.R} (h : Rl.q 0 < y) : ∃ z,z * y = x:=by
  obtain ⟨i,hi,_⟩:=Rl.Td h
  exact ⟨x * i,by rw [Rl.mul_assoc,Rl.mul_comm i,hi,Rl.mul_one]⟩
theorem Lr {z y x : Rl.R} (e : z * y = x) (hy : Rl.q 0 < y) (hx : Rl.q 0 ≤ x) : Rl.q 0 ≤ z:=by
  refine Rl.Fa (z:=y) ?_ hy
  rw [Rl.zero_mul,e]; exact hx
theorem u6 {p : Pj} (h : A7 p = true) : -1800000000 < p.lon0.val ∧ p.lon0.val ≤ 1800000000 ∧ -900000000 ≤ p.lat0.val ∧ p.lat0.val ≤ 900000000:=by
  unfold A7 Hc at h
  simp only [Ag] at h
  cases h1 : B4 (⟨p.lat0,p.lon0⟩ : Pt) with
  | false=>rw [h1] at h; simp only [Bool.not_false,Ai] at h; cases h
  | true=>
    have:=eV h1
    exact ⟨this.2.2.1,this.2.2.2,this.1,this.2.1⟩
theorem xB {y x : Aq} (hy : G8 y = true) (hx : G8 x = true) : Bh y x =
    if x.val = 0 ∧ y.val = 0 then Aw else if (if y.val < 0 then -y.val else y.val) > x.val ∧ (if y.val < 0 then -y.val else y.val) > -x.val then (if y.val < 0 then Cw (C5 (Ah (-1))) (De (A4 (Bm x) (Bm y))) else Cw (C5 (Ah 1)) (De (A4 (Bm x) (Bm y)))) else if x.val > 0 then De (A4 (Bm y) (Bm x)) else if y.val < 0 then Bj (De (A4 (Bm y) (Bm x))) (C5 (Ah (-2))) else Bj (De (A4 (Bm y) (Bm x))) (C5 (Ah 2)):=by
  rw [← Yc]
  unfold Ch
  simp only [Ag,eO,Dv,yU,Th,Im,kO,Le,I4]
  have yb:=U9 hy
  have xb:=U9 hx
  have ey : (An (0 - y.val)).val = -y.val:=by rw [Ad]; omega
  have ex : (An (0 - x.val)).val = -x.val:=by rw [Ad]; omega
  simp only [hy,hx,Bool.not_true,Ae,gS yb,gS xb,ey,ex]
  rw [Xh]
theorem Lt {n : Int} (h : n < 0) : Rl.fx n < Rl.q 0:=by rw [← Rl.Fy]; exact fun k=>absurd (Rl.Df.1 k) (by omega)
theorem xU {a b r s c : Rl.R} (ea : a = r * s) (eb : b = r * c) (hb : b < Rl.q 0 ∨ Rl.q 0 < b) (hr : Rl.q 0 < r) : ∃ z,z * b = a ∧ s = z * c:=by
  have key : ∀ {b c a s : Rl.R},a = r * s → b = r * c → Rl.q 0 < b → ∃ z,z * b = a ∧ s = z * c:=fun {b c a s} ea eb hb=>by
    obtain ⟨z,ez⟩:=Ns (x:=a) hb
    refine ⟨z,ez,Rl.Kz (z:=r) ?_ hr⟩
    rw [Rl.mul_comm s,← ea,← ez,eb,Rl.mul_assoc,Rl.mul_comm c]
  rcases hb with hb | hb
  · obtain ⟨z,e1,e2⟩:=key (b:=-b) (c:=-c) (a:=-a) (s:=-s) (by rw [ea,Rl.mul_neg]) (by rw [eb,Rl.mul_neg]) (by
      have:=Rl.Gv hb
      rwa [← Rl.Ii,show -(0 : Rat) = 0 from by decide] at this)
    refine ⟨z,?_,?_⟩
    · rw [Rl.mul_neg] at e1
      have:=congrArg (fun z=>-z) e1
      simpa only [Rl.neg_neg] using this
    · rw [Rl.mul_neg] at e2
      have:=congrArg (fun z=>-z) e2
      simpa only [Rl.neg_neg] using this
  · exact key ea eb hb
theorem T8 {y x : Aq} {t : Rl.R} (h : Rl.uO (Rl.fx y.val) (Rl.fx x.val) t) : Tr (Bh y x) t:=by
  have fixes : G8 y = false ∨ G8 x = false → Tr (Bh y x) t:=by
    intro k
    unfold Bh Cr
    simp only [Ag]
    cases hy : G8 y with
    | false=>simp only [Bool.not_false,Ai]; exact Jf _
    | true=>
      have hx : G8 x = false:=by
        rcases k with k | k
        · rw [hy] at k; cases k
        · exact k
      simp only [hx,Bool.not_false,Bool.not_true,Ai,Ae]
      exact Jf _
  cases hy : G8 y with
  | false=>exact fixes (.inl hy)
  | true=>
  cases hx : G8 x with
  | false=>exact fixes (.inr hx)
  | true=>
    rw [xB hy hx]
    by_cases c0 : x.val = 0 ∧ y.val = 0
    · rw [if_pos c0]; exact Jf _
    · rw [if_neg c0]
      obtain ⟨d1,d2,d3⟩:=Rl.Zd h
      have hup:=Rl.Aes h
      have hneg:=Rl.yZ h
      obtain ⟨h1,h2,r,hr,ey,ex⟩:=h
      have one:=Xr (Ah 1)
      rw [A8,Rl.Kx] at one
      have mone:=Xr (Ah (-1))
      rw [A8,Rl.Tb,Rl.Kx] at mone
      have two:=Xr (Ah 2)
      rw [A8,← Rl.mK] at two
      have mtwo:=Xr (Ah (-2))
      rw [A8,Rl.Tb,← Rl.mK] at mtwo
      by_cases c1 : (if y.val < 0 then -y.val else y.val) > x.val ∧ (if y.val < 0 then -y.val else y.val) > -x.val
      · rw [if_pos c1]
        by_cases c2 : y.val < 0
        · rw [if_pos c2]
          have yn:=Lt c2
          obtain ⟨z,ez,es⟩:=xU ex ey (.inl yn) hr
          have t0:=d3 yn
          have A:=Jg mone (aA (Ig (bM x) (bM y) ez) (t:=-Rl.hp - t) ?_ ?_ ?_)
          · rwa [Rl.Ge] at A
          · intro k
            refine t0 ?_
            have:=Rl.Du (Rl.le_refl (-Rl.hp)) k
            rwa [Rl.sub_self,Rl.Ge] at this
          · intro k
            refine h1 ?_
            have:=Rl.Du (Rl.le_refl (-Rl.hp)) k
            rw [Rl.Ge] at this
            rwa [show -Rl.hp - Rl.hp = -Rl.pi from by rw [← Rl.L4]; rfl] at this
          · rw [show -Rl.hp - t = -(t + Rl.hp) from by rw [Rl.add_comm,Rl.L4],Rl.L1,Rl.Mf,Rl.Oz,Rl.eP,es,Rl.mul_neg]
        · rw [if_neg c2]
          have yp : Rl.q 0 < Rl.fx y.val:=Rl.Ol (by
            rw [if_neg c2] at c1
            omega)
          obtain ⟨z,ez,es⟩:=xU ex ey (.inr yp) hr
          obtain ⟨t0,t1⟩:=hup yp
          have A:=Jg one (aA (Ig (bM x) (bM y) ez) (t:=Rl.hp - t) ?_ ?_ ?_)
          · rwa [Rl.Ge] at A
          · intro k
            refine t1 ?_
            have:=Rl.Du (Rl.le_refl Rl.hp) k
            rw [Rl.Ge,Rl.J5] at this
            exact this
          · intro k
            refine t0 ?_
            have:=Rl.Du (Rl.le_refl Rl.hp) k
            rwa [Rl.sub_self,Rl.Ge] at this
          · rw [Rl.Sj,Rl.Ze,es]
      · rw [if_neg c1]
        by_cases c3 : x.val > 0
        · rw [if_pos c3]
          have xp : Rl.q 0 < Rl.fx x.val:=Rl.Ol (by omega)
          obtain ⟨z,ez,es⟩:=xU ey ex (.inr xp) hr
          obtain ⟨t0,t1⟩:=d1 xp
          exact aA (Ig (bM y) (bM x) ez) t0 t1 es
        · rw [if_neg c3]
          have xn : Rl.fx x.val < Rl.q 0:=Lt (by
            by_cases c4 : y.val < 0
            · rw [if_pos c4] at c1; omega
            · rw [if_neg c4] at c1; omega)
          obtain ⟨z,ez,es⟩:=xU ey ex (.inl xn) hr
          obtain ⟨n1,n2⟩:=hneg xn
          by_cases c4 : y.val < 0
          · rw [if_pos c4]
            have tn:=n2 (Lt c4)
            have A:=Kp (aA (Ig (bM y) (bM x) ez) (t:=t + Rl.pi) ?_ ?_ ?_) mtwo
            · rwa [Rl.Ev,Rl.add_sub_cancel] at A
            · intro k
              refine h1 (Rl.le_trans (y:=-Rl.hp - Rl.pi) ?_ ?_)
              · have:=Rl.Du k (Rl.le_refl Rl.pi)
                rwa [Rl.add_sub_cancel] at this
              · have:=Rl.Du (Rl.le_of_lt Rl.Qn) (Rl.le_refl Rl.pi)
                rwa [Rl.Xm] at this
            · intro k
              refine tn ?_
              have:=Rl.Du k (Rl.le_refl Rl.pi)
              rw [Rl.add_sub_cancel] at this
              refine Rl.le_trans (y:=Rl.hp - Rl.pi) ?_ this
              rw [show Rl.hp - Rl.pi = -Rl.hp from by rw [show Rl.pi = Rl.hp + Rl.hp from rfl,← Rl.J9,Rl.add_sub_cancel]]
              exact Rl.le_refl _
            · rw [Rl.iC,Rl.tO,es,Rl.mul_neg]
          · rw [if_neg c4]
            have tp:=n1 (by rw [← Rl.Fy]; exact Rl.Df.2 (by omega))
            have A:=Kp (aA (Ig (bM y) (bM x) ez) (t:=t - Rl.pi) ?_ ?_ ?_) two
            · rwa [Rl.C7] at A
            · intro k
              refine tp ?_
              have:=Rl.Bc k (Rl.le_refl Rl.pi)
              rw [Rl.C7] at this
              refine Rl.le_trans this ?_
              rw [show -Rl.hp + Rl.pi = Rl.hp from by rw [show Rl.pi = Rl.hp + Rl.hp from rfl,Rl.add_comm,Rl.Ev,Rl.add_sub_cancel]]
              exact Rl.le_refl _
            · intro k
              have e:=Rl.Du h2 (Rl.le_refl Rl.pi)
              rw [Rl.sub_self] at e
              exact Rl.Fv (Rl.le_trans k e)
            · have e : t = t - Rl.pi + Rl.pi:=(Rl.C7 _ _).symm
              have s1:=Rl.iC (t - Rl.pi)
              have s2:=Rl.tO (t - Rl.pi)
              rw [Rl.C7] at s1 s2
              rw [s1,s2,Rl.mul_neg] at es
              have:=congrArg (fun z=>-z) es
              simpa only [Rl.neg_neg] using this
theorem Abx {a b c d : Iv} (h : Am (Cm (Cm a b) (Cm c d)) = true) : ∀ z,(z = a ∨ z = b ∨ z = c ∨ z = d) → Am z = true ∧ (Cm (Cm a b) (Cm c d)).lo.val ≤ z.lo.val ∧ z.hi.val ≤ (Cm (Cm a b) (Cm c d)).hi.val:=by
  obtain ⟨h1,h2,h3,h4,h5,h6⟩:=Ni h
  obtain ⟨a1,a2,a3,a4,a5,a6⟩:=Ni h1
  obtain ⟨b1,b2,b3,b4,b5,b6⟩:=Ni h2
  rintro z (rfl | rfl | rfl | rfl)
  · exact ⟨a1,by omega,by omega⟩
  · exact ⟨a2,by omega,by omega⟩
  · exact ⟨b1,by omega,by omega⟩
  · exact ⟨b2,by omega,by omega⟩
theorem Aby {y x : Iv} (hy : Am y = true) (hx : Am x = true) : H3 y x = (bif (Dx y (Ah 0) && Dx x (Ah 0)) || (decide (x.lo.val < 0) && decide (y.lo.val < 0) && decide (y.hi.val ≥ 0)) then Aw else
    Cm (Cm (Bh y.lo x.lo) (Bh y.lo x.hi)) (Cm (Bh y.hi x.lo) (Bh y.hi x.hi))):=by
  unfold H3 Dt Cr
  simp only [Ag,hy,hx,Bool.not_true,Ae]
  cases Dx y (Ah 0) <;> cases Dx x (Ah 0) <;> cases decide (x.lo.val < 0) <;> cases decide (y.lo.val < 0) <;> cases decide (y.hi.val ≥ 0) <;> simp only [Ai,Ae,Bool.and_false,Bool.and_true,Bool.or_false,Bool.or_true]
theorem eY {a : Iv} (h : Am a = true) : Dx a (Ah 0) = true ↔ a.lo.val ≤ 0 ∧ 0 ≤ a.hi.val:=by
  unfold Dx I1
  simp only [Ag,h,Bool.not_true,Ae,Gk,A8,Bool.and_eq_true,decide_eq_true_eq]
theorem v7 {u v : Rl.R} (h : Rl.q 0 < u ∨ u < Rl.q 0 ∨ Rl.q 0 < v ∨ v < Rl.q 0) : Rl.q 0 < u * u + v * v:=by
  have neg : ∀ {u : Rl.R},u < Rl.q 0 → Rl.q 0 < u * u:=fun {u} h=>by
    have h' : Rl.q 0 < -u:=by
      have:=Rl.Gv h
      rwa [← Rl.Ii,show -(0 : Rat) = 0 from by decide] at this
    have:=Rl.mul_pos h' h'
    rwa [Rl.neg_mul,Rl.mul_neg,Rl.neg_neg] at this
  rcases h with h | h | h | h
  · exact Rl.Jv (Rl.mul_pos h h) (Rl.D3 v)
  · exact Rl.Jv (neg h) (Rl.D3 v)
  · rw [Rl.add_comm]; exact Rl.Jv (Rl.mul_pos h h) (Rl.D3 u)
  · rw [Rl.add_comm]; exact Rl.Jv (neg h) (Rl.D3 u)
theorem Ako {Y X : Iv} {y x t : Rl.R} (hY : Tr Y y) (hX : Tr X x) (h : Rl.uO y x t) : Tr (H3 Y X) t:=by
  cases oy : Am Y with
  | false=>
    unfold H3 Dt Cr
    simp only [Ag,oy,Bool.not_false,Ai]
    exact Jf _
  | true=>
  cases ox : Am X with
  | false=>
    unfold H3 Dt Cr
    simp only [Ag,oy,ox,Bool.not_false,Bool.not_true,Ai,Ae]
    exact Jf _
  | true=>
    rw [Aby oy ox]
    cases hb : ((Dx Y (Ah 0) && Dx X (Ah 0)) || (decide (X.lo.val < 0) && decide (Y.lo.val < 0) && decide (Y.hi.val ≥ 0))) with
    | true=>rw [Ai]; exact Jf _
    | false=>
      rw [Ae]
      have A:=hY oy
      have B:=hX ox
      have pY:=A.ord
      have pX:=B.ord
      have hb' : ¬ ((Y.lo.val ≤ 0 ∧ 0 ≤ Y.hi.val) ∧ X.lo.val ≤ 0 ∧ 0 ≤ X.hi.val) ∧ ¬ (X.lo.val < 0 ∧ Y.lo.val < 0 ∧ Y.hi.val ≥ 0):=by
        simp only [Bool.or_eq_false_iff] at hb
        refine ⟨fun k=>?_,fun k=>?_⟩
        · have e1:=(eY oy).2 k.1
          have e2:=(eY ox).2 k.2
          rw [e1,e2] at hb
          exact absurd hb.1 (by decide)
        · have:=hb.2
          rw [decide_eq_true k.1,decide_eq_true k.2.1,decide_eq_true k.2.2] at this
          exact absurd this (by decide)
      have ends : ∀ a,(a < t ∧ t ≤ a + Rl.pi) → (∀ u v : Rl.R,(u = Rl.fx X.lo.val ∨ u = Rl.fx X.hi.val) → (v = Rl.fx Y.lo.val ∨ v = Rl.fx Y.hi.val) → ∃ s,Rl.uO v u s ∧ a < s ∧ s ≤ a + Rl.pi) → Tr (Cm (Cm (Bh Y.lo X.lo) (Bh Y.lo X.hi)) (Cm (Bh Y.hi X.lo) (Bh Y.hi X.hi))) t:=by
        intro a ha hc ok
        obtain ⟨⟨u,v,s,hu,hv,d,le⟩,⟨u',v',s',hu',hv',d',le'⟩⟩:=Rl.Aev h B.1 B.2 A.1 A.2 ha hc
        have H:=Abx ok
        constructor
        · rcases hu with rfl | rfl <;> rcases hv with rfl | rfl
          · obtain ⟨k1,k2,_⟩:=H _ (.inl rfl)
            exact Rl.le_trans (Rl.Df.2 k2) (Rl.le_trans (T8 d k1).1 le)
          · obtain ⟨k1,k2,_⟩:=H _ (.inr (.inr (.inl rfl)))
            exact Rl.le_trans (Rl.Df.2 k2) (Rl.le_trans (T8 d k1).1 le)
          · obtain ⟨k1,k2,_⟩:=H _ (.inr (.inl rfl))
            exact Rl.le_trans (Rl.Df.2 k2) (Rl.le_trans (T8 d k1).1 le)
          · obtain ⟨k1,k2,_⟩:=H _ (.inr (.inr (.inr rfl)))
            exact Rl.le_trans (Rl.Df.2 k2) (Rl.le_trans (T8 d k1).1 le)
        · rcases hu' with rfl | rfl <;> rcases hv' with rfl | rfl
          · obtain ⟨k1,_,k2⟩:=H _ (.inl rfl)
            exact Rl.le_trans le' (Rl.le_trans (T8 d' k1).2 (Rl.Df.2 k2))
          · obtain ⟨k1,_,k2⟩:=H _ (.inr (.inr (.inl rfl)))
            exact Rl.le_trans le' (Rl.le_trans (T8 d' k1).2 (Rl.Df.2 k2))
          · obtain ⟨k1,_,k2⟩:=H _ (.inr (.inl rfl))
            exact Rl.le_trans le' (Rl.le_trans (T8 d' k1).2 (Rl.Df.2 k2))
          · obtain ⟨k1,_,k2⟩:=H _ (.inr (.inr (.inr rfl)))
            exact Rl.le_trans le' (Rl.le_trans (T8 d' k1).2 (Rl.Df.2 k2))
      have cls : ∀ (P : Rl.R → Rl.R → Prop) (a : Rl.R),(∀ v u s,P v u → Rl.uO v u s → a < s ∧ s ≤ a + Rl.pi) → P y x → (∀ u v : Rl.R,(u = Rl.fx X.lo.val ∨ u = Rl.fx X.hi.val) → (v = Rl.fx Y.lo.val ∨ v = Rl.fx Y.hi.val) → P v u ∧ (Rl.q 0 < u ∨ u < Rl.q 0 ∨ Rl.q 0 < v ∨ v < Rl.q 0)) → Tr (Cm (Cm (Bh Y.lo X.lo) (Bh Y.lo X.hi)) (Cm (Bh Y.hi X.lo) (Bh Y.hi X.hi))) t:=by
        intro P a hP p hc
        refine ends a (hP _ _ _ p h) fun u v hu hv=>?_
        obtain ⟨c1,c2⟩:=hc u v hu hv
        obtain ⟨s,d⟩:=Rl.Aew (v7 c2)
        exact ⟨s,d,hP _ _ _ c1 d⟩
      by_cases k1 : 0 < X.lo.val
      · refine cls (fun v u=>Rl.q 0 < u) (-Rl.hp) (fun v u s p d=>?_) (Rl.lt_of_lt_of_le (Rl.Ol k1) B.1) fun u v hu hv=>?_
        · obtain ⟨e1,e2⟩:=(Rl.Zd d).1 p
          refine ⟨e1,Rl.le_trans (Rl.le_of_lt e2) ?_⟩
          rw [show -Rl.hp + Rl.pi = Rl.hp from by rw [show Rl.pi = Rl.hp + Rl.hp from rfl,Rl.add_comm,Rl.Ev,Rl.add_sub_cancel]]
          exact Rl.le_refl _
        · have : Rl.q 0 < u:=by
            rcases hu with rfl | rfl
            · exact Rl.Ol k1
            · exact Rl.Ol (by omega)
          exact ⟨this,.inl this⟩
      · by_cases k2 : 0 < Y.lo.val
        · refine cls (fun v u=>Rl.q 0 < v) (Rl.q 0) (fun v u s p d=>?_) (Rl.lt_of_lt_of_le (Rl.Ol k2) A.1) fun u v hu hv=>?_
          · obtain ⟨e1,e2⟩:=Rl.Aes d p
            exact ⟨e1,by rw [Rl.zero_add]; exact Rl.le_of_lt e2⟩
          · have : Rl.q 0 < v:=by
              rcases hv with rfl | rfl
              · exact Rl.Ol k2
              · exact Rl.Ol (by omega)
            exact ⟨this,.inr (.inr (.inl this))⟩
        · by_cases k3 : Y.hi.val < 0
          · refine cls (fun v u=>v < Rl.q 0) (-Rl.pi) (fun v u s p d=>?_) (Rl.Kw A.2 (Lt k3)) fun u v hu hv=>?_
            · have e1:=(Rl.Zd d).2.2 p
              exact ⟨d.1,by rw [Rl.add_comm,Rl.Ev,Rl.sub_self]; exact Rl.le_of_lt e1⟩
            · have : v < Rl.q 0:=by
                rcases hv with rfl | rfl
                · exact Lt (by omega)
                · exact Lt k3
              exact ⟨this,.inr (.inr (.inr this))⟩
          · have k4 : Y.lo.val = 0 ∧ X.hi.val < 0:=by omega
            refine cls (fun v u=>Rl.q 0 ≤ v ∧ u < Rl.q 0) (Rl.q 0) (fun v u s p d=>?_) ⟨?_,Rl.Kw B.2 (Lt k4.2)⟩ fun u v hu hv=>?_
            · have e1:=(Rl.yZ d p.2).1 p.1
              exact ⟨Rl.jR Rl.Fv e1,by rw [Rl.zero_add]; exact d.2.1⟩
            · have:=A.1
              rwa [k4.1,Rl.Fy] at this
            · have c1 : u < Rl.q 0:=by
                rcases hu with rfl | rfl
                · exact Lt (by omega)
                · exact Lt k4.2
              have c2 : Rl.q 0 ≤ v:=by
                rw [← Rl.Fy]
                rcases hv with rfl | rfl
                · exact Rl.Df.2 (by omega)
                · exact Rl.Df.2 (by omega)
              exact ⟨⟨c2,c1⟩,.inr (.inl c1)⟩
theorem Aay {a b c r : Int} {x y z n : Rl.R} (hr : r * r ≤ a * a + b * b + c * c) (hn : Rl.q 0 ≤ n) (e : n * n = x * x + y * y + z * z) (ha : 0 ≤ a) (hb : 0 ≤ b) (hc : 0 ≤ c) (h1 : Rl.fx a ≤ x) (h2 : Rl.fx b ≤ y) (h3 : Rl.fx c ≤ z) : Rl.fx r ≤ n:=by
  have nn : ∀ {a : Int},0 ≤ a → Rl.q 0 ≤ Rl.fx a:=fun h=>by rw [← Rl.Fy]; exact Rl.Df.2 h
  have sq : ∀ {a : Int} {x : Rl.R},0 ≤ a → Rl.fx a ≤ x → Rl.fx a * Rl.fx a ≤ x * x:=fun ha h=>Rl.le_trans (Rl.Ba h (nn ha)) (Rl.B6 h (Rl.le_trans (nn ha) h))
  refine Rl.Hg ?_ hn
  rw [e]
  refine Rl.le_trans ?_ (Rl.Bc (Rl.Bc (sq ha h1) (sq hb h2)) (sq hc h3))
  rw [Rl.Ld,Rl.Ld,Rl.Ld,Rl.Ld,← Rl.L3,← Rl.L3]
  refine Rl.Dd.2 ?_
  have:=Rl.E3 hr
  push_cast at this
  grind
theorem Aaz {a b c r : Int} {x y z n : Rl.R} (hr : a * a + b * b + c * c ≤ r * r) (h0 : 0 ≤ r) (e : n * n = x * x + y * y + z * z) (hx : Rl.q 0 ≤ x) (hy : Rl.q 0 ≤ y) (hz : Rl.q 0 ≤ z) (h1 : x ≤ Rl.fx a) (h2 : y ≤ Rl.fx b) (h3 : z ≤ Rl.fx c) : n ≤ Rl.fx r:=by
  have nn : Rl.q 0 ≤ Rl.fx r:=by rw [← Rl.Fy]; exact Rl.Df.2 h0
  have sq : ∀ {a : Int} {x : Rl.R},Rl.q 0 ≤ x → x ≤ Rl.fx a → x * x ≤ Rl.fx a * Rl.fx a:=fun hx h=>Rl.le_trans (Rl.Ba h hx) (Rl.B6 h (Rl.le_trans hx h))
  refine Rl.Hg ?_ nn
  rw [e]
  refine Rl.le_trans (Rl.Bc (Rl.Bc (sq hx h1) (sq hy h2)) (sq hz h3)) ?_
  rw [Rl.Ld,Rl.Ld,Rl.Ld,Rl.Ld,← Rl.L3,← Rl.L3]
  refine Rl.Dd.2 ?_
  have:=Rl.E3 hr
  push_cast at this
  grind
theorem dV {x y : Rl.R} (h : y = x ∨ y = -x) : y * y = x * x:=by
  rcases h with h | h
  · rw [h]
  · rw [h,Rl.neg_mul,Rl.mul_neg,Rl.neg_neg]
theorem Ai6 {v : Vc} {x y z n : Rl.R} (hx : Tr v.x x) (hy : Tr v.y y) (hz : Tr v.z z) (hn : Rl.q 0 ≤ n) (e : n * n = x * x + y * y + z * z) : Tr (W1 v) n:=by
  unfold W1 Dt Cr Vr
  simp only [Ag]
  cases ox : Am v.x with
  | false=>simp only [Bool.not_false,Ai]; exact Jf _
  | true=>
  cases oy : Am v.y with
  | false=>simp only [Bool.not_false,Bool.not_true,Ai,Ae]; exact Jf _
  | true=>
  cases oz : Am v.z with
  | false=>simp only [Bool.not_false,Bool.not_true,Ai,Ae]; exact Jf _
  | true=>
    simp only [Bool.not_true,Ae,R0 ox,R0 oy,R0 oz]
    obtain ⟨x1,x2,x3⟩:=Rx ox
    obtain ⟨y1,y2,y3⟩:=Rx oy
    obtain ⟨z1,z2,z3⟩:=Rx oz
    obtain ⟨ax,ax0,eax⟩:=pW x
    obtain ⟨ay,ay0,eay⟩:=pW y
    obtain ⟨az,az0,eaz⟩:=pW z
    have bnd : ∀ {a : Iv} {x ax : Rl.R},Tr a x → Rl.q 0 ≤ ax → (ax = x ∨ ax = -x) → Am a = true → Rl.In (B9 a).1.val (B9 a).2.val ax:=fun {a x ax} h h0 ea o=>by
      have:=Acl h h0 ea
      rw [R0 o] at this
      obtain ⟨p1,p2,p3⟩:=Rx o
      exact this (I7 (by show -1152921504606846976 < (B9 a).1.val ∧ (B9 a).1.val ≤ (B9 a).2.val ∧ (B9 a).2.val < 1152921504606846976; omega))
    have bx:=bnd hx ax0 eax ox
    have by_:=bnd hy ay0 eay oy
    have bz:=bnd hz az0 eaz oz
    rw [← dV eax,← dV eay,← dV eaz] at e
    generalize B9 v.x = X at *
    generalize B9 v.y = Y at *
    generalize B9 v.z = Z at *
    obtain ⟨a1,a2,_,_,a5⟩:=gT X.1 Y.1 Z.1 (by omega) (by omega) (by omega)
    obtain ⟨b1,b2,_,_,b5⟩:=gT X.2 Y.2 Z.2 (by omega) (by omega) (by omega)
    obtain ⟨r1,r2⟩:=Yl _ a2
    obtain ⟨s1,s2⟩:=Yl _ b2
    have r0 : 0 ≤ (Cc (E8 X.1 Y.1 Z.1)).val:=(Cc (E8 X.1 Y.1 Z.1)).lo
    have s0 : 0 ≤ (Cc (E8 X.2 Y.2 Z.2)).val:=(Cc (E8 X.2 Y.2 Z.2)).lo
    have ru : (Cc (E8 X.1 Y.1 Z.1)).val < 2305843009213693952:=by
      refine xP r0 (by decide) ?_
      omega
    have su : (Cc (E8 X.2 Y.2 Z.2)).val < 2305843009213693952:=by
      refine xP s0 (by decide) ?_
      omega
    generalize Cc (E8 X.1 Y.1 Z.1) = r at *
    generalize Cc (E8 X.2 Y.2 Z.2) = s at *
    generalize E8 X.1 Y.1 Z.1 = S1 at *
    generalize E8 X.2 Y.2 Z.2 = S2 at *
    have er : (An r.val).val = r.val:=by rw [Ad]; omega
    have e2 : (An s.val).val = s.val:=by rw [Ad]; omega
    have e3 : (An ((An s.val).val + 1)).val = s.val + 1:=by rw [Ad]; omega
    have low : Rl.fx r.val ≤ n:=Aay (by rw [← a1]; exact r1) hn e x1 y1 z1 bx.1 by_.1 bz.1
    have up : ∀ m : Int,0 ≤ m → S2.z ≤ m * m → n ≤ Rl.fx m:=fun m h0 h=>Aaz (by rw [← b1]; exact h) h0 e ax0 ay0 az0 bx.2 by_.2 bz.2
    have mz:=Jh (An s.val) (An s.val)
    rw [e2] at mz
    generalize A3 (An s.val) (An s.val) = M at *
    cases hb : (M.hi.val == S2.hi.val && M.lo.val == S2.lo.val) with
    | true=>
      simp only [Bool.not_true,Ae]
      cases decide ((An s.val).val ≥ 1152921504606846976) with
      | true=>rw [Ai]; exact Jf _
      | false=>
        rw [Ae]
        simp only [Bool.and_eq_true,beq_iff_eq] at hb
        have ez : M.z = S2.z:=by
          show M.hi.val * 18446744073709551616 + M.lo.val = S2.hi.val * 18446744073709551616 + S2.lo.val
          rw [hb.1,hb.2]
        exact fun _=>⟨by show Rl.fx (An r.val).val ≤ n; rw [er]; exact low,by show n ≤ Rl.fx (An s.val).val; rw [e2]; exact up _ s0 (by omega)⟩
    | false=>
      simp only [Bool.not_false,Ai]
      cases decide ((An ((An s.val).val + 1)).val ≥ 1152921504606846976) with
      | true=>rw [Ai]; exact Jf _
      | false=>
        rw [Ae]
        exact fun _=>⟨by show Rl.fx (An r.val).val ≤ n; rw [er]; exact low,by show n ≤ Rl.fx (An ((An s.val).val + 1)).val; rw [e3]; exact up _ (by omega) (by omega)⟩
theorem Akn {a b : Vc} {a1 a2 a3 b1 b2 b3 : Rl.R} (h1 : Tr a.x a1) (h2 : Tr a.y a2) (h3 : Tr a.z a3) (k1 : Tr b.x b1) (k2 : Tr b.y b2) (k3 : Tr b.z b3) : Tr (l8 a b) (a1 * b1 + a2 * b2 + a3 * b3):=by
  unfold l8
  simp only [Ag]
  exact Kp (Kp (Fk h1 k1) (Fk h2 k2)) (Fk h3 k3)
theorem Agi {a b : Vc} {a1 a2 a3 b1 b2 b3 : Rl.R} (h1 : Tr a.x a1) (h2 : Tr a.y a2) (h3 : Tr a.z a3) (k1 : Tr b.x b1) (k2 : Tr b.y b2) (k3 : Tr b.z b3) : Tr (Tm a b).x (a2 * b3 - a3 * b2) ∧ Tr (Tm a b).y (a3 * b1 - a1 * b3) ∧ Tr (Tm a b).z (a1 * b2 - a2 * b1):=by
  unfold Tm
  simp only [Ag]
  exact ⟨Jg (Fk h2 k3) (Fk h3 k2),Jg (Fk h3 k1) (Fk h1 k3),Jg (Fk h1 k2) (Fk h2 k1)⟩
theorem Ac1 (u k : Int) : Rl.sn (rad (u + 3600000000 * k)) = Rl.sn (rad u) ∧ Rl.cn (rad (u + 3600000000 * k)) = Rl.cn (rad u):=by
  rw [bY,show (3600000000 * k : Int) = 4 * k * 900000000 by omega,vJ]
  exact Rl.per _ _
def lx (a b d : Rl.R) : Rl.R:=Rl.cn a * Rl.sn b - Rl.sn a * Rl.cn b * Rl.cn d
def ly (b d : Rl.R) : Rl.R:=Rl.cn b * Rl.sn d
def lz (a b d : Rl.R) : Rl.R:=Rl.sn a * Rl.sn b + Rl.cn a * Rl.cn b * Rl.cn d
theorem w7 (a b d : Rl.R) : lx a b d * lx a b d + ly b d * ly b d + lz a b d * lz a b d = Rl.q 1:=by
  have e : lx a b d * lx a b d + ly b d * ly b d + lz a b d * lz a b d = (Rl.cn a * Rl.cn a + Rl.sn a * Rl.sn a) * (Rl.sn b * Rl.sn b + Rl.cn b * Rl.cn b * (Rl.cn d * Rl.cn d)) + Rl.cn b * Rl.cn b * (Rl.sn d * Rl.sn d):=by
    unfold lx ly lz
    exact Rl.Aea (P:=fun A B C D E F=>(A * D - B * C * E) * (A * D - B * C * E) + C * F * (C * F) + (B * D + A * C * E) * (B * D + A * C * E) = (A * A + B * B) * (D * D + C * C * (E * E)) + C * C * (F * F)) (fun A B C D E F=>Rl.pt fun n=>by simp only [Rl.Cu,Rl.C1,Rl.Ct]; grind) (Rl.cn a) (Rl.sn a) (Rl.cn b) (Rl.sn b) (Rl.cn d) (Rl.sn d)
  rw [e,Rl.Xw a,Rl.one_mul,Rl.add_assoc,← Rl.mul_add,Rl.Xw d,Rl.mul_one,Rl.add_comm,Rl.Xw b]
theorem Adx {p q : Int} {w : Int} {j : Int} (e : w = q - p + 3600000000 * j) : Rl.sn (rad w) = Rl.sn (rad q - rad p) ∧ Rl.cn (rad w) = Rl.cn (rad q - rad p):=by
  have : rad q - rad p = rad (q - p):=by rw [Int.sub_eq_add_neg,bY,xV,Rl.Ev]
  rw [e,this]
  exact Ac1 _ _
theorem Ah8 (p : Pt) : Tr (Lm p).x (Rl.cn (rad p.lat.val) * Rl.cn (rad p.lon.val)) ∧ Tr (Lm p).y (Rl.cn (rad p.lat.val) * Rl.sn (rad p.lon.val)) ∧ Tr (Lm p).z (Rl.sn (rad p.lat.val)):=by
  unfold Lm
  simp only [Ag]
  exact ⟨Fk (Pr (J4 _)) (Pr (J4 _)),Fk (Pr (J4 _)) (Xe (J4 _)),Xe (J4 _)⟩
theorem qE (a t : Rl.R) : Rl.cn a * Rl.cn t * (Rl.cn a * Rl.cn t) + Rl.cn a * Rl.sn t * (Rl.cn a * Rl.sn t) + Rl.sn a * Rl.sn a = Rl.q 1:=by
  have : Rl.cn a * Rl.cn t * (Rl.cn a * Rl.cn t) + Rl.cn a * Rl.sn t * (Rl.cn a * Rl.sn t) + Rl.sn a * Rl.sn a = Rl.cn a * Rl.cn a * (Rl.cn t * Rl.cn t + Rl.sn t * Rl.sn t) + Rl.sn a * Rl.sn a:=Rl.Mv (P:=fun A B C D=>A * C * (A * C) + A * D * (A * D) + B * B = A * A * (C * C + D * D) + B * B) (fun A B C D=>Rl.pt fun n=>by simp only [Rl.Cu,Rl.Ct]; grind) (Rl.cn a) (Rl.sn a) (Rl.cn t) (Rl.sn t)
  rw [this,Rl.Xw,Rl.mul_one,Rl.Xw]
theorem Aav (a b c x y z : Rl.R) : (b * z - c * y) * (b * z - c * y) + (c * x - a * z) * (c * x - a * z) + (a * y - b * x) * (a * y - b * x) = (a * a + b * b + c * c) * (x * x + y * y + z * z) - (a * x + b * y + c * z) * (a * x + b * y + c * z):=
  Rl.Aea (P:=fun a b c x y z=>(b * z - c * y) * (b * z - c * y) + (c * x - a * z) * (c * x - a * z) + (a * y - b * x) * (a * y - b * x) = (a * a + b * b + c * c) * (x * x + y * y + z * z) - (a * x + b * y + c * z) * (a * x + b * y + c * z)) (fun A B C D E F=>Rl.pt fun n=>by simp only [Rl.Cu,Rl.C1,Rl.Ct]; grind) a b c x y z
theorem Agk {p q : Pt} {w j : Int} (hw : w = q.lon.val - p.lon.val + 3600000000 * j) {n t : Rl.R} (hn : Rl.q 0 ≤ n) (en : n * n + lz (rad p.lat.val) (rad q.lat.val) (rad w) * lz (rad p.lat.val) (rad q.lat.val) (rad w) = Rl.q 1)
    (ht : Rl.uO n (lz (rad p.lat.val) (rad q.lat.val) (rad w)) t) : Tr (Tl (Lm p) (Lm q)) t:=by
  unfold Tl
  simp only [Ag]
  obtain ⟨a1,a2,a3⟩:=Ah8 p
  obtain ⟨b1,b2,b3⟩:=Ah8 q
  obtain ⟨c1,c2,c3⟩:=Agi a1 a2 a3 b1 b2 b3
  have D:=Akn a1 a2 a3 b1 b2 b3
  have ed : Rl.cn (rad p.lat.val) * Rl.cn (rad p.lon.val) * (Rl.cn (rad q.lat.val) * Rl.cn (rad q.lon.val)) + Rl.cn (rad p.lat.val) * Rl.sn (rad p.lon.val) * (Rl.cn (rad q.lat.val) * Rl.sn (rad q.lon.val)) + Rl.sn (rad p.lat.val) * Rl.sn (rad q.lat.val) = lz (rad p.lat.val) (rad q.lat.val) (rad w):=by
    unfold lz
    rw [(Adx hw).2,Rl.wR]
    exact (Rl.Mv (P:=fun A B C D=>∀ E F G H : Rl.R,A * C * (B * D) + A * E * (B * F) + G * H = G * H + A * B * (D * C + F * E)) (fun A B C D=>Rl.Mv fun E F G H=>Rl.pt fun n=>by simp only [Rl.Cu,Rl.Ct]; grind) (Rl.cn (rad p.lat.val)) (Rl.cn (rad q.lat.val)) (Rl.cn (rad p.lon.val)) (Rl.cn (rad q.lon.val))) (Rl.sn (rad p.lon.val)) (Rl.sn (rad q.lon.val)) (Rl.sn (rad p.lat.val)) (Rl.sn (rad q.lat.val))
  have N:=Ai6 c1 c2 c3 hn (by
    rw [Aav,qE,qE,ed,Rl.one_mul]
    have:=congrArg (fun z=>z - lz (rad p.lat.val) (rad q.lat.val) (rad w) * lz (rad p.lat.val) (rad q.lat.val) (rad w)) en
    simpa only [Rl.add_sub_cancel] using this)
  rw [ed] at D
  exact Ako N D ht
theorem Aet {y x t : Rl.R} (h : Rl.uO y x t) {n : Rl.R} (hn : Rl.q 0 ≤ n) (e : n * n = x * x + y * y) : y = n * Rl.sn t ∧ x = n * Rl.cn t:=by
  obtain ⟨_,_,r,hr,ey,ex⟩:=h
  have : r = n:=Rl.qS (Rl.le_of_lt hr) hn (by
    rw [e,ey,ex]
    have e2 : r * Rl.cn t * (r * Rl.cn t) + r * Rl.sn t * (r * Rl.sn t) = r * r * (Rl.cn t * Rl.cn t + Rl.sn t * Rl.sn t):=Rl.Mw (P:=fun c a b=>c * a * (c * a) + c * b * (c * b) = c * c * (a * a + b * b)) (fun c a b=>Rl.pt fun n=>by simp only [Rl.Cu,Rl.Ct]; grind) r (Rl.cn t) (Rl.sn t)
    rw [e2,Rl.Xw,Rl.mul_one])
  rw [← this]
  exact ⟨ey,ex⟩
end Go.Proofs.YtfhnlkinjbakgaaGreat.Abs
