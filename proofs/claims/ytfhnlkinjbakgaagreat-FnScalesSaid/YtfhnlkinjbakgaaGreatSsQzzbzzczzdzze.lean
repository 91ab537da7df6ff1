/- Plain laws of the functions on numbers: what the program computes is what the reference computes. -/
import Derived.Test.YtfhnlkinjbakgaaGreatSsReal
import Derived.Test.YtfhnlkinjbakgaaGreatSsQzxzyzzzza
import Derived.Test.YtfhnlkinjbakgaaGreatSsFx
set_option linter.unusedVariables false
set_option linter.unusedSimpArgs false
namespace Go.Proofs.YtfhnlkinjbakgaaGreat.Abs
open Go
def Gs (k : Int) (H K : Iv) : Prop:=((k = 2 ∨ k = 6 ∨ k = 11 ∨ k = 16) → H = K) ∧ ((k = 3 ∨ k = 9 ∨ k = 10) → ∃ h t,Tr H h ∧ Tr K t ∧ h * t = Rl.q 1) ∧ (H = K ∨ ∃ h t,Tr H h ∧ Tr K t ∧ Rl.q 0 ≤ h ∧ Rl.q 0 ≤ t)
def Abu (k : Int) (z : Iv × Iv × Aq) : Prop:=(z.2.2.val = 8 ∨ z.2.2.val = 9) ∨ (z.2.2.val = 0 ∧ Am z.1 = true ∧ Am z.2.1 = true ∧ Gs k z.1 z.2.1)
theorem Ps {k : Int} {H K : Iv} (g : Am H = true → Am K = true → Gs k H K) : Abu k (C8 H K):=by
  unfold C8
  simp only [Ag]
  cases h1 : Am H with
  | false=>exact .inl (.inr (A8 _ _))
  | true=>
    cases h2 : Am K with
    | false=>exact .inl (.inr (A8 _ _))
    | true=>exact .inr ⟨A8 _ _,h1,h2,g h1 h2⟩
theorem gN {k : Int} (hk : k = 2 ∨ k = 6 ∨ k = 11 ∨ k = 16) (H : Iv) : Gs k H H:=⟨fun _=>rfl,fun c=>absurd c (by omega),.inl rfl⟩
theorem pF {k : Int} {H K : Iv} {h t : Rl.R} (hk : k = 3 ∨ k = 9 ∨ k = 10) (hH : Tr H h) (hK : Tr K t) (e : h * t = Rl.q 1) (t0 : Rl.q 0 < t) : Gs k H K:=
  ⟨fun c=>absurd c (by omega),fun _=>⟨h,t,hH,hK,e⟩,.inr ⟨h,t,hH,hK,Lr e t0 (Rl.Dd.2 (by decide)),Rl.le_of_lt t0⟩⟩
theorem aT {k : Int} {H K : Iv} {h t : Rl.R} (hk : k = 1 ∨ k = 4 ∨ k = 5 ∨ k = 7 ∨ k = 8 ∨ k = 12) (hH : Tr H h) (hK : Tr K t) (h0 : Rl.q 0 ≤ h) (t0 : Rl.q 0 ≤ t) : Gs k H K:=
  ⟨fun c=>absurd c (by omega),fun c=>absurd c (by omega),.inr ⟨h,t,hH,hK,h0,t0⟩⟩
theorem Aj9 {a b : Iv} {y : Rl.R} (o : Am (A4 a b) = true) (hb : Tr b y) : y < Rl.q 0 ∨ Rl.q 0 < y:=by
  obtain ⟨_,ob,s,_⟩:=lF o
  have B:=hb ob
  rcases s with s | s
  · exact .inr (Rl.lt_of_lt_of_le (Rl.Ol s) B.1)
  · exact .inl (Rl.Kw B.2 (Lt s))
theorem gV {a b : Iv} {y : Rl.R} (o : Am (A4 a b) = true) (hb : Tr b y) (h : Rl.q 0 ≤ y) : Rl.q 0 < y:=by
  rcases Aj9 o hb with c | c
  · exact absurd h c
  · exact c
theorem Abq {p : Pj} (h : A7 p = true) : -890000000 ≤ p.lat1.val ∧ p.lat1.val ≤ 890000000:=by
  unfold A7 Hc G2 at h
  simp only [Ag,Gk,A8] at h
  cases h1 : B4 (⟨p.lat0,p.lon0⟩ : Pt) with
  | false=>rw [h1] at h; simp only [Bool.not_false,Ai] at h; cases h
  | true=>
    rw [h1] at h
    simp only [Bool.not_true,Ae] at h
    cases h2 : (decide (-890000000 ≤ p.lat1.val) && decide (p.lat1.val ≤ 890000000)) with
    | false=>rw [h2] at h; simp only [Bool.not_false,Ai] at h; cases h
    | true=>
      simp only [Bool.and_eq_true,decide_eq_true_eq] at h2
      exact h2
theorem jY (k : Aq) (a b : Int) {ha hb} (h : a ≤ k.val ∧ k.val ≤ b) : Bz k (Ah a ha) (Ah b hb) = true:=by
  rw [Gk,A8,A8,decide_eq_true h.1,decide_eq_true h.2]; rfl
theorem Z4 (k : Aq) (a b : Int) {ha hb} (h : k.val < a ∨ b < k.val) : Bz k (Ah a ha) (Ah b hb) = false:=by
  rw [Gk,A8,A8]
  simp only [Bool.and_eq_false_iff,decide_eq_false_iff_not]
  omega
theorem F1 {k : Aq} {n : Int} (h : k.val ≠ n) : (k.val == n) = false:=by simp only [beq_eq_false_iff_ne,ne_eq]; exact h
theorem Pm {k : Aq} {n : Int} (h : k.val = n) : (k.val == n) = true:=by rw [h]; exact beq_self_eq_true _
theorem Aka {p : Pj} {q : Pt} (hp : A7 p = true) (hq : B4 q = true) (hk : 1 ≤ p.kind.val ∧ p.kind.val ≤ 4) : Abu p.kind.val (Hy p q):=by
  obtain ⟨s1,s2⟩:=Abq hp
  obtain ⟨a1,a2⟩:=O1 (u:=p.lat1.val) (by omega) (by omega)
  have cp:=Rl.Hx a1 a2
  have hv : Hc p = true:=by unfold A7 at hp; rwa [Ag] at hp
  have i : Bz p.kind (Ah 1) (Ah 4) = true:=jY _ _ _ hk
  unfold Hy U3
  simp only [Ag,hv,i,hq,Ai,Bool.not_true,Ae]
  cases ho : Lv q with
  | true=>exact .inl (.inl (A8 _ _))
  | false=>
    obtain ⟨x1,x2⟩:=sA hq ho
    have dp:=Rl.Hx x1 x2
    have C:=Pr (J4 p.lat1)
    have L:=Acg hq
    have D:=Pr L
    simp only [Ae]
    obtain ⟨t,et⟩:=Ns (x:=Rl.cn (rad p.lat1.val)) dp
    obtain ⟨u,eu⟩:=Ns (x:=Rl.cn (rad q.lat.val)) cp
    obtain ⟨v,ev⟩:=Ns (x:=Rl.q 1) dp
    have one : Rl.q 0 ≤ Rl.q 1:=Rl.Dd.2 (by decide)
    rcases (show p.kind.val = 1 ∨ p.kind.val = 2 ∨ p.kind.val = 3 ∨ p.kind.val = 4 by omega) with k | k | k | k
    · rw [Pm k,Ai]
      exact Ps fun _ _=>aT (.inl k) Ks (Ig C D et) one (Lr et dp (Rl.le_of_lt cp))
    · rw [F1 (n:=1) (by omega),Ae,Pm k,Ai]
      exact Ps fun _ _=>gN (.inl k) _
    · rw [F1 (n:=1) (by omega),Ae,F1 (n:=2) (by omega),Ae,Pm k,Ai]
      refine Ps fun o1 o2=>pF (.inl k) (Ig D C eu) (Ig C D et) ?_ ?_
      · refine Rl.Kz (z:=Rl.cn (rad p.lat1.val) * Rl.cn (rad q.lat.val)) ?_ (Rl.mul_pos cp dp)
        have : u * t * (Rl.cn (rad p.lat1.val) * Rl.cn (rad q.lat.val)) = (u * Rl.cn (rad p.lat1.val)) * (t * Rl.cn (rad q.lat.val)):=(Rl.Mv (P:=fun u t c d=>u * t * (c * d) = (u * c) * (t * d)) (fun u t c d=>Rl.pt fun n__=>by simp only [Rl.Cu,Rl.C1,Rl.C4,Rl.Ct,Rl.Jx]; grind) u t (Rl.cn (rad p.lat1.val)) (Rl.cn (rad q.lat.val)))
        rw [this,eu,et,Rl.one_mul,Rl.mul_comm]
      · exact Rl.Oi (y:=Rl.cn (rad q.lat.val)) (by rw [et]; exact cp) (Rl.le_of_lt dp)
    · rw [F1 (n:=1) (by omega),Ae,F1 (n:=2) (by omega),Ae,F1 (n:=3) (by omega),Ae]
      have Q : Tr (C9 (Ah 4) (Ah 5)) (Rl.q (4/5)):=Acf (by decide) (by decide) (by rw [A8,A8,← Rl.Ez]; congr 1; decide +kernel)
      generalize C9 (Ah 4) (Ah 5) = Q45 at *
      have M:=Pr (Fk Q L)
      have hp0:=Rl.le_of_lt Rl.Fv
      have M0:=Rl.z6 (x:=Rl.q (4/5) * rad q.lat.val) (Rl.Gw (P:=fun x h=>-h ≤ x → Rl.q 0 ≤ h → -h ≤ Rl.q (4/5) * x) (fun x h k0__ k1__=>Rl.Xk k0__ k1__ fun n__ e__ he__ p0__ p1__=>by simp only [Rl.Cu,Rl.C1,Rl.C4,Rl.Ct,Rl.Jx] at *; grind) (rad q.lat.val) Rl.hp (Rl.le_of_lt x1) hp0) (Rl.Gw (P:=fun x h=>x ≤ h → Rl.q 0 ≤ h → Rl.q (4/5) * x ≤ h) (fun x h k0__ k1__=>Rl.Xk k0__ k1__ fun n__ e__ he__ p0__ p1__=>by simp only [Rl.Cu,Rl.C1,Rl.C4,Rl.Ct,Rl.Jx] at *; grind) (rad q.lat.val) Rl.hp (Rl.le_of_lt x2) hp0)
      refine Ps fun o1 o2=>?_
      have M1:=gV o1 M M0
      obtain ⟨y,ey⟩:=Ns (x:=Rl.q 1) M1
      exact aT (.inr (.inl k)) (Ig Ks M ey) (Ig Ks D ev) (Lr ey M1 one) (Lr ev dp one)
theorem Akb {p : Pj} {q : Pt} (h : M2 p = true) (hq : B4 q = true) : Abu p.kind.val (Km p q):=by
  obtain ⟨k3,hp,_⟩:=V3 h
  obtain ⟨n,g,TN,TG,nf,H⟩:=Ah5 h
  have one : Rl.q 0 ≤ Rl.q 1:=Rl.Dd.2 (by decide)
  unfold Km
  simp only [Ag,h,hq,Bool.not_true,Ae]
  cases ho : Lv q with
  | true=>exact .inl (.inl (A8 _ _))
  | false=>
    obtain ⟨x1,x2⟩:=sA hq ho
    have dp:=Rl.Hx x1 x2
    obtain ⟨r,r0,_,_,HR⟩:=H _ (Rl.le_of_lt x1) (Rl.le_of_lt x2) fun _=>⟨x1,x2⟩
    have L:=Acg hq
    obtain ⟨t,et⟩:=Ns (x:=n * r) dp
    have t0:=Lr et dp r0
    have K : Tr (Tk p (Rb q)) t:=by
      unfold Tk
      simp only [Ag]
      exact Ig (Fk TN ((HR _ _ TN TG).1 _ L)) (Pr L) et
    simp only [Ae]
    rcases k3 with k | k | k
    · rw [Pm k,Ai]
      refine Ps fun o1 o2=>?_
      have t1:=gV o1 K t0
      obtain ⟨y,ey⟩:=Ns (x:=Rl.q 1) t1
      exact pF (.inr (.inr k)) (Ig Ks K ey) K ey t1
    · rw [F1 (n:=10) (by omega),Ae,Pm k,Ai]
      exact Ps fun _ _=>gN (.inr (.inr (.inl k))) _
    · rw [F1 (n:=10) (by omega),Ae,F1 (n:=11) (by omega),Ae]
      exact Ps fun _ _=>aT (.inr (.inr (.inr (.inr (.inr k))))) Ks K one t0
theorem Ahz : Am (Ao (Ah 0)) = true ∧ (Ao (Ah 0)).lo.val = 0 ∧ (Ao (Ah 0)).hi.val = 0:=by decide
theorem gX {z : Iv} : Dt z = !Am z:=by unfold Dt; rfl
theorem Ali {p : Pj} {q : Pt} (hp : A7 p = true) (hq : B4 q = true) (hk : 5 ≤ p.kind.val ∧ p.kind.val ≤ 9) {Z : Rl.R} (hZ : Tr (Ex p q).z Z) (hG : Gd (Ex p q).z) :
    (Da p q).2.val = 8 ∨ (Da p q).2.val = 9 ∨ ((Da p q).2.val = 0 ∧ (p.kind.val = 5 → Rl.q 0 < Z) ∧ (p.kind.val = 7 → Rl.q 0 ≤ Z)):=by
  have h18 : Gg p = true:=by
    unfold Gg Vq
    simp only [Ag,jY p.kind 5 9 hk,Ai]
    exact hp
  unfold Da
  simp only [Ag,h18,hq,Bool.not_true,Ae]
  generalize Ex p q = v at *
  cases (Rn q (⟨An (0 - p.lat0.val),D4 (An (p.lon0.val + 1800000000))⟩ : Pt)).1 with
  | true=>exact .inl (A8 _ _)
  | false=>
    simp only [Ae]
    have tail : ∀ k : Iv,(Am (Ay k v.x) = true → (p.kind.val = 5 → Rl.q 0 < Z) ∧ (p.kind.val = 7 → Rl.q 0 ≤ Z)) → ∀ z : Pn × Aq,
        z = (bif (Ah 0).val != 0 then ((⟨(⟨Ah 0,Ah 0⟩ : Iv),(⟨Ah 0,Ah 0⟩ : Iv)⟩ : Pn),Ah 0) else bif Dt (Ay k v.x) then ((⟨(⟨Ah 0,Ah 0⟩ : Iv),(⟨Ah 0,Ah 0⟩ : Iv)⟩ : Pn),Ah 9) else bif Dt (Ay k v.y) then ((⟨(⟨Ah 0,Ah 0⟩ : Iv),(⟨Ah 0,Ah 0⟩ : Iv)⟩ : Pn),Ah 9) else ((⟨Ay k v.x,Ay k v.y⟩ : Pn),Ah 0)) →
        z.2.val = 8 ∨ z.2.val = 9 ∨ (z.2.val = 0 ∧ (p.kind.val = 5 → Rl.q 0 < Z) ∧ (p.kind.val = 7 → Rl.q 0 ≤ Z)):=fun k hk z hz=>by
      rw [hz,gX,gX,show ((Ah 0).val != 0) = false from by decide,Ae]
      cases h1 : Am (Ay k v.x) with
      | false=>exact .inr (.inl (A8 _ _))
      | true=>
        cases h2 : Am (Ay k v.y) with
        | false=>exact .inr (.inl (A8 _ _))
        | true=>exact .inr (.inr ⟨A8 _ _,hk h1⟩)
    have dom : ((bif (Ah 8).val != 0 then ((⟨(⟨Ah 0,Ah 0⟩ : Iv),(⟨Ah 0,Ah 0⟩ : Iv)⟩ : Pn),Ah 8) else bif Dt (Ay (⟨Ah 0,Ah 0⟩ : Iv) v.x) then ((⟨(⟨Ah 0,Ah 0⟩ : Iv),(⟨Ah 0,Ah 0⟩ : Iv)⟩ : Pn),Ah 9) else bif Dt (Ay (⟨Ah 0,Ah 0⟩ : Iv) v.y) then ((⟨(⟨Ah 0,Ah 0⟩ : Iv),(⟨Ah 0,Ah 0⟩ : Iv)⟩ : Pn),Ah 9) else ((⟨Ay (⟨Ah 0,Ah 0⟩ : Iv) v.x,Ay (⟨Ah 0,Ah 0⟩ : Iv) v.y⟩ : Pn),Ah 0)) : Pn × Aq).2.val = 8:=by
      rw [show ((Ah 8).val != 0) = true from by decide,Ai]; exact A8 _ _
    unfold Rk
    simp only [Ag]
    rcases (show p.kind.val = 5 ∨ p.kind.val = 6 ∨ p.kind.val = 7 ∨ p.kind.val = 8 ∨ p.kind.val = 9 by omega) with k | k | k | k | k
    · rw [Pm k,Ai]
      cases hl : ((Sf (Ao (Ah 0)) v.z).val == 0) with
      | true=>exact .inl dom
      | false=>
        refine tail (A4 (Ao (Ah 1)) v.z) (fun o=>⟨fun _=>?_,fun c=>absurd c (by omega)⟩) _ rfl
        obtain ⟨oD,_⟩:=l9 o
        obtain ⟨_,oz,s,_⟩:=lF oD
        rcases s with s | s
        · exact Rl.lt_of_lt_of_le (Rl.Ol s) (hZ oz).1
        · exfalso
          obtain ⟨z1,z2,z3⟩:=Ahz
          have pz:=Vu oz
          unfold Sf at hl
          simp only [Ag,z1,oz,z2,z3,Bool.not_true,Ae] at hl
          rw [decide_eq_false (show ¬ (0 : Int) < v.z.lo.val by omega),Ae,decide_eq_true (show (0 : Int) ≥ v.z.hi.val by omega),Ai,A8] at hl
          exact absurd hl (by decide)
    · rw [F1 (n:=5) (by omega),Ae,Pm k,Ai]
      exact tail (A4 (Ao (Ah 2)) (Bj (Ao (Ah 1)) v.z)) (fun o=>⟨fun c=>absurd c (by omega),fun c=>absurd c (by omega)⟩) _ rfl
    · rw [F1 (n:=5) (by omega),Ae,F1 (n:=6) (by omega),Ae,Pm k,Ai]
      cases hl : ((Sf v.z (Ao (Ah 0))).val == 1) with
      | true=>exact .inl dom
      | false=>
        simp only [Ae]
        by_cases hz : v.z.lo.val < 0
        · rw [decide_eq_true hz,Ai]
          refine tail Cr (fun o=>absurd (l9 o).1 ?_) _ rfl
          unfold Cr
          rw [Ag]; decide
        · rw [decide_eq_false hz,Ae]
          refine tail (Ao (Ah 1)) (fun o=>⟨fun c=>absurd c (by omega),fun _=>?_⟩) _ rfl
          rcases hG with o | o
          · exact Rl.le_trans (by rw [← Rl.Fy]; exact Rl.Df.2 (by omega)) (hZ o).1
          · rw [o] at hz; exact absurd hz (by decide)
    · rw [F1 (n:=5) (by omega),Ae,F1 (n:=6) (by omega),Ae,F1 (n:=7) (by omega),Ae,Pm k,Ai]
      cases decide ((M3 v).lo.val > 0) with
      | true=>exact tail (A4 (H3 (M3 v) v.z) (M3 v)) (fun o=>⟨fun c=>absurd c (by omega),fun c=>absurd c (by omega)⟩) _ rfl
      | false=>exact tail (Cm (Ao (Ah 1)) (A4 (Ao (Ah 1)) v.z)) (fun o=>⟨fun c=>absurd c (by omega),fun c=>absurd c (by omega)⟩) _ rfl
    · rw [F1 (n:=5) (by omega),Ae,F1 (n:=6) (by omega),Ae,F1 (n:=7) (by omega),Ae,F1 (n:=8) (by omega),Ae]
      exact tail (Jw (A4 (Ao (Ah 2)) (Bj (Ao (Ah 1)) v.z))) (fun o=>⟨fun c=>absurd c (by omega),fun c=>absurd c (by omega)⟩) _ rfl
theorem Akc {p : Pj} {q : Pt} (hp : A7 p = true) (hq : B4 q = true) (hk : 5 ≤ p.kind.val ∧ p.kind.val ≤ 9) : Abu p.kind.val (Jn p q):=by
  obtain ⟨b1,b2,b3,b4⟩:=eV hq
  obtain ⟨v1,v2,v3,v4⟩:=u6 hp
  have hc : B4 (⟨p.lat0,p.lon0⟩ : Pt) = true:=jW ⟨v3,v4,v1,v2⟩
  have wd : (An (q.lon.val - p.lon0.val)).val = q.lon.val - p.lon0.val:=by rw [Ad]; omega
  obtain ⟨j,j1,j2,ej⟩:=Abp (An (q.lon.val - p.lon0.val)) (by omega)
  rw [wd] at ej
  have TZ : Tr (Ex p q).z (lz (rad p.lat0.val) (rad q.lat.val) (rad (D4 (An (q.lon.val - p.lon0.val))).val)):=by
    unfold Ex lz
    simp only [Ag]
    exact Kp (Fk (Xe (J4 _)) (Xe (J4 _))) (Fk (Fk (Pr (J4 _)) (Pr (J4 _))) (Pr (J4 _)))
  have GZ : Gd (Ex p q).z:=by
    unfold Ex
    simp only [Ag]
    exact Ake _ _
  have AF:=Ali hp hq hk TZ GZ
  generalize D4 (An (q.lon.val - p.lon0.val)) = w at *
  have lu:=w7 (rad p.lat0.val) (rad q.lat.val) (rad w.val)
  obtain ⟨n,n0,en⟩:=Rl.V6 (x:=lx (rad p.lat0.val) (rad q.lat.val) (rad w.val) * lx (rad p.lat0.val) (rad q.lat.val) (rad w.val) + ly (rad q.lat.val) (rad w.val) * ly (rad q.lat.val) (rad w.val)) (Rl.Jm (Rl.D3 _) (Rl.D3 _))
  rw [← en] at lu
  obtain ⟨t,ht⟩:=Rl.Aew (y:=n) (x:=lz (rad p.lat0.val) (rad q.lat.val) (rad w.val)) (by rw [Rl.add_comm,lu]; exact Rl.Qb.2 (by decide))
  have A:=Agk (p:=(⟨p.lat0,p.lon0⟩ : Pt)) (q:=q) (w:=w.val) (j:=j) ej n0 lu ht
  have t0 : Rl.q 0 ≤ t:=(Rl.Zd ht).2.1 n0
  have t1 : t ≤ Rl.pi:=ht.2.1
  have one : Rl.q 0 ≤ Rl.q 1:=Rl.Dd.2 (by decide)
  have ez : Rl.cn t = lz (rad p.lat0.val) (rad q.lat.val) (rad w.val):=by
    have:=(Aet ht one (by rw [Rl.mul_one,Rl.add_comm]; exact lu.symm)).2
    rw [this,Rl.one_mul]
  rw [← ez] at AF
  unfold Jn F6 Jp
  simp only [Ag,hc,hq,Bool.not_true,Ae]
  generalize Tl (Lm (⟨p.lat0,p.lon0⟩ : Pt)) (Lm q) = c at *
  rcases AF with f | f | ⟨f0,f5,f7⟩
  · rw [show ((Da p q).2.val != 0) = true from by rw [f]; decide,Ai]; exact .inl (.inl f)
  · rw [show ((Da p q).2.val != 0) = true from by rw [f]; decide,Ai]; exact .inl (.inr f)
  · rw [show ((Da p q).2.val != 0) = false from by rw [f0]; decide,Ae]
    simp only [gX]
    cases oc : Am c with
    | false=>exact .inl (.inr (A8 _ _))
    | true=>
      simp only [Bool.not_true,Ae]
      rw [show ((Ah 0).val != 0) = false from by decide,Ae]
      have D:=Pr A
      have H:=uX A (Rl.Hr t)
      have E:=Pr H
      have y1 : Rl.q (1/2) * t ≤ Rl.hp:=(Rl.Gw (P:=fun t h=>t ≤ h + h → Rl.q (1/2) * t ≤ h) (fun t h k0__=>Rl.Xl k0__ fun n__ e__ he__ p0__=>by simp only [Rl.Cu,Rl.C1,Rl.C4,Rl.Ct,Rl.Jx] at *; grind) t Rl.hp t1)
      have y0 : -Rl.hp ≤ Rl.q (1/2) * t:=Rl.le_trans (Rl.Iu (Rl.le_of_lt Rl.Fv)) (Rl.Aha t0)
      have E0:=Rl.z6 y0 y1
      rcases (show p.kind.val = 5 ∨ p.kind.val = 6 ∨ p.kind.val = 7 ∨ p.kind.val = 8 ∨ p.kind.val = 9 by omega) with k | k | k | k | k
      · rw [Pm k,Ai]
        have Z:=f5 k
        obtain ⟨u,eu⟩:=Ns (x:=Rl.q 1) (Rl.mul_pos Z Z)
        obtain ⟨v,ev⟩:=Ns (x:=Rl.q 1) Z
        exact Ps fun _ _=>aT (.inr (.inr (.inl k))) (Ig Ks (bL D) eu) (Ig Ks D ev) (Lr eu (Rl.mul_pos Z Z) one) (Lr ev Z one)
      · rw [F1 (n:=5) (by omega),Ae,Pm k,Ai]
        exact Ps fun _ _=>gN (.inr (.inl k)) _
      · rw [F1 (n:=5) (by omega),Ae,F1 (n:=6) (by omega),Ae,Pm k,Ai]
        exact Ps fun _ _=>aT (.inr (.inr (.inr (.inl k)))) D Ks (f7 k) one
      · rw [F1 (n:=5) (by omega),Ae,F1 (n:=6) (by omega),Ae,F1 (n:=7) (by omega),Ae,Pm k,Ai]
        cases decide (c.lo.val > 0) with
        | true=>
          refine Ps fun _ o2=>?_
          have S0:=gV o2 (Xe A) (Rl.Aie t0 t1)
          obtain ⟨u,eu⟩:=Ns (x:=t) S0
          exact aT (.inr (.inr (.inr (.inr (.inl k))))) Ks (Ig A (Xe A) eu) one (Lr eu S0 t0)
        | false=>exact Ps fun _ _=>aT (.inr (.inr (.inr (.inr (.inl k))))) Ks (Ai7 Ks fun o=>(Ni o).2.1) one one
      · rw [F1 (n:=5) (by omega),Ae,F1 (n:=6) (by omega),Ae,F1 (n:=7) (by omega),Ae,F1 (n:=8) (by omega),Ae]
        refine Ps fun _ o2=>?_
        have E1:=gV o2 E E0
        obtain ⟨u,eu⟩:=Ns (x:=Rl.q 1) E1
        exact pF (.inr (.inl k)) E (Ig Ks E eu) (by rw [Rl.mul_comm]; exact eu) (Rl.Oi (y:=Rl.cn (Rl.q (1/2) * t)) (by rw [eu]; exact Rl.Qb.2 (by decide)) E0)
theorem Afg {p : Pj} {q : Pt} (hp : A7 p = true) (hq : B4 q = true) (hk : p.kind.val = 16) :
    Abu p.kind.val (bif (Bi p q).2.val != 0 then ((⟨Ah 0,Ah 0⟩ : Iv),(⟨Ah 0,Ah 0⟩ : Iv),(Bi p q).2) else C8 (Bi p q).1 (Bi p q).1):=by
  have code : (Bi p q).2.val = 0 ∨ (Bi p q).2.val = 8 ∨ (Bi p q).2.val = 9:=by
    have h21 : Hi p = true:=by
      unfold Hi
      simp only [Ag,Pm hk,Ai]
      exact hp
    unfold Bi Jp
    simp only [Ag,h21,hq,Bool.not_true,Ae]
    cases Jo p q with
    | true=>exact .inr (.inl (A8 _ _))
    | false=>
      simp only [Ae]
      cases Dt (A4 (Ao (Ah 1)) (Jw (Cw (Ao (Ah 1)) (I6 (Tj p q))))) with
      | true=>exact .inr (.inr (A8 _ _))
      | false=>exact .inl (A8 _ _)
  generalize Bi p q = r at *
  rcases code with c | c | c
  · rw [show (r.2.val != 0) = false from by rw [c]; decide,Ae]
    exact Ps fun _ _=>gN (.inr (.inr (.inr hk))) _
  · rw [show (r.2.val != 0) = true from by rw [c]; decide,Ai]
    exact .inl (.inl c)
  · rw [show (r.2.val != 0) = true from by rw [c]; decide,Ai]
    exact .inl (.inr c)
theorem yQ (k : Aq) : (1 ≤ k.val → k.val ≤ 4 → (Dw k).val = 1) ∧ (5 ≤ k.val → k.val ≤ 9 → (Dw k).val = 2) ∧ (10 ≤ k.val → k.val ≤ 12 → (Dw k).val = 3) ∧ (13 ≤ k.val → k.val ≤ 15 → (Dw k).val = 4) ∧ (k.val = 16 → (Dw k).val = 5):=by
  unfold Dw
  simp only [Ag]
  refine ⟨fun a b=>?_,fun a b=>?_,fun a b=>?_,fun a b=>?_,fun a=>?_⟩
  · rw [jY k 1 4 ⟨a,b⟩,Ai,A8]
  · rw [Z4 k 1 4 (by omega),Ae,jY k 5 9 ⟨a,b⟩,Ai,A8]
  · rw [Z4 k 1 4 (by omega),Ae,Z4 k 5 9 (by omega),Ae,jY k 10 12 ⟨a,b⟩,Ai,A8]
  · rw [Z4 k 1 4 (by omega),Ae,Z4 k 5 9 (by omega),Ae,Z4 k 10 12 (by omega),Ae,jY k 13 15 ⟨a,b⟩,Ai,A8]
  · rw [Z4 k 1 4 (by omega),Ae,Z4 k 5 9 (by omega),Ae,Z4 k 10 12 (by omega),Ae,Z4 k 13 15 (by omega),Ae,Pm a,Ai,A8]
theorem Ak8 {p : Pj} {q : Pt} (hp : A7 p = true) (hq : B4 q = true) (hk : 1 ≤ p.kind.val ∧ p.kind.val ≤ 16) :
    ((Dw p.kind).val = 4 ∧ (Cb p q).2.2.val = 3 ∧ 13 ≤ p.kind.val ∧ p.kind.val ≤ 15) ∨ ((Dw p.kind).val ≠ 4 ∧ Abu p.kind.val (Cb p q)):=by
  have hv : Hc p = true:=by unfold A7 at hp; rwa [Ag] at hp
  obtain ⟨g1,g2,g3,g4,g5⟩:=yQ p.kind
  unfold Cb
  simp only [Ag,hv,hq,Bool.not_true,Ae]
  rcases (show p.kind.val ≤ 4 ∨ (5 ≤ p.kind.val ∧ p.kind.val ≤ 9) ∨ (10 ≤ p.kind.val ∧ p.kind.val ≤ 12) ∨ (13 ≤ p.kind.val ∧ p.kind.val ≤ 15) ∨ p.kind.val = 16 by omega) with k | k | k | k | k
  · have f:=g1 hk.1 k
    refine .inr ⟨by omega,?_⟩
    rw [Pm f,Ai]
    exact Aka hp hq ⟨hk.1,k⟩
  · have f:=g2 k.1 k.2
    refine .inr ⟨by omega,?_⟩
    rw [F1 (n:=1) (by omega),Ae,Pm f,Ai]
    exact Akc hp hq k
  · have f:=g3 k.1 k.2
    refine .inr ⟨by omega,?_⟩
    rw [F1 (n:=1) (by omega),Ae,F1 (n:=2) (by omega),Ae,Pm f,Ai]
    refine Akb ?_ hq
    unfold M2
    simp only [Ag,jY p.kind 10 12 k,Ai]
    exact hv
  · have f:=g4 k.1 k.2
    refine .inl ⟨f,?_,k⟩
    rw [F1 (n:=1) (by omega),Ae,F1 (n:=2) (by omega),Ae,F1 (n:=3) (by omega),Ae,F1 (n:=5) (by omega),Ae]
    exact A8 _ _
  · have f:=g5 k
    refine .inr ⟨by omega,?_⟩
    rw [F1 (n:=1) (by omega),Ae,F1 (n:=2) (by omega),Ae,F1 (n:=3) (by omega),Ae,Pm f,Ai]
    exact Afg hp hq k
def dis (H K : Iv) : Iv:=Ay (Ao (Ah 2)) (Zj (A4 (Yk (Cw H K)) (Bj H K)))
theorem Aer (H : Iv) : Tr (dis H H) (Rl.q 0):=by
  have V : Tr H (Rl.fx H.lo.val):=fun o=>⟨Rl.le_refl _,Rl.Df.2 (Vu o).2.1⟩
  have S:=Jg V V
  rw [Rl.sub_self] at S
  have B:=Acl S (Rl.le_refl _) (.inl rfl)
  have D:=Ig B (Kp V V) (z:=Rl.q 0) (Rl.zero_mul _)
  have A:=Ack (t:=Rl.q 0) (by rw [Rl.Ih]; exact D) (Rl.Iu (Rl.le_of_lt Rl.Fv)) (Rl.le_of_lt Rl.Fv)
  have M:=Fk m9 A
  rwa [Rl.mul_zero] at M
theorem Ajy {H K : Iv} {h t : Rl.R} (hH : Tr H h) (hK : Tr K t) (h0 : Rl.q 0 ≤ h) (t0 : Rl.q 0 ≤ t) : ∃ a,Rl.q 0 ≤ a ∧ Tr (dis H K) a:=by
  obtain ⟨d,d0,ed⟩:=pW (h - t)
  have s0:=Rl.Jm h0 t0
  have dl : d ≤ h + t:=by
    rcases ed with e | e
    · rw [e]; exact (Rl.Gw (P:=fun h t=>Rl.q 0 ≤ t → h - t ≤ h + t) (fun h t k0__=>Rl.Xl k0__ fun n__ e__ he__ p0__=>by simp only [Rl.Cu,Rl.C1,Rl.C4,Rl.Ct,Rl.Jx] at *; grind) h t t0)
    · rw [e]; exact (Rl.Gw (P:=fun h t=>Rl.q 0 ≤ h → -(h - t) ≤ h + t) (fun h t k0__=>Rl.Xl k0__ fun n__ e__ he__ p0__=>by simp only [Rl.Cu,Rl.C1,Rl.C4,Rl.Ct,Rl.Jx] at *; grind) h t h0)
  obtain ⟨z,ez,z0,z1⟩ : ∃ z,z * (h + t) = d ∧ Rl.q 0 ≤ z ∧ z ≤ Rl.q 1:=by
    rcases Rl.Adw (Rl.q 0) (h + t) with c | c
    · obtain ⟨z,ez⟩:=Ns (x:=d) c
      exact ⟨z,ez,Lr ez c d0,Rl.Fa (z:=h + t) (by rw [ez,Rl.one_mul]; exact dl) c⟩
    · exact ⟨Rl.q 0,by rw [Rl.zero_mul]; exact Rl.Cs d0 (Rl.le_trans dl c),Rl.le_refl _,Rl.Dd.2 (by decide)⟩
  obtain ⟨a,a1,a2,ea⟩:=Rl.pV (s:=z) (Rl.le_trans (Rl.Dd.2 (by decide) : Rl.q (-1) ≤ Rl.q 0) z0) z1
  have hp0:=Rl.le_of_lt Rl.Fv
  have a0 : Rl.q 0 ≤ a:=(Rl.Qi (x:=Rl.q 0) (y:=a) (Rl.Iu hp0) a2 hp0 a1).1 (by rw [Rl.Ih,ea]; exact z0)
  refine ⟨Rl.q 2 * a,Rl.mul_nonneg (Rl.Dd.2 (by decide)) a0,?_⟩
  exact Fk m9 (Ack (by rw [ea]; exact Ig (Acl (Jg hH hK) d0 ed) (Kp hH hK) ez) a1 a2)
theorem Ahn (k : Aq) : (Al k = true ∧ (k.val = 2 ∨ k.val = 6 ∨ k.val = 11 ∨ k.val = 16)) ∨ (Al k = false ∧ ¬ (k.val = 2 ∨ k.val = 6 ∨ k.val = 11 ∨ k.val = 16)):=by
  unfold Al Fj Gj
  simp only [Ag,A8]
  by_cases h1 : k.val = 2
  · rw [Pm h1,Ai,A8]; exact .inl ⟨by decide,.inl h1⟩
  · by_cases h2 : k.val = 6
    · rw [F1 h1,Ae,Pm h2,Ai,A8]; exact .inl ⟨by decide,.inr (.inl h2)⟩
    · by_cases h3 : k.val = 11
      · rw [F1 h1,Ae,F1 h2,Ae,Pm h3,Ai,A8]; exact .inl ⟨by decide,.inr (.inr (.inl h3))⟩
      · by_cases h4 : k.val = 16
        · rw [F1 h1,Ae,F1 h2,Ae,F1 h3,Ae,Pm h4,Ai,A8]; exact .inl ⟨by decide,.inr (.inr (.inr h4))⟩
        · rw [F1 h1,Ae,F1 h2,Ae,F1 h3,Ae,F1 h4,Ae,A8]; exact .inr ⟨by decide,by omega⟩
theorem pU (k : Aq) : (Ar k = true ∧ (k.val = 3 ∨ k.val = 9 ∨ k.val = 10 ∨ (13 ≤ k.val ∧ k.val ≤ 15))) ∨ (Ar k = false ∧ ¬ (k.val = 3 ∨ k.val = 9 ∨ k.val = 10 ∨ (13 ≤ k.val ∧ k.val ≤ 15))):=by
  unfold Ar Fi Gi
  simp only [Ag,A8]
  by_cases h1 : k.val = 3
  · rw [Pm h1,Ai,A8]; exact .inl ⟨by decide,by omega⟩
  · by_cases h2 : k.val = 9
    · rw [F1 h1,Ae,Pm h2,Ai,A8]; exact .inl ⟨by decide,by omega⟩
    · by_cases h3 : k.val = 10
      · rw [F1 h1,Ae,F1 h2,Ae,Pm h3,Ai,A8]; exact .inl ⟨by decide,by omega⟩
      · by_cases h4 : k.val = 13
        · rw [F1 h1,Ae,F1 h2,Ae,F1 h3,Ae,Pm h4,Ai,A8]; exact .inl ⟨by decide,by omega⟩
        · by_cases h5 : k.val = 14
          · rw [F1 h1,Ae,F1 h2,Ae,F1 h3,Ae,F1 h4,Ae,Pm h5,Ai,A8]; exact .inl ⟨by decide,by omega⟩
          · by_cases h6 : k.val = 15
            · rw [F1 h1,Ae,F1 h2,Ae,F1 h3,Ae,F1 h4,Ae,F1 h5,Ae,Pm h6,Ai,A8]; exact .inl ⟨by decide,by omega⟩
            · rw [F1 h1,Ae,F1 h2,Ae,F1 h3,Ae,F1 h4,Ae,F1 h5,Ae,F1 h6,Ae,A8]; exact .inr ⟨by decide,by omega⟩
theorem u9 (p : Pj) (q : Pt) : W0 p q = Cb p q:=by unfold W0; rfl
theorem Ah7 {p : Pj} {q : Pt} (hv : A7 p = true) (hq : B4 q = true) (hf : (Dw p.kind).val ≠ 4) :
    Pa p q = bif (Cb p q).2.2.val != 0 then ((⟨Ah 0,Ah 0⟩ : Iv),(Cb p q).2.2) else Fp (Ay (Cb p q).1 (Cb p q).2.1):=by
  have hv' : Hc p = true:=by unfold A7 at hv; rwa [Ag] at hv
  unfold Pa
  simp only [Ag,hv',hq,Ai]
  rw [F1 hf,Ae]
theorem uN {p : Pj} {q : Pt} (hv : A7 p = true) (hq : B4 q = true) (hf : (Dw p.kind).val = 4) : Pa p q = (Ao (Ah 1),Ah 0):=by
  have hv' : Hc p = true:=by unfold A7 at hv; rwa [Ag] at hv
  unfold Pa
  simp only [Ag,hv',hq,Ai]
  rw [Pm hf,Ai]
theorem Akd (p : Pj) (q : Pt) : L6 p q = bif (Cb p q).2.2.val != 0 then ((⟨Ah 0,Ah 0⟩ : Iv),(Cb p q).2.2) else Fp (dis (Cb p q).1 (Cb p q).2.1):=by
  unfold L6 dis
  rfl
theorem Ad9 (x : Iv) : (Fp x).2.val = 9 ∨ (Fp x = (x,Ah 0) ∧ Am x = true):=by
  unfold Fp
  simp only [Ag]
  cases h : Am x with
  | false=>exact .inl (A8 _ _)
  | true=>exact .inr ⟨rfl,rfl⟩
theorem Zw (code : Cd) : Qv code = true:=by
  unfold Qv
  rw [Ag]
  cases Vw code Cd.nil with
  | true=>rfl
  | false=>
    rw [Ae,Ag]
    obtain ⟨hv,hq,hk⟩:=Alj code (Ah 1) (Ah 16) (by decide)
    simp only [A8] at hk
    generalize Ff code (Ah 1) (Ah 16) = pq at *
    obtain ⟨p,q⟩:=pq
    change p.kind.val = 1 ∨ (1 ≤ p.kind.val ∧ p.kind.val ≤ 16) at hk
    change A7 p = true at hv
    change B4 q = true at hq
    simp only [Ag,pO,tF,u9,b9,fR,Akd]
    have o11 : Bx (Ao (Ah 1)) (Ao (Ah 1)) = true:=Pb Ks Ks
    rcases Ak8 hv hq (show 1 ≤ p.kind.val ∧ p.kind.val ≤ 16 by omega) with ⟨f4,s3,k1,k2⟩ | ⟨f4,sc⟩
    · rcases pU p.kind with ⟨ea,_⟩ | ⟨_,e⟩
      · simp only [uN hv hq f4,A8,ea,s3,o11,f4,show ((0 : Int) == 0) = true from rfl,show ((3 : Int) != 0) = true from rfl,show ((3 : Int) == 8) = false from rfl,show ((3 : Int) == 9) = false from rfl,show ((3 : Int) == 3) = true from rfl,show ((4 : Int) == 4) = true from rfl,Ai,Ae,Bool.not_true]
      · exact absurd (.inr (.inr (.inr ⟨k1,k2⟩))) e
    · rw [Ah7 hv hq f4]
      rcases sc with (c | c) | ⟨c,o1,o2,g1,g2,g3⟩
      · simp only [c,show ((8 : Int) != 0) = true from rfl,show ((8 : Int) == 0) = false from rfl,show ((8 : Int) == 8) = true from rfl,Ai,Ae]
      · simp only [c,show ((9 : Int) != 0) = true from rfl,show ((9 : Int) == 0) = false from rfl,show ((9 : Int) == 8) = false from rfl,show ((9 : Int) == 9) = true from rfl,Ai,Ae]
      · simp only [c,show ((0 : Int) != 0) = false from rfl,Ae]
        generalize Cb p q = S at *
        obtain ⟨H,K,cc⟩:=S
        change Am H = true at o1
        change Am K = true at o2
        simp only [] at g1 g2 g3 ⊢
        obtain ⟨a,a0,TA,tz⟩ : ∃ a,Rl.q 0 ≤ a ∧ Tr (dis H K) a ∧ (H = K → a = Rl.q 0):=by
          by_cases e : H = K
          · exact ⟨Rl.q 0,Rl.le_refl _,by rw [e]; exact Aer K,fun _=>rfl⟩
          · rcases g3 with e2 | ⟨h,t,hH,hK,h0,t0⟩
            · exact absurd e2 e
            · obtain ⟨a,a0,ta⟩:=Ajy hH hK h0 t0
              exact ⟨a,a0,ta,fun e2=>absurd e2 e⟩
        have MM : Bx (Ay H K) (Ay H K) = true:=by
          have V : ∀ I : Iv,Tr I (Rl.fx I.lo.val):=fun I o=>⟨Rl.le_refl _,Rl.Df.2 (Vu o).2.1⟩
          exact Pb (V _) (V _)
        have AA : (Fp (dis H K)).2.val = 9 ∨ ((Fp (dis H K)).2.val = 0 ∧ decide ((Fp (dis H K)).1.hi.val ≥ 0) = true ∧ (H = K → Dx (Fp (dis H K)).1 (Ah 0) = true)):=by
          rcases Ad9 (dis H K) with k | ⟨k,o⟩
          · exact .inl k
          · rw [k]
            refine .inr ⟨A8 _ _,decide_eq_true ?_,fun e=>Ah3 (by rw [← tz e]; exact TA)⟩
            exact Rl.Df.1 (Rl.le_trans (by rw [Rl.Fy]; exact a0) (TA o).2)
        have BB : (Fp (Ay H K)).2.val = 9 ∨ Fp (Ay H K) = (Ay H K,Ah 0):=(Ad9 _).imp id And.left
        have HK : (p.kind.val = 2 ∨ p.kind.val = 6 ∨ p.kind.val = 11 ∨ p.kind.val = 16) → Bx H K = true:=fun k=>by
          have V : ∀ I : Iv,Tr I (Rl.fx I.lo.val):=fun I o=>⟨Rl.le_refl _,Rl.Df.2 (Vu o).2.1⟩
          rw [g1 k]
          exact Pb (V _) (V _)
        have EE : (p.kind.val = 3 ∨ p.kind.val = 9 ∨ p.kind.val = 10) → Bx (Ay H K) (Ao (Ah 1)) = true:=fun k=>by
          obtain ⟨h,t,hH,hK,e⟩:=g2 k
          exact Pb (v:=Rl.q 1) (by have:=Fk hH hK; rwa [e] at this) Ks
        have np : ¬ (13 ≤ p.kind.val ∧ p.kind.val ≤ 15):=fun k=>f4 ((yQ p.kind).2.2.2.1 k.1 k.2)
        generalize Fp (dis H K) = an at *
        have z99 : ((9 : Int) == 9) = true:=rfl
        have z90 : ((9 : Int) == 0) = false:=rfl
        have y90 : ((9 : Int) != 0) = true:=rfl
        have z00 : ((0 : Int) == 0) = true:=rfl
        have y00 : ((0 : Int) != 0) = false:=rfl
        rcases Ahn p.kind with ⟨cf,ck⟩ | ⟨cf,ck⟩
        · have e : H = K:=g1 ck
          have hk1:=HK ck
          rcases pU p.kind with ⟨ea,ek⟩ | ⟨ea,ek⟩
          · omega
          · rcases BB with b | b
            · rcases AA with x | ⟨x0,x1,x2⟩
              · simp only [b,cf,ea,hk1,x,z99,z90,y90,Ai,Ae,Bool.not_true]
              · simp only [b,cf,ea,hk1,x0,x1,x2 e,z90,y00,Ai,Ae,Bool.not_true,show (true == false) = false from rfl,show (false == false) = true from rfl]
            · rcases AA with x | ⟨x0,x1,x2⟩
              · simp only [b,cf,ea,hk1,MM,A8,x,z99,z00,y90,Ai,Ae,Bool.not_true]
              · simp only [b,cf,ea,hk1,MM,A8,x0,x1,x2 e,z00,y00,Ai,Ae,Bool.not_true,show (true == false) = false from rfl,show (false == false) = true from rfl]
        · rcases pU p.kind with ⟨ea,ek⟩ | ⟨ea,ek⟩
          · have ee:=EE (by omega)
            rcases BB with b | b
            · rcases AA with x | ⟨x0,x1,x2⟩
              · simp only [b,cf,ea,x,z99,z90,y90,Ai,Ae,Bool.not_false]
              · simp only [b,cf,ea,x0,x1,z90,y00,Ai,Ae,Bool.not_false,show (false == false) = true from rfl]
            · rcases AA with x | ⟨x0,x1,x2⟩
              · simp only [b,cf,ea,ee,MM,A8,x,z99,z00,y90,Ai,Ae,Bool.not_true,Bool.not_false]
              · simp only [b,cf,ea,ee,MM,A8,x0,x1,z00,y00,Ai,Ae,Bool.not_true,Bool.not_false,show (false == false) = true from rfl]
          · rcases BB with b | b
            · rcases AA with x | ⟨x0,x1,x2⟩
              · simp only [b,cf,ea,x,z99,z90,y90,Ai,Ae,Bool.not_false]
              · simp only [b,cf,ea,x0,x1,z90,y00,Ai,Ae,Bool.not_false,show (false == false) = true from rfl]
            · rcases AA with x | ⟨x0,x1,x2⟩
              · simp only [b,cf,ea,MM,A8,x,z99,z00,y90,Ai,Ae,Bool.not_true,Bool.not_false]
              · simp only [b,cf,ea,MM,A8,x0,x1,z00,y00,Ai,Ae,Bool.not_true,Bool.not_false,show (false == false) = true from rfl]
end Go.Proofs.YtfhnlkinjbakgaaGreat.Abs
