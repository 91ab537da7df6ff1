/- Plain laws of the functions on numbers: what the program computes is what the reference computes. -/
import Derived.Test.YtfhnlkinjbakgaaGreatSsQqr
import Derived.Test.YtfhnlkinjbakgaaGreatSsFx
set_option linter.unusedVariables false
set_option linter.unusedSimpArgs false
namespace Go.Proofs.YtfhnlkinjbakgaaGreat.Abs
open Go
theorem nD (p : Pj) : (Wt p).n = Gf p:=Eq.trans rfl rfl
theorem Abh (p : Pj) : (Wt p).g = Gz p (Gf p):=Eq.trans rfl rfl
theorem Abg (p : Pj) : (Wt p).p = p:=Eq.trans rfl rfl
theorem Aa7 (p : Pj) (x : Iv) : I2 (Wt p) x = Mh p.kind (Gf p) (Gz p (Gf p)) x:=by
  unfold I2 Mh
  simp only [nD,Abh,Abg]
  generalize Gz p (Gf p) = g
  generalize Gf p = n
  simp only [Ag,Wr,kF,Il,Le,X9,Im,Wq,Uh,yW]
theorem Aeh (p : Pj) (x : Iv) : Jr (Wt p) x = Tk p x:=by
  unfold Jr Tk
  simp only [Ag,Aa7,nD,Il,Uj,Im]
theorem pL (x y : Iv) : R5 x y = C8 x y:=by
  unfold R5 C8
  simp only [Ag,Hd]
  cases Am x <;> cases Am y <;> simp only [Bool.and_true,Bool.and_false,Bool.not_true,Bool.not_false,Ai,Ae]
theorem zE : ((Ah 0).val != 0) = false:=by decide
theorem Adi : ((Ah 1).val != 0) = true:=by decide
theorem My : ((Ah 0).val != 0) = false:=by decide
theorem Vo : ((Ah 1).val != 0) = true:=by decide
theorem bC : ((Ah 8).val != 0) = true:=by decide
theorem Abi : ((Ah 9).val != 0) = true:=by decide
theorem i9 (x : Iv) : Dt x = !Am x:=by
  unfold Dt
  simp only [Ag]
theorem oF (p : Pt) (h : -9223372036854775808 < p.lat.val) : Tx p = Lv p:=by
  unfold Tx Lv
  rw [Ag,Afb _ _ (by decide) h]
theorem Y0 {p : Pt} (h : B4 p = true) : -900000000 ≤ p.lat.val ∧ p.lat.val ≤ 900000000 ∧ -1800000000 < p.lon.val ∧ p.lon.val ≤ 1800000000:=by
  unfold B4 at h
  simp only [Ag,Gk,A8] at h
  by_cases h1 : -900000000 ≤ p.lat.val
  · by_cases h2 : p.lat.val ≤ 900000000
    · simp only [h1,h2,decide_true,Bool.and_true,Ai,Bool.and_eq_true,decide_eq_true_eq] at h
      omega
    · simp only [h1,h2,decide_true,decide_false,Bool.and_false,Ae] at h
      cases h
  · simp only [h1,decide_false,Bool.false_and,Ae] at h
    cases h
theorem kN (p : Pj) (q : Pt) : N8 p q = Km p q:=by
  unfold N8 Km
  simp only [Ag,Gx]
  rcases t6 p with ⟨h1,h2⟩ | ⟨h1,h2⟩
  · rw [h1,h2]
    simp only [zE,Ae,Bool.not_true]
    cases h3 : B4 q with
    | false=>simp only [Bool.not_false,Ai]
    | true=>
      have hp:=Y0 h3
      have hl : Rb q = B8 q.lat:=by
        unfold Rb
        simp only [Ag,h3,Bool.not_true,Ae]
      simp only [Bool.not_true,Ae,oF q (by omega),Vn h3,hl,Aeh,pL,F3,Im]
  · rw [h1,h2]
    simp only [Adi,Ai,Bool.not_false]
def uA (z : Iv) : Prop:=Am z = true ∨ z = Aw
theorem zP (a b : Aq) : uA (C0 a b):=by
  by_cases h : -1152921504606846976 < a.val ∧ a.val ≤ b.val ∧ b.val < 1152921504606846976
  · rw [Fc h]
    exact .inl (I7 h)
  · rw [Ts h]
    exact .inr rfl
theorem iH : uA Aw:=.inr rfl
theorem qW {b : Bool} {x y : Iv} (hx : uA x) (hy : uA y) : uA (bif b then x else y):=by
  cases b
  · exact hy
  · exact hx
theorem Aao (v : Vc) : uA (W1 v):=by
  rw [← kJ]
  unfold W9
  simp only [Ag,Kj,Dv]
  exact qW iH (qW iH (zP _ _))
theorem Aa0 (v : Vc) : uA (M3 v):=by
  unfold M3
  rw [Ag]
  exact Aao _
theorem Zx {z : Iv} (h : uA z) : M8 z = decide (z.lo.val > 0):=by
  unfold M8
  simp only [Ag,N5]
  rcases h with h | h
  · rw [h,Ai]
  · rw [h]
    decide
theorem jW {p : Pt} (h : -900000000 ≤ p.lat.val ∧ p.lat.val ≤ 900000000 ∧ -1800000000 < p.lon.val ∧ p.lon.val ≤ 1800000000) : B4 p = true:=by
  unfold B4
  simp only [Ag,Gk,A8]
  rw [decide_eq_true h.1,decide_eq_true h.2.1,decide_eq_true (by omega : -1799999999 ≤ p.lon.val),decide_eq_true h.2.2.2]
  rfl
theorem Ahs {p : Pj} (h : A7 p = true) : B4 ⟨An (0 - p.lat0.val),D4 (An (p.lon0.val + 1800000000))⟩ = true:=by
  have hc:=Y0 (eR h)
  have hw:=Yt (An (p.lon0.val + 1800000000))
  have e1 : (Dq p).lat = p.lat0:=Eq.trans rfl rfl
  rw [e1] at hc
  have e : (An (0 - p.lat0.val)).val = -p.lat0.val:=by rw [Ad]; omega
  refine jW ⟨?_,?_,hw.1,hw.2⟩
  · show _ ≤ (An (0 - p.lat0.val)).val
    omega
  · show (An (0 - p.lat0.val)).val ≤ _
    omega
theorem pK {q r : Pt} (hq : B4 q = true) (hr : B4 r = true) : Rq q r = (Rn q r).1:=by
  have hp:=Y0 hq
  unfold Rq Rn
  simp only [Ag,hq,hr,oF q (by omega),Bool.not_true,Ae]
  cases (q.lat.val == r.lat.val) <;> cases (q.lon.val == r.lon.val) <;> cases Lv q <;> rfl
theorem wL (p : Pj) (q : Pt) : Vy (B8 p.lat0) (B8 q.lat) (B8 (D4 (An (q.lon.val - p.lon0.val)))) = Ex p q:=by
  unfold Vy Ex
  simp only [Ag,Uj,Wr,Il,Le,I4]
theorem wN (p : Pj) (q : Pt) : V0 p q = (bif (!(Gg p)) then ((⟨(⟨(Ah 0),(Ah 0)⟩ : Iv),(⟨(Ah 0),(Ah 0)⟩ : Iv),(⟨(Ah 0),(Ah 0)⟩ : Iv)⟩ : Vc),(Ah 1)) else (bif (!(B4 q)) then ((⟨(⟨(Ah 0),(Ah 0)⟩ : Iv),(⟨(Ah 0),(Ah 0)⟩ : Iv),(⟨(Ah 0),(Ah 0)⟩ : Iv)⟩ : Vc),(Ah 1)) else (Ex p q,(Ah 0)))):=by
  unfold V0
  simp only [Ag,d5,Gx]
  cases h1 : Gg p with
  | false=>simp only [Bool.not_false,Ai]
  | true=>
    cases h2 : B4 q with
    | false=>simp only [Bool.not_false,Bool.not_true,Ai,Ae]
    | true=>
      have hl : Nd (Dq p) = B8 p.lat0:=Vn (eR (mM h1))
      have hd : Mm (Dq p) q = B8 (D4 (An (q.lon.val - p.lon0.val))):=by
        unfold Mm
        simp only [Ag,Tg,Mx]
        exact Eq.trans rfl rfl
      simp only [Bool.not_true,Ae,hl,Vn h2,hd,wL]
theorem Ad8 {p : Pj} (h : Gg p = true) : p.kind.val = 5 ∨ p.kind.val = 6 ∨ p.kind.val = 7 ∨ p.kind.val = 8 ∨ p.kind.val = 9:=by
  unfold Gg Vq at h
  simp only [Ag] at h
  cases hk : Bz p.kind (Ah 5) (Ah 9) with
  | false=>rw [hk,Ae] at h; cases h
  | true=>
    rw [Gk] at hk
    simp only [Bool.and_eq_true,decide_eq_true_eq,A8] at hk
    omega
theorem tE {p : Pj} (h : A7 p = true) : (T4 (Dq p)).1 = ⟨An (0 - p.lat0.val),D4 (An (p.lon0.val + 1800000000))⟩:=by
  unfold T4
  simp only [Ag,Gx,eR h,Tg,Bool.not_true,Ae]
  exact Eq.trans rfl rfl
theorem Zs (p : Pj) (q : Pt) : Js p q = Da p q:=by
  unfold Js Da
  simp only [Ag,wN]
  cases h1 : Gg p with
  | false=>simp only [Bool.not_false,Ai,Vo]
  | true=>
    cases h2 : B4 q with
    | false=>simp only [Bool.not_false,Bool.not_true,Ai,Ae,Vo]
    | true=>
      have hv:=mM h1
      simp only [Bool.not_true,Ae,My,tE hv,pK h2 (Ahs hv)]
      cases (Rn q ⟨An (0 - p.lat0.val),D4 (An (p.lon0.val + 1800000000))⟩).1 with
      | true=>simp only [Ai]
      | false=>
        simp only [Ae]
        generalize Ex p q = v
        have hw : Cr = Aw:=Eq.trans rfl rfl
        unfold Ix Rk
        simp only [Ag,F3,Ael,Im,I4,Dv,hw,X9,t8,a7,Rh,Zx (Aa0 _),Il,Aa8]
        rcases Ad8 h1 with hk | hk | hk | hk | hk <;> simp only [hk,Int.reduceBEq,Ai,Ae]
        · cases ((Sf (Ao (Ah 0)) v.z).val == 0)
          · simp only [Ae,My]
          · simp only [Ai,bC]
        · simp only [My,Ae]
        · cases ((Sf v.z (Ao (Ah 0))).val == 1)
          · simp only [Ae]
            cases decide (v.z.lo.val < 0)
            · simp only [Ae,My]
            · simp only [Ai,Ae,My]
          · simp only [Ai,bC]
        · cases decide ((M3 v).lo.val > 0)
          · simp only [Ae,My]
          · simp only [Ai,Ae,My]
        · simp only [Ae,My]
end Go.Proofs.YtfhnlkinjbakgaaGreat.Abs
