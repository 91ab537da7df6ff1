/- Plain laws of the functions on numbers: what the program computes is what the reference computes. -/
import Derived.Test.YtfhnlkinjbakgaaGreatSsQstu
import Derived.Test.YtfhnlkinjbakgaaGreatSsFx
set_option linter.unusedVariables false
set_option linter.unusedSimpArgs false
namespace Go.Proofs.YtfhnlkinjbakgaaGreat.Abs
open Go
theorem v8 {q : Pt} (h : B4 q = true) : Rb q = B8 q.lat:=by
  unfold Rb
  simp only [Ag,h,Bool.not_true,Ae]
theorem dA (p : Pj) (q : Pt) : K1 p q = Hy p q:=by
  unfold K1 Hy U3 J3
  simp only [Ag,Gx,X7,O5]
  cases Hc p with
  | false=>simp only [Bool.not_false,Ai,Ae]
  | true=>
    cases h3 : B4 q with
    | false=>cases Bz p.kind (Ah 1) (Ah 4) <;> simp only [Bool.not_false,Bool.not_true,Ai,Ae]
    | true=>
      cases Bz p.kind (Ah 1) (Ah 4) with
      | false=>simp only [Bool.not_false,Bool.not_true,Ai,Ae]
      | true=>
        have hp:=Y0 h3
        simp only [Bool.not_true,Ai,Ae,oF q (by omega),Vn h3,v8 h3,Uj,Mx,F3,Im,Yb,Il,pL]
theorem Aek {p : Pt} (h : B4 p = true) : dM p = B8 p.lon:=by
  unfold dM
  simp only [Ag,Gx,h,Bool.not_true,Ae,Mx]
theorem fP {p : Pt} (h : B4 p = true) : Qw p = Lm p:=by
  unfold Qw Lm
  simp only [Ag,Vn h,Aek h,Uj,Wr,Il]
theorem gE (p q : Pt) : Mr p q = F6 p q:=by
  unfold Mr F6 Tl W8
  simp only [Ag,Gx]
  cases h1 : B4 p with
  | false=>simp only [Bool.not_false,Ai,Ae]
  | true=>
    cases h2 : B4 q with
    | false=>simp only [Bool.not_false,Bool.not_true,Ai,Ae]
    | true=>simp only [Bool.not_true,Ai,Ae,fP h1,fP h2,Abb,kJ,Ahk,a7,nA]
theorem Ad7 {x y : Iv} {c : Aq} (h : Jp x = (y,c)) (hc : (c.val != 0) = false) : Am y = true:=by
  unfold Jp at h
  rw [Ag,i9] at h
  cases ho : Am x with
  | true=>
    rw [ho,Bool.not_true,Ae] at h
    cases h
    exact ho
  | false=>
    rw [ho,Bool.not_false,Ai] at h
    cases h
    exact absurd hc (by decide)
theorem Ae9 {p q : Pt} (h : ((F6 p q).2.val != 0) = false) : Am (F6 p q).1 = true:=by
  unfold F6 at h ⊢
  simp only [Ag] at h ⊢
  cases h1 : B4 p with
  | false=>rw [h1,Bool.not_false,Ai] at h; exact absurd h (by decide)
  | true=>
    cases h2 : B4 q with
    | false=>rw [h1,h2,Bool.not_false,Bool.not_true,Ae,Ai] at h; exact absurd h (by decide)
    | true=>
      rw [h1,h2,Bool.not_true,Ae] at h
      simp only [Bool.not_true,Ae] at h ⊢
      exact Ad7 rfl h
theorem fR (k : Aq) : Mq k = Dw k:=by
  unfold Mq Dw J3 Ja As W7
  simp only [Ag,O5]
theorem gD (p : Pj) (q : Pt) : Mn p q = Jn p q:=by
  unfold Mn Jn
  have ec : Dq p = ⟨p.lat0,p.lon0⟩:=Eq.trans rfl rfl
  simp only [Ag,Zs,ec,gE]
  cases h1 : Gg p with
  | false=>
    have e : ((Da p q).2.val != 0) = true:=by
      unfold Da
      simp only [Ag,h1,Bool.not_false,Ai]
      decide
    simp only [e,Ai]
  | true=>
    cases ((Da p q).2.val != 0) with
    | true=>simp only [Ai]
    | false=>
      cases ha : ((F6 ⟨p.lat0,p.lon0⟩ q).2.val != 0) with
      | true=>simp only [Ai,Ae]
      | false=>
        have hs:=Ae9 ha
        simp only [Ae]
        generalize (F6 ⟨p.lat0,p.lon0⟩ q).1 = c at *
        unfold L7
        simp only [Ag,F3,tI,Uj,Sd,Im,Wr,Rh,Zx (.inl hs),pL]
        rcases Ad8 h1 with hk | hk | hk | hk | hk <;> simp only [hk,Int.reduceBEq,Ai,Ae]
        cases decide (c.lo.val > 0) <;> simp only [Ai,Ae]
theorem qV (p : Pj) (q : Pt) : (((Bi p q).2.val != 0) = true ∧ (Bi p q).1 = ⟨Ah 0,Ah 0⟩) ∨ ((Bi p q).2 = Ah 0 ∧ Am (Bi p q).1 = true):=by
  unfold Bi
  simp only [Ag]
  cases Hi p with
  | false=>exact .inl ⟨Vo,rfl⟩
  | true=>
    cases B4 q with
    | false=>exact .inl ⟨Vo,rfl⟩
    | true=>
      cases Jo p q with
      | true=>exact .inl ⟨bC,rfl⟩
      | false=>
        simp only [Bool.not_true,Ae]
        generalize A4 (Ao (Ah 1)) _ = x
        unfold Jp
        rw [Ag,i9]
        cases h : Am x with
        | false=>exact .inl ⟨Abi,rfl⟩
        | true=>exact .inr ⟨rfl,h⟩
theorem Ya (p : Pj) (q : Pt) : Kn p q = Cb p q:=by
  unfold Kn Cb
  simp only [Ag,X7,Gx,fR,dA,gD,kN,aY]
  have e : ((Bi p q).1,(Bi p q).1,(Bi p q).2) = (bif ((Bi p q).2.val != 0) then ((⟨(Ah 0),(Ah 0)⟩ : Iv),(⟨(Ah 0),(Ah 0)⟩ : Iv),(Bi p q).2) else ((C8 (Bi p q).1 (Bi p q).1).1,(C8 (Bi p q).1 (Bi p q).1).2.1,(C8 (Bi p q).1 (Bi p q).1).2.2)):=by
    rcases qV p q with ⟨h1,h2⟩ | ⟨h1,h2⟩
    · rw [h1,h2,Ai]
    · rw [h1,My,Ae]
      unfold C8
      simp only [Ag,h2,Bool.not_true,Ae]
  rw [e]
theorem tF (p : Pj) (q : Pt) : Kn p q = W0 p q:=by
  unfold W0
  rw [Ag,Ya]
theorem b9 (p : Pj) (q : Pt) : A5 p q = L6 p q:=by
  unfold A5 L6
  simp only [Ag,Ya,Le,kP,I4,Im,Aeo,kF,Il,yF]
theorem Ag4 {p : Pj} (h : Hc p = true) : 1 ≤ p.kind.val ∧ p.kind.val ≤ 16:=by
  rw [← X7] at h
  unfold D6 at h
  simp only [Ag] at h
  cases hw : Dg p.kind (Ah 1) (Ah 16) with
  | false=>rw [hw,Bool.not_false,Ai] at h; cases h
  | true=>
    rw [U5] at hw
    simp only [Bool.and_eq_true,decide_eq_true_eq,A8] at hw
    exact hw
theorem Aju {p : Pj} (h : Hc p = true) : Dw p.kind = Ah 1 ∨ Dw p.kind = Ah 2 ∨ Dw p.kind = Ah 3 ∨ Dw p.kind = Ah 4 ∨ Dw p.kind = Ah 5:=by
  obtain ⟨h1,h2⟩:=Ag4 h
  unfold Dw
  simp only [Ag,Gk,A8]
  generalize p.kind.val = k at *
  obtain rfl | rfl | rfl | rfl | rfl | rfl | rfl | rfl | rfl | rfl | rfl | rfl | rfl | rfl | rfl | rfl : k = 1 ∨ k = 2 ∨ k = 3 ∨ k = 4 ∨ k = 5 ∨ k = 6 ∨ k = 7 ∨ k = 8 ∨ k = 9 ∨ k = 10 ∨ k = 11 ∨ k = 12 ∨ k = 13 ∨ k = 14 ∨ k = 15 ∨ k = 16:=by omega
  all_goals simp
def N3 (c : Aq) : Prop:=(c.val == 3) = false
def P3 (r : Iv × Iv × Aq) : Prop:=N3 r.2.2
def P2 (r : Pn × Aq) : Prop:=N3 r.2
def P1 (r : Iv × Aq) : Prop:=N3 r.2
theorem Kh {b : Bool} {x y : Iv × Iv × Aq} (hx : P3 x) (hy : P3 y) : P3 (bif b then x else y):=by
  cases b
  · exact hy
  · exact hx
theorem e7 {b : Bool} {x y : Pn × Aq} (hx : P2 x) (hy : P2 y) : P2 (bif b then x else y):=by
  cases b
  · exact hy
  · exact hx
theorem Pv {b : Bool} {x y : Iv × Aq} (hx : P1 x) (hy : P1 y) : P1 (bif b then x else y):=by
  cases b
  · exact hy
  · exact hx
theorem lR : N3 (Ah 0):=by unfold N3; decide
theorem lQ : N3 (Ah 1):=by unfold N3; decide
theorem Aar : N3 (Ah 8):=by unfold N3; decide
theorem Adp : N3 (Ah 9):=by unfold N3; decide
theorem zY (x y : Iv) : P3 (C8 x y):=by
  unfold C8
  simp only [Ag]
  exact Kh Adp (Kh Adp lR)
theorem Hf (x y : Iv) : P3 ((C8 x y).1,(C8 x y).2.1,(C8 x y).2.2):=zY x y
theorem rK (p : Pj) (q : Pt) : P3 (Hy p q):=by
  unfold Hy
  simp only [Ag]
  exact Kh lQ (Kh lQ (Kh Aar (Kh (Hf _ _) (Kh (Hf _ _) (Kh (Hf _ _) (Hf _ _))))))
theorem Adc (p : Pj) (q : Pt) : P3 (Km p q):=by
  unfold Km
  simp only [Ag]
  exact Kh lQ (Kh lQ (Kh Aar (Kh (Hf _ _) (Kh (Hf _ _) (Hf _ _)))))
theorem rL (x : Iv) : P1 (Jp x):=by
  unfold Jp
  simp only [Ag]
  exact Pv Adp lR
theorem Ade (a b : Pt) : P1 (F6 a b):=by
  unfold F6
  simp only [Ag]
  exact Pv lQ (Pv lQ (rL _))
theorem lK (p : Pj) (q : Pt) : P1 (Bi p q):=by
  unfold Bi
  simp only [Ag]
  exact Pv lQ (Pv lQ (Pv Aar (rL _)))
theorem zZ (k : Aq) (v : Vc) : P1 (Rk k v):=by
  unfold Rk
  simp only [Ag]
  exact Pv (Pv Aar lR) (Pv lR (Pv (Pv Aar (Pv lR lR)) (Pv (Pv lR lR) lR)))
theorem oI (p : Pj) (q : Pt) : P2 (Da p q):=by
  unfold Da
  simp only [Ag]
  exact e7 lQ (e7 lQ (e7 Aar (e7 (zZ _ _) (e7 Adp (e7 Adp lR)))))
theorem oH (p : Pj) (q : Pt) : P3 (Jn p q):=by
  unfold Jn
  simp only [Ag]
  exact Kh (oI p q) (Kh (Ade _ _) (Kh (Hf _ _) (Kh (Hf _ _) (Kh (Hf _ _) (Kh (Kh (Hf _ _) (Hf _ _)) (Hf _ _))))))
theorem pO (p : Pj) (q : Pt) : Ru p q = Pa p q:=by
  unfold Ru Pa
  simp only [Ag,Ya,F3,Il,yF]
  have h13 : ((Ah 1).val == 3) = false:=by decide
  have h33 : ((Ah 3).val == 3) = true:=by decide
  cases h1 : Hc p with
  | false=>
    have e : (Cb p q).2.2 = Ah 1:=by
      unfold Cb
      simp only [Ag,h1,Bool.not_false,Ai]
    simp only [Ae,e,h13,Vo,Ai]
  | true=>
    cases h2 : B4 q with
    | false=>
      have e : (Cb p q).2.2 = Ah 1:=by
        unfold Cb
        simp only [Ag,h1,h2,Bool.not_false,Bool.not_true,Ai,Ae]
      simp only [Ae,e,h13,Vo,Ai]
    | true=>
      rcases Aju h1 with hf | hf | hf | hf | hf
      all_goals simp only [hf,Ai,A8,Int.reduceBEq,Ae]
      · have e : P3 (Cb p q):=by
          unfold Cb
          simp only [Ag,h1,h2,hf,A8,Bool.not_true,Int.reduceBEq,Ai,Ae]
          exact rK p q
        have e' : ((Cb p q).2.2.val == 3) = false:=e
        simp only [e',Ae]
      · have e : P3 (Cb p q):=by
          unfold Cb
          simp only [Ag,h1,h2,hf,A8,Bool.not_true,Int.reduceBEq,Ai,Ae]
          exact oH p q
        have e' : ((Cb p q).2.2.val == 3) = false:=e
        simp only [e',Ae]
      · have e : P3 (Cb p q):=by
          unfold Cb
          simp only [Ag,h1,h2,hf,A8,Bool.not_true,Int.reduceBEq,Ai,Ae]
          exact Adc p q
        have e' : ((Cb p q).2.2.val == 3) = false:=e
        simp only [e',Ae]
      · have e : (Cb p q).2.2 = Ah 3:=by
          unfold Cb
          simp only [Ag,h1,h2,hf,A8,Bool.not_true,Int.reduceBEq,Ai,Ae]
        simp only [e,h33,Ai]
      · have e : P3 (Cb p q):=by
          unfold Cb
          simp only [Ag,h1,h2,hf,A8,Bool.not_true,Int.reduceBEq,Ai,Ae]
          exact Kh (lK p q) (Hf _ _)
        have e' : ((Cb p q).2.2.val == 3) = false:=e
        simp only [e',Ae]
def V (q : Pt) (r : Pn × Aq) : Prop:=(r.2.val != 0) = false → B4 q = true
theorem Gt {α : Type} {p : α → Prop} {c : Bool} {a b : α} (ha : p a) (hb : p b) : p (cond c a b):=by
  cases c
  · exact hb
  · exact ha
theorem J1 {α β : Type} {p : β → Prop} {x : α} {φ : α → β} (h : ∀ r,p (φ r)) : p (Aa x φ):=h x
theorem aS {p : Aq → Prop} (L : List Aq) (h : ∀ x ∈ L,p x) (h0 : p (Ah 0)) (i : Aq) : p (Lb L i):=by
  unfold Lb
  rw [List.getD_eq_getElem?_getD]
  cases hx : L[i.val.toNat]? with
  | none=>exact h0
  | some x=>exact h x (List.mem_of_getElem? hx)
def nr (m : Int) (x : Aq) : Prop:=-m ≤ x.val ∧ x.val ≤ m
theorem Ajf {m : Aq} (h1 : 1 ≤ m.val) (h2 : m.val < 9223372036854775807) (x : Aq) : nr m.val (Jl x (An (m.val + 1)).val):=by
  have e : (An (m.val + 1)).val = m.val + 1:=by rw [Ad]; omega
  unfold nr
  rw [e,Ll]
  have g1 : Int.tmod x.val (m.val + 1) < m.val + 1:=Int.tmod_lt_of_pos _ (by omega)
  have g2 : Int.tmod (-x.val) (m.val + 1) < m.val + 1:=Int.tmod_lt_of_pos _ (by omega)
  rw [Int.neg_tmod] at g2
  omega
theorem Adm {m : Int} {x : Aq} (h : nr m x) (k : Int) : nr m (Ck x k):=by
  unfold nr at *
  rw [F2]
  generalize min k.toNat IntKind.i64.bits = n
  have hp : (0 : Int) < 2 ^ n:=Int.pow_pos (by omega)
  rw [Int.fdiv_eq_ediv_of_nonneg _ (Int.le_of_lt hp)]
  by_cases hv : 0 ≤ x.val
  · have q1 : x.val / 2 ^ n ≤ x.val:=Int.ediv_le_self _ hv
    have q2 : 0 ≤ x.val / 2 ^ n:=Int.ediv_nonneg hv (Int.le_of_lt hp)
    omega
  · have q1 : x.val ≤ x.val / 2 ^ n:=by
      rw [Int.le_ediv_iff_mul_le hp]
      have : x.val * 2 ^ n ≤ x.val * 1:=Int.mul_le_mul_of_nonpos_left (by omega) (by omega)
      omega
    have q2 : x.val / 2 ^ n < 0:=by
      rw [Int.ediv_lt_iff_lt_mul hp]
      omega
    omega
theorem vZ {m : Int} {x : Aq} (hm : m < 9223372036854775807) (h : nr m x) : nr m (An (0 - x.val)):=by
  unfold nr at *
  rw [Ad]
  omega
theorem y5 {m : Aq} (h1 : 1 ≤ m.val) (i : Aq) : nr m.val (Lb [Ah 0,Ah 1,m,An (Int.tdiv m.val 2)] i):=by
  refine aS _ (fun x hx=>?_) (by unfold nr; rw [A8]; omega) i
  have hh:=m.hi
  simp only [List.mem_cons,List.not_mem_nil,or_false] at hx
  rcases hx with rfl | rfl | rfl | rfl
  · unfold nr; rw [A8]; omega
  · unfold nr; rw [A8]; omega
  · exact ⟨by omega,Int.le_refl _⟩
  · unfold nr
    rw [Int.tdiv_eq_ediv_of_nonneg (by omega),Ad]
    omega
theorem Aan (C : Cd) (b : Je) {m : Aq} (h1 : 1 ≤ m.val) (h2 : m.val < 9223372036854775807) : nr m.val (D5 C b m).1:=by
  unfold D5
  refine J1 (p:=fun r : Aq × Je=>nr m.val r.1) fun r1=>J1 (p:=fun r : Aq × Je=>nr m.val r.1) fun r2=>J1 (p:=fun r : Aq × Je=>nr m.val r.1) fun r3=>J1 (p:=fun r : Aq × Je=>nr m.val r.1) fun r4=>J1 (p:=fun r : Aq × Je=>nr m.val r.1) fun r5=>J1 (p:=fun r : Aq × Je=>nr m.val r.1) fun r6=>J1 (p:=fun r : Aq × Je=>nr m.val r.1) fun r7=>J1 (p:=fun r : Aq × Je=>nr m.val r.1) fun r8=>?_
  have hx : ∀ x : Aq,nr m.val (Jl x (An (m.val + 1)).val):=Ajf h1 h2
  refine Gt (p:=fun r : Aq × Je=>nr m.val r.1) ?_ (Gt (p:=fun r : Aq × Je=>nr m.val r.1) ?_ ?_)
  · refine J1 (p:=fun r : Aq × Je=>nr m.val r.1) fun r9=>J1 (p:=fun r : Aq × Je=>nr m.val r.1) fun r10=>Gt (p:=fun r : Aq × Je=>nr m.val r.1) ?_ ?_
    · exact vZ h2 (Adm (hx _) _)
    · exact Adm (hx _) _
  · unfold Dj
    rw [Ag,Ag,Ag]
    refine Gt (p:=fun r : Aq × Je=>nr m.val r.1) ?_ ?_
    · exact vZ h2 (y5 h1 _)
    · exact y5 h1 _
  · refine J1 (p:=fun r : Aq × Je=>nr m.val r.1) fun r9=>Gt (p:=fun r : Aq × Je=>nr m.val r.1) ?_ ?_
    · exact vZ h2 (hx _)
    · exact hx _
theorem kR (C : Cd) (b : Je) : B4 (Ek C b).1 = true:=by
  unfold Ek
  rw [Ag,Ag,Ag]
  have q1:=Aan C b (m:=Ah 900000000) (by rw [A8]; omega) (by rw [A8]; omega)
  generalize D5 C b (Ah 900000000) = r1 at *
  have q3:=Yt (D5 C r1.2 (Ah 1800000000)).1
  generalize D4 (D5 C r1.2 (Ah 1800000000)).1 = r3 at *
  unfold nr at q1
  rw [A8] at q1
  refine J1 (p:=fun r : Pt × Je=>B4 r.1 = true) fun r4=>Gt (p:=fun r : Pt × Je=>B4 r.1 = true) ?_ (Gt (p:=fun r : Pt × Je=>B4 r.1 = true) ?_ ?_)
  · unfold Dj
    rw [Ag,Ag]
    have q : nr 900000000 (Lb [Ah 900000000,Ah (-900000000),Ah 0,Ah 1] (A9 C r4.2 (Ah 4)).1):=by
      refine aS _ (fun x hx=>?_) (by unfold nr; rw [A8]; omega) _
      simp only [List.mem_cons,List.not_mem_nil,or_false] at hx
      rcases hx with rfl | rfl | rfl | rfl <;> (unfold nr; rw [A8]; omega)
    exact jW ⟨q.1,q.2,q3.1,q3.2⟩
  · unfold Ed
    rw [Ag,Ag]
    have q : (fun x : Aq=>-1800000000 < x.val ∧ x.val ≤ 1800000000) (Lb [Ah 1800000000,Ah (-1799999999),Ah 0,Ah 900000000,Ah (-900000000)] (A9 C r4.2 (Ah 5)).1):=by
      refine aS (p:=fun x : Aq=>-1800000000 < x.val ∧ x.val ≤ 1800000000) _ (fun x hx=>?_) (by rw [A8]; omega) _
      simp only [List.mem_cons,List.not_mem_nil,or_false] at hx
      rcases hx with rfl | rfl | rfl | rfl | rfl <;> (rw [A8]; omega)
    exact jW ⟨q1.1,q1.2,q.1,q.2⟩
  · exact jW ⟨q1.1,q1.2,q3.1,q3.2⟩
end Go.Proofs.YtfhnlkinjbakgaaGreat.Abs
