/- Plain laws of the functions on numbers: what the program computes is what the reference computes. -/
import Derived.Test.YtcdkepbgjgcjfaaGreatTsReal
import Derived.Test.YtcdkepbgjgcjfaaGreatTsQzpzqzr
import Derived.Test.YtcdkepbgjgcjfaaGreatTsFx
set_option linter.unusedVariables false
set_option linter.unusedSimpArgs false
namespace Go.Proofs.YtcdkepbgjgcjfaaGreat.Abs
open Go
def Bd (N : Int) (z : Iv) : Prop:=S_l04Ok z = true ∧ -N ≤ z.lo.val ∧ z.hi.val ≤ N
def Bo (N : Int) (z : Iv) : Prop:=S_l04Ok z = true → -N ≤ z.lo.val ∧ z.hi.val ≤ N
theorem Bd.bo {N : Int} {z : Iv} (h : Bd N z) : Bo N z:=fun _=>h.2
theorem Bd.mono {N M : Int} {z : Iv} (h : Bd N z) (k : N ≤ M) : Bd M z:=⟨h.1,by have:=h.2.1; omega,by have:=h.2.2; omega⟩
theorem Bo.whole (N : Int) : Bo N S_l04Whole:=fun h=>absurd h (by decide)
theorem Bd.mul {x y : Iv} {A B C : Int} (hx : Bd A x) (hy : Bd B y) (hC : A * B ≤ C * 4294967296) (hb : C < 1152921504606846976) : Bd C (S_MulI x y):=by
  obtain ⟨x0,x1,x2⟩:=hx
  obtain ⟨y0,y1,y2⟩:=hy
  have px:=Ok4p x0
  have py:=Ok4p y0
  have key : ∀ p q : Int,-A ≤ p → p ≤ A → -B ≤ q → q ≤ B → -C * 4294967296 ≤ p * q ∧ p * q ≤ C * 4294967296:=fun p q h1 h2 h3 h4=>by
    have a : p * q ≤ A * B ∧ -(A * B) ≤ p * q:=by
      have e1:=Int.mul_nonneg (show 0 ≤ A - p by omega) (show 0 ≤ B + q by omega)
      have e2:=Int.mul_nonneg (show 0 ≤ A + p by omega) (show 0 ≤ B - q by omega)
      have e3:=Int.mul_nonneg (show 0 ≤ A - p by omega) (show 0 ≤ B - q by omega)
      have e4:=Int.mul_nonneg (show 0 ≤ A + p by omega) (show 0 ≤ B + q by omega)
      have f1 : (A - p) * (B + q) = A * B + A * q - p * B - p * q:=by grind
      have f2 : (A + p) * (B - q) = A * B - A * q + p * B - p * q:=by grind
      have f3 : (A - p) * (B - q) = A * B - A * q - p * B + p * q:=by grind
      have f4 : (A + p) * (B + q) = A * B + A * q + p * B + p * q:=by grind
      omega
    rw [Int.neg_mul]; omega
  obtain ⟨z,e,z0,z1,z2,_⟩:=MulI_in x0 y0 (L:=-C) (U:=C) (by omega) hb (key _ _ (by omega) (by omega) (by omega) (by omega)) (key _ _ (by omega) (by omega) (by omega) (by omega)) (key _ _ (by omega) (by omega) (by omega) (by omega)) (key _ _ (by omega) (by omega) (by omega) (by omega))
  rw [e]
  exact ⟨z0,z1,z2⟩
theorem Bd.add {x y : Iv} {A B : Int} (hx : Bd A x) (hy : Bd B y) (hb : A + B < 1152921504606846976) : Bd (A + B) (S_AddI x y):=by
  obtain ⟨x0,x1,x2⟩:=hx
  obtain ⟨y0,y1,y2⟩:=hy
  have px:=Ok4p x0
  have py:=Ok4p y0
  have w1 : (w64 (x.lo.val + y.lo.val)).val = x.lo.val + y.lo.val:=by rw [w64_val]; omega
  have w2 : (w64 (x.hi.val + y.hi.val)).val = x.hi.val + y.hi.val:=by rw [w64_val]; omega
  have hb : -1152921504606846976 < (w64 (x.lo.val + y.lo.val)).val ∧ (w64 (x.lo.val + y.lo.val)).val ≤ (w64 (x.hi.val + y.hi.val)).val ∧ (w64 (x.hi.val + y.hi.val)).val < 1152921504606846976:=by omega
  unfold S_AddI
  simp only [bindP_e,x0,y0,Bool.not_true,cond_f]
  rw [Make_ok hb]
  exact ⟨Ok4_of hb,by show _ ≤ (w64 _).val; omega,by show (w64 _).val ≤ _; omega⟩
theorem Bd.sub {x y : Iv} {A B : Int} (hx : Bd A x) (hy : Bd B y) (hb : A + B < 1152921504606846976) : Bd (A + B) (S_SubI x y):=by
  obtain ⟨x0,x1,x2⟩:=hx
  obtain ⟨y0,y1,y2⟩:=hy
  have px:=Ok4p x0
  have py:=Ok4p y0
  have w1 : (w64 (x.lo.val - y.hi.val)).val = x.lo.val - y.hi.val:=by rw [w64_val]; omega
  have w2 : (w64 (x.hi.val - y.lo.val)).val = x.hi.val - y.lo.val:=by rw [w64_val]; omega
  have hb : -1152921504606846976 < (w64 (x.lo.val - y.hi.val)).val ∧ (w64 (x.lo.val - y.hi.val)).val ≤ (w64 (x.hi.val - y.lo.val)).val ∧ (w64 (x.hi.val - y.lo.val)).val < 1152921504606846976:=by omega
  unfold S_SubI
  simp only [bindP_e,x0,y0,Bool.not_true,cond_f]
  rw [Make_ok hb]
  exact ⟨Ok4_of hb,by show _ ≤ (w64 _).val; omega,by show (w64 _).val ≤ _; omega⟩
theorem Bo.add {x y : Iv} {A B : Int} (hx : Bo A x) (hy : Bo B y) : Bo (A + B) (S_AddI x y):=fun h=>by
  obtain ⟨h1,h2,e1,e2⟩:=AddI_out h
  have a:=hx h1
  have b:=hy h2
  omega
theorem Bo.sub {x y : Iv} {A B : Int} (hx : Bo A x) (hy : Bo B y) : Bo (A + B) (S_SubI x y):=fun h=>by
  obtain ⟨h1,h2,e1,e2⟩:=SubI_out h
  have a:=hx h1
  have b:=hy h2
  omega
theorem Bo.neg {x : Iv} {A : Int} (hx : Bo A x) : Bo A (S_NegI x):=fun h=>by
  cases h1 : S_l04Ok x with
  | false=>
    unfold S_NegI at h
    simp only [bindP_e,h1,Bool.not_false,cond_t] at h
    exact absurd h (by decide)
  | true=>
    obtain ⟨z,e,_,z1,z2⟩:=neg_val h1
    have a:=hx h1
    rw [e]
    omega
theorem Bo.hull {x y : Iv} {A : Int} (hx : Bo A x) (hy : Bo A y) : Bo A (S_HullI x y):=fun h=>by
  obtain ⟨h1,h2,_⟩:=HullI_out h
  have a:=hx h1
  have b:=hy h2
  unfold S_HullI at h ⊢
  simp only [bindP_e,h1,h2,Bool.not_true,cond_f] at h ⊢
  rw [Make_out h]
  have m1:=min_is x.lo y.lo
  have m2:=max_is x.hi y.hi
  show -A ≤ (S_l00Min x.lo y.lo).val ∧ (S_l00Max x.hi y.hi).val ≤ A
  omega
theorem Bo.double {x : Iv} {A : Int} (hx : Bo A x) : Bo (A + A) (S_DoubleI x):=fun h=>by
  unfold S_DoubleI at h ⊢
  simp only [bindP_e] at h ⊢
  cases h1 : S_l04Ok x with
  | false=>rw [h1] at h; simp only [Bool.not_false,cond_t] at h; exact absurd h (by decide)
  | true=>
    rw [h1] at h
    simp only [Bool.not_true,cond_f] at h ⊢
    rw [Make_out h]
    have a:=hx h1
    have p:=Ok4p h1
    show -(A + A) ≤ (w64 (2 * x.lo.val)).val ∧ (w64 (2 * x.hi.val)).val ≤ A + A
    rw [w64_val,w64_val]
    omega
theorem Bo.mono {N M : Int} {z : Iv} (h : Bo N z) (k : N ≤ M) : Bo M z:=fun o=>by have:=h o; omega
theorem Frac_bd (n : I64) (h : 1 ≤ n.val ∧ n.val ≤ 100) : Bd 4294967296 (S_Quotient (c64 1) n):=by
  obtain ⟨r,hr,rv⟩:=MulDiv_val (a:=c64 1) (b:=c64 4294967296) (d:=n) (by omega) (by rw [c64_v,c64_v]; decide) (by rw [c64_v,c64_v]; decide) (by
    rw [c64_v,c64_v]
    have:=Int.ediv_nonneg (show (0 : Int) ≤ 1 * 4294967296 by decide) (show 0 ≤ n.val by omega)
    omega) (by
    rw [c64_v,c64_v]
    have:=Int.ediv_le_self n.val (show (0 : Int) ≤ 1 * 4294967296 by decide)
    omega)
  rw [c64_v,c64_v] at rv
  have r0:=Int.ediv_nonneg (show (0 : Int) ≤ 1 * 4294967296 by decide) (show 0 ≤ n.val by omega)
  have r1:=Int.ediv_le_self n.val (show (0 : Int) ≤ 1 * 4294967296 by decide)
  have r2:=Int.ediv_mul_le (1 * 4294967296) (show n.val ≠ 0 by omega)
  rw [← rv] at r0 r1 r2
  have end_ok : ∀ z : I64,-4294967297 ≤ z.val → z.val ≤ 4294967297 → S_l03End z true = (z,true):=fun z h1 h2=>by
    unfold S_l03End
    rw [Bool.not_true,cond_f,bindP_e,Ok3_of (by omega) (by omega),Bool.not_true,cond_f]
  have F : S_l03Floor (c64 1) n = (r,true):=by
    unfold S_l03Floor
    rw [decide_eq_false (show ¬ n.val ≤ 0 by omega),cond_f,bindP_e,bindP_e,hr]
    rw [end_ok r (by omega) (by omega)]
  have C : ∃ s : I64,S_l03Ceil (c64 1) n = (s,true) ∧ r.val ≤ s.val ∧ s.val ≤ 4294967296:=by
    unfold S_l03Ceil
    rw [decide_eq_false (show ¬ n.val ≤ 0 by omega),cond_f,bindP_e,hr]
    have w1 : (w64 (r.val + 1)).val = r.val + 1:=by rw [w64_val]; omega
    have w2 : (w64 ((c64 1).val * 4294967296)).val = 4294967296:=by rw [c64_v]; decide
    have w3 : (w64 (r.val * n.val)).val = r.val * n.val:=by rw [w64_val]; have:=Int.mul_nonneg r0 (show 0 ≤ n.val by omega); omega
    simp only [bindP_e,Bool.not_true,cond_f,w2,w3]
    cases hb : (r.val * n.val != 4294967296) with
    | false=>rw [cond_f,end_ok r (by omega) (by omega)]; exact ⟨r,rfl,Int.le_refl _,by omega⟩
    | true=>
      rw [cond_t,end_ok _ (by omega) (by omega)]
      simp only [bne_iff_ne,ne_eq] at hb
      refine ⟨w64 (r.val + 1),rfl,by omega,?_⟩
      have : r.val < 4294967296:=by
        refine Classical.byContradiction fun k=>?_
        have e : r.val = 4294967296:=by omega
        rw [e] at r2 hb
        omega
      omega
  obtain ⟨s,C,s1,s2⟩:=C
  unfold S_Quotient
  rw [decide_eq_false (show ¬ n.val < 0 by omega),cond_f]
  simp only [bindP_e,F,C,Bool.not_true,cond_f]
  have hb : -1152921504606846976 < r.val ∧ r.val ≤ s.val ∧ s.val < 1152921504606846976:=by omega
  rw [Make_ok hb]
  exact ⟨Ok4_of hb,by show -4294967296 ≤ r.val; omega,by show s.val ≤ 4294967296; exact s2⟩
theorem Bd.of {N : Int} {z : Iv} (h : Bo N z) (o : S_l04Ok z = true) : Bd N z:=⟨o,h o⟩
theorem Meet_bd (z : Iv) : Bd 4294967296 (S_l06Meet z):=by
  have ring : Bd 4294967296 S_l06Ring:=⟨by decide,by decide,by decide⟩
  unfold S_l06Meet
  simp only [bindP_e]
  cases hm : (S_MeetI z S_l06Ring).2 with
  | false=>simp only [Bool.not_false,cond_t]; exact ring
  | true=>
    simp only [Bool.not_true,cond_f]
    unfold S_MeetI at hm ⊢
    simp only [bindP_e,ring.1,Bool.not_true,cond_f] at hm ⊢
    cases ho : S_l04Ok z with
    | false=>simp only [Bool.not_false,cond_t]; exact ring
    | true=>
      rw [ho] at hm
      simp only [Bool.not_true,cond_f] at hm ⊢
      by_cases c : (S_l00Max z.lo S_l06Ring.lo).val > (S_l00Min z.hi S_l06Ring.hi).val
      · rw [decide_eq_true c,cond_t] at hm; cases hm
      · rw [decide_eq_false c,cond_f]
        have x1:=max_out z.lo S_l06Ring.lo
        have x2:=min_out z.hi S_l06Ring.hi
        have r1 : S_l06Ring.lo.val = -4294967296:=by decide
        have r2 : S_l06Ring.hi.val = 4294967296:=by decide
        simp only []
        generalize S_l00Max z.lo S_l06Ring.lo = p at *
        generalize S_l00Min z.hi S_l06Ring.hi = r at *
        refine ⟨Ok4_of ?_,by show _ ≤ p.val; omega,by show r.val ≤ _; omega⟩
        show -1152921504606846976 < p.val ∧ p.val ≤ r.val ∧ r.val < 1152921504606846976
        omega
theorem At6_bd (n t : I64) : Bd 4294967296 (S_l06At n t):=by
  unfold S_l06At
  simp only [bindP_e]
  cases S_l06Angle n with
  | false=>simp only [Bool.not_false,cond_t]; exact ⟨by decide,by decide,by decide⟩
  | true=>
    simp only [Bool.not_true,cond_f]
    cases ((iand .i64 (w64 ((S_QuarterOf n).val + t.val)).val 3).val == 0) with
    | true=>rw [cond_t]; exact Meet_bd _
    | false=>
      rw [cond_f]
      cases ((iand .i64 (w64 ((S_QuarterOf n).val + t.val)).val 3).val == 1) with
      | true=>rw [cond_t]; exact Meet_bd _
      | false=>
        rw [cond_f]
        cases ((iand .i64 (w64 ((S_QuarterOf n).val + t.val)).val 3).val == 2) with
        | true=>rw [cond_t]; exact Meet_bd _
        | false=>rw [cond_f]; exact Meet_bd _
theorem Bd.hull {x y : Iv} {A : Int} (hx : Bd A x) (hy : Bd A y) (hA : A < 1152921504606846976) : Bd A (S_HullI x y):=by
  obtain ⟨x0,x1,x2⟩:=hx
  obtain ⟨y0,y1,y2⟩:=hy
  have px:=Ok4p x0
  have py:=Ok4p y0
  unfold S_HullI
  simp only [bindP_e,x0,y0,Bool.not_true,cond_f]
  have m1:=min_is x.lo y.lo
  have m2:=max_is x.hi y.hi
  have o1:=min_out x.lo y.lo
  have o2:=max_out x.hi y.hi
  have hb : -1152921504606846976 < (S_l00Min x.lo y.lo).val ∧ (S_l00Min x.lo y.lo).val ≤ (S_l00Max x.hi y.hi).val ∧ (S_l00Max x.hi y.hi).val < 1152921504606846976:=by omega
  rw [Make_ok hb]
  exact ⟨Ok4_of hb,by show -A ≤ (S_l00Min x.lo y.lo).val; omega,by show (S_l00Max x.hi y.hi).val ≤ A; omega⟩
theorem Int_bd (c : I64) (h : -268435455 ≤ c.val ∧ c.val ≤ 268435455) (N : Int) (h1 : -N ≤ c.val * 4294967296) (h2 : c.val * 4294967296 ≤ N) : Bd N (S_Integer c):=by
  obtain ⟨z,e,o,l,u⟩:=Integer_val c h.1 h.2
  rw [e]
  exact ⟨o,by omega,by omega⟩
theorem Over_bd (t : I64) (a : Iv) : ∀ (fu : Nat) (k : I64) (y : Iv),Bd 4294967296 y → Bd 4294967296 (S_l06Over_L0 fu t a k y):=by
  intro fu
  induction fu with
  | zero=>intro k y _; exact ⟨by unfold S_l06Over_L0; decide,by unfold S_l06Over_L0; decide,by unfold S_l06Over_L0; decide⟩
  | succ fu ih=>
    intro k y hy
    unfold S_l06Over_L0
    simp only [bindP_e]
    cases decide (k.val ≤ (w64 ((S_QuarterOf a.hi).val + 1)).val) with
    | false=>rw [cond_f]; exact hy
    | true=>
      rw [cond_t]
      cases S_OverlapI (S_TurnI k) a with
      | false=>simp only [Bool.not_false,cond_t]; exact ih _ _ hy
      | true=>
        simp only [Bool.not_true,cond_f]
        cases ((iand .i64 (w64 (k.val + t.val)).val 3).val == 1) with
        | true=>rw [cond_t]; exact ih _ _ (hy.hull (Int_bd _ (by decide) _ (by decide) (by decide)) (by decide))
        | false=>
          rw [cond_f]
          cases ((iand .i64 (w64 (k.val + t.val)).val 3).val == 3) with
          | true=>rw [cond_t]; exact ih _ _ (hy.hull (Int_bd _ (by decide) _ (by decide) (by decide)) (by decide))
          | false=>rw [cond_f]; exact ih _ _ hy
theorem Sin_bd (a : Iv) : Bd 4294967296 (S_SinI a):=by
  unfold S_SinI S_l06Over
  simp only [bindP_e]
  cases S_l06Fits a with
  | false=>simp only [Bool.not_false,cond_t]; exact ⟨by decide,by decide,by decide⟩
  | true=>simp only [Bool.not_true,cond_f]; exact Over_bd _ _ _ _ _ ((At6_bd _ _).hull (At6_bd _ _) (by decide))
theorem horn {y s c : Iv} {N : Int} (hy : Bd 4294967296 y) (hs : Bd (N * 4294967296) s) (hc : Bd 4294967296 c) (h1 : N ≤ 100) : Bd ((N + 1) * 4294967296) (S_SubI c (S_MulI y s)):=by
  have m:=Bd.mul hy hs (C:=N * 4294967296) (by rw [Int.mul_comm]; exact Int.le_refl _) (by omega)
  exact (hc.sub m (by omega)).mono (by omega)
theorem hornA {y s c : Iv} {N : Int} (hy : Bd 4294967296 y) (hs : Bd (N * 4294967296) s) (hc : Bd 4294967296 c) (h1 : N ≤ 100) : Bd ((N + 1) * 4294967296) (S_AddI c (S_MulI y s)):=by
  have m:=Bd.mul hy hs (C:=N * 4294967296) (by rw [Int.mul_comm]; exact Int.le_refl _) (by omega)
  exact (hc.add m (by omega)).mono (by omega)
theorem frac (n : I64) (h : 1 ≤ n.val ∧ n.val ≤ 100) : Bd (1 * 4294967296) (S_Quotient (c64 1) n):=by rw [Int.one_mul]; exact Frac_bd n h
theorem Sqr_bd {x : Iv} (h : Bd 4294967296 x) : Bd 4294967296 (S_SqrI x):=by
  have:=sqr_unit h.1 h.2.1 h.2.2
  exact ⟨this.1,by have:=this.2.1; omega,this.2.2⟩
theorem Arc_bo (x : Iv) : Bo 55834574849 (S_ArcSeries x):=by
  unfold S_ArcSeries S_Whole
  simp only [bindP_e]
  cases hi : S_InsideI x (⟨c64 (-1073741824),c64 1073741824⟩ : Iv) with
  | false=>simp only [Bool.not_false,cond_t]; exact Bo.whole _
  | true=>
    simp only [Bool.not_true,cond_f]
    have hx : Bd 4294967296 x:=by
      unfold S_InsideI at hi
      have o : S_l04Ok (⟨c64 (-1073741824),c64 1073741824⟩ : Iv) = true:=by decide
      simp only [bindP_e,o,Bool.not_true,cond_f] at hi
      cases hk : S_l04Ok x with
      | false=>rw [hk] at hi; cases hi
      | true=>
        rw [hk] at hi
        simp only [cond_t,c64_v] at hi
        by_cases c : -1073741824 ≤ x.lo.val
        · rw [decide_eq_true c] at hi
          simp only [cond_t,decide_eq_true_eq] at hi
          exact ⟨hk,by omega,by omega⟩
        · rw [decide_eq_false c] at hi; cases hi
    have hy:=Sqr_bd hx
    have s:=horn hy (horn hy (horn hy (horn hy (horn hy (horn hy (horn hy (horn hy (horn hy (horn hy (frac (c64 21) (by decide)) (Frac_bd (c64 19) (by decide)) (by decide)) (Frac_bd (c64 17) (by decide)) (by decide)) (Frac_bd (c64 15) (by decide)) (by decide)) (Frac_bd (c64 13) (by decide)) (by decide)) (Frac_bd (c64 11) (by decide)) (by decide)) (Frac_bd (c64 9) (by decide)) (by decide)) (Frac_bd (c64 7) (by decide)) (by decide)) (Frac_bd (c64 5) (by decide)) (by decide)) (Frac_bd (c64 3) (by decide)) (by decide)) (Frac_bd (c64 1) (by decide)) (by decide)
    have m:=Bd.mul hx s (C:=13 * 4294967296) (by decide) (by decide)
    have tiny : Bd 1 S_l06Tiny:=⟨by decide,by decide,by decide⟩
    exact (m.add tiny (by decide)).bo.mono (by decide)
theorem Core_bo (x : Iv) : Bo 300000000000 (S_l07Core x):=by
  unfold S_l07Core
  simp only [bindP_e]
  exact (Bo.double (Bo.double (Arc_bo _))).mono (by decide)
theorem Turn_bd (k : I64) (h : -4096 ≤ k.val ∧ k.val ≤ 4096) : Bd 30000000000000 (S_TurnI k):=by
  obtain ⟨z,e,o,_,l,u,_⟩:=Turn_in k h
  rw [e]
  exact ⟨o,l,u⟩
theorem Quarter_bo : Bo 30000000000000 S_l07Quarter:=by rw [Quarter_eq]; exact fun _=>⟨by decide,by decide⟩
theorem AtanAt_bo : ∀ (fu : Nat) (n : I64),Bo 60000000000000 (S_AtanAt_r fu n):=by
  intro fu
  induction fu with
  | zero=>intro n _; show -60000000000000 ≤ (c64 0).val ∧ (c64 0).val ≤ 60000000000000; rw [c64_v]; decide
  | succ fu ih=>
    intro n
    unfold S_AtanAt_r S_AtanAt_b
    simp only [bindP_e]
    cases S_l07Fix n with
    | false=>simp only [Bool.not_false,cond_t]; exact Quarter_bo.mono (by decide)
    | true=>
      simp only [Bool.not_true,cond_f]
      cases decide (n.val < 0) with
      | true=>rw [cond_t]; exact (ih _).neg
      | false=>
        rw [cond_f]
        cases decide (n.val > 4294967296) with
        | true=>rw [cond_t]; exact ((Turn_bd _ (by decide)).bo.sub (Core_bo _)).mono (by decide)
        | false=>rw [cond_f]; exact (Core_bo _).mono (by decide)
theorem Atan_bo (x : Iv) : Bo 60000000000000 (S_AtanI x):=by
  unfold S_AtanI
  simp only [bindP_e]
  cases S_IsWhole x with
  | true=>rw [cond_t]; exact Quarter_bo.mono (by decide)
  | false=>rw [cond_f]; exact (AtanAt_bo 2 _).hull (AtanAt_bo 2 _)
theorem Bo.ite {p : Prop} [Decidable p] {N : Int} {x y : Iv} (hx : Bo N x) (hy : Bo N y) : Bo N (if p then x else y):=by
  by_cases h : p
  · rw [if_pos h]; exact hx
  · rw [if_neg h]; exact hy
theorem DirAt_bo (y x : I64) : Bo 100000000000000 (S_DirectionAt y x):=by
  cases hy : S_l07Fix y with
  | false=>
    unfold S_DirectionAt S_Whole
    simp only [bindP_e,hy,Bool.not_false,cond_t]
    exact Bo.whole _
  | true=>
  cases hx : S_l07Fix x with
  | false=>
    unfold S_DirectionAt S_Whole
    simp only [bindP_e,hy,hx,Bool.not_false,Bool.not_true,cond_t,cond_f]
    exact Bo.whole _
  | true=>
    rw [DirAt_form hy hx]
    have T : ∀ k : I64,-4096 ≤ k.val ∧ k.val ≤ 4096 → Bo 30000000000000 (S_TurnI k):=fun k h=>(Turn_bd k h).bo
    have A : ∀ a b : Iv,Bo 60000000000000 (S_AtanI (S_DivI a b)):=fun a b=>Atan_bo _
    exact Bo.ite (Bo.whole _) (Bo.ite (Bo.ite (((T _ (by decide)).sub (A _ _)).mono (by decide)) (((T _ (by decide)).sub (A _ _)).mono (by decide))) (Bo.ite ((A _ _).mono (by decide)) (Bo.ite (((A _ _).add (T _ (by decide))).mono (by decide)) (((A _ _).add (T _ (by decide))).mono (by decide)))))
theorem Dir_bo (y x : Iv) : Bo 100000000000000 (S_DirectionI y x):=by
  cases oy : S_l04Ok y with
  | false=>
    unfold S_DirectionI S_IsWhole S_Whole
    simp only [bindP_e,oy,Bool.not_false,cond_t]
    exact Bo.whole _
  | true=>
  cases ox : S_l04Ok x with
  | false=>
    unfold S_DirectionI S_IsWhole S_Whole
    simp only [bindP_e,oy,ox,Bool.not_false,Bool.not_true,cond_t,cond_f]
    exact Bo.whole _
  | true=>
    rw [DirI_form oy ox]
    cases ((S_HasI y (c64 0) && S_HasI x (c64 0)) || (decide (x.lo.val < 0) && decide (y.lo.val < 0) && decide (y.hi.val ≥ 0))) with
    | true=>rw [cond_t]; exact Bo.whole _
    | false=>rw [cond_f]; exact ((DirAt_bo _ _).hull (DirAt_bo _ _)).hull ((DirAt_bo _ _).hull (DirAt_bo _ _))
theorem Bo.widen {z : Iv} {N : Int} (h : Bo N z) : Bo (N + 1) (S_l08Widen z (c64 1)):=fun ho=>by
  unfold S_l08Widen at ho ⊢
  simp only [bindP_e] at ho ⊢
  cases h1 : S_l04Ok z with
  | false=>rw [h1] at ho; simp only [Bool.not_false,cond_t] at ho; exact absurd ho (by decide)
  | true=>
    rw [h1] at ho
    simp only [Bool.not_true,cond_f,c64_v] at ho ⊢
    rw [Make_out ho]
    have a:=h h1
    have p:=Ok4p h1
    show -(N + 1) ≤ (w64 (z.lo.val - 1)).val ∧ (w64 (z.hi.val + 1)).val ≤ N + 1
    rw [w64_val,w64_val]
    omega
theorem Bo.half {z : Iv} {N M : Int} (h : Bo N z) (hM : N + 1 ≤ 2 * M) : Bo M (S_HalfI z):=fun ho=>by
  unfold S_HalfI at ho ⊢
  simp only [bindP_e] at ho ⊢
  cases h1 : S_l04Ok z with
  | false=>rw [h1] at ho; simp only [Bool.not_false,cond_t] at ho; exact absurd ho (by decide)
  | true=>
    rw [h1] at ho
    simp only [Bool.not_true,cond_f] at ho ⊢
    rw [Make_out ho]
    have a:=h h1
    have p:=Ok4p h1
    have w : (w64 (z.hi.val + 1)).val = z.hi.val + 1:=by rw [w64_val]; omega
    show -M ≤ (ishr z.lo 1).val ∧ (ishr (w64 (z.hi.val + 1)) 1).val ≤ M
    rw [shr1_val,shr1_val,w]
    omega
theorem Bo.ends {x y : Iv} {N : Int} (hx : Bo N x) (hy : Bo N y) : Bo N (S_l08Ends x y):=fun h=>by
  obtain ⟨k1,k2,e⟩:=Ends_out8 h
  have a:=hx k1
  have b:=hy k2
  rw [e]
  exact ⟨a.1,b.2⟩
theorem LogTwo_bd (k : I64) (h : -33 < k.val ∧ k.val ≤ 28) : Bd 98242467646 (S_LogTwoI k):=by
  obtain ⟨z,e,o,l,u⟩:=(LogTwoI_all k).2 (by omega) (by omega)
  rw [e]
  exact ⟨o,by omega,by omega⟩
theorem logEnd_bo {q : I64} {m : Iv} (hq : -33 < q.val ∧ q.val ≤ 28) (m1 : 3221225472 ≤ m.lo.val) (m2 : m.lo.val < 6442450944) (m3 : m.hi.val ≤ m.lo.val + 1) (m4 : m.lo.val ≤ m.hi.val) : Bo 149782075199 (logEnd q m):=by
  unfold logEnd
  simp only [bindP_e]
  have om : S_l04Ok m = true:=Ok4_of (by omega)
  obtain ⟨i,ei,oi,li,ui⟩:=Integer_val (c64 1) (by decide) (by decide)
  rw [c64_v] at li ui
  have s:=(Bd.sub (A:=6442450944) (B:=4294967296) ⟨om,by omega,by omega⟩ ⟨oi,by omega,by omega⟩ (by decide))
  have a:=(Bd.add (A:=6442450944) (B:=4294967296) ⟨om,by omega,by omega⟩ ⟨oi,by omega,by omega⟩ (by decide))
  rw [ei]
  obtain ⟨_,_,sl,sh⟩:=SubI_out s.1
  obtain ⟨_,_,al,ah⟩:=AddI_out a.1
  obtain ⟨z,ez,oz,z1,z2⟩:=DivI_in s.1 a.1 (by omega) (L:=-4294967296) (U:=4294967296) (by decide) (by decide) (by omega) (by omega) (by omega) (by omega)
  rw [ez]
  have Z : Bd 4294967296 z:=⟨oz,z1,z2⟩
  have hy:=Sqr_bd Z
  have p:=hornA hy (hornA hy (hornA hy (hornA hy (hornA hy (frac (c64 11) (by decide)) (Frac_bd (c64 9) (by decide)) (by decide)) (Frac_bd (c64 7) (by decide)) (by decide)) (Frac_bd (c64 5) (by decide)) (by decide)) (Frac_bd (c64 3) (by decide)) (by decide)) (Frac_bd (c64 1) (by decide)) (by decide)
  have two:=Int_bd (c64 2) (by decide) 8589934592 (by decide) (by decide)
  have w:=(Bd.mul (Bd.mul two Z (C:=8589934592) (by decide) (by decide)) p (C:=51539607552) (by decide) (by decide))
  exact ((LogTwo_bd q hq).bo.add w.bo.widen).mono (by decide)
theorem LogAt_bo (n : I64) : Bo 149782075199 (S_LogAt n):=by
  unfold S_LogAt
  simp only [bindP_e]
  cases hi : S_l00In n (c64 1) (c64 1152921504606846976) with
  | false=>simp only [Bool.not_false,cond_t]; exact Bo.whole _
  | true=>
    simp only [Bool.not_true,cond_f]
    rw [sp_in] at hi
    simp only [c64_v,Bool.and_eq_true,decide_eq_true_eq] at hi
    obtain ⟨q,m,em,q1,q2,m1,m2,m3,m4,_⟩:=log0_tr n hi.1 hi.2 ((64 - (c64 0).val).toNat + 1) (c64 0) ⟨n,n⟩ (by decide) (by decide) (by rw [c64_v]; show n.val = n.val / 2 ^ 0; rw [Int.pow_zero,Int.ediv_one]) (by rw [c64_v]; show n.val = -(-n.val / 2 ^ 0); rw [Int.pow_zero,Int.ediv_one,Int.neg_neg]) (fun _=>rfl) (.inl (by rw [c64_v])) (Nat.lt_succ_self _)
    rw [em]
    exact logEnd_bo ⟨q1,q2⟩ m1 m2 m3 m4
theorem Log_bo (x : Iv) : Bo 149782075199 (S_LogI x):=by
  unfold S_LogI
  simp only [bindP_e]
  cases S_l04Ok x with
  | false=>simp only [Bool.not_false,cond_t]; exact Bo.whole _
  | true=>simp only [Bool.not_true,cond_f]; exact (LogAt_bo _).ends (LogAt_bo _)
theorem AtanhAt_bo : ∀ (fu : Nat) (n : I64),Bo 74891037600 (S_l08Atanh_r fu n):=by
  intro fu
  induction fu with
  | zero=>intro n _; show -74891037600 ≤ (c64 0).val ∧ (c64 0).val ≤ 74891037600; rw [c64_v]; decide
  | succ fu ih=>
    intro n
    unfold S_l08Atanh_r S_l08Atanh_b
    simp only [bindP_e]
    cases decide (n.val < 0) with
    | true=>rw [cond_t]; exact (ih _).neg
    | false=>
      rw [cond_f]
      cases decide (n.val ≥ 4294967296) with
      | true=>rw [cond_t]; exact Bo.whole _
      | false=>rw [cond_f]; exact (Log_bo _).half (by decide)
theorem Atanh_bo (x : Iv) : Bo 74891037600 (S_AtanhI x):=by
  unfold S_AtanhI
  simp only [bindP_e]
  cases S_l04Ok x with
  | false=>simp only [Bool.not_false,cond_t]; exact Bo.whole _
  | true=>simp only [Bool.not_true,cond_f]; exact (AtanhAt_bo 2 _).ends (AtanhAt_bo 2 _)
theorem Exp_ok (n : I64) (h1 : -74891037600 ≤ n.val) (h2 : n.val ≤ 74891037600) : S_l04Ok (S_ExpAt n) = true ∧ 0 ≤ (S_ExpAt n).lo.val ∧ (S_ExpAt n).hi.val ≤ 288230376185266176 ∧ (0 ≤ n.val → 1317922495 ≤ (S_ExpAt n).lo.val):=by
  obtain ⟨k,k1,k2,k3,e⟩:=Exp_form n (by omega) (by omega)
  rw [e]
  have hr : Rest (S_SubI (S_l08At n) (S_LogTwoI k)):=exp_rest ⟨by omega,by omega⟩ k3
  obtain ⟨P,Pl⟩:=expSum_pos hr
  obtain ⟨w1,w2,w3⟩:=Widen_in P
  have p1:=P.2.2
  have wo:=(Ok4p w3).2.1
  generalize S_l08Widen (expSum (S_SubI (S_l08At n) (S_LogTwoI k))) (c64 1) = a at *
  generalize expSum (S_SubI (S_l08At n) (S_LogTwoI k)) = p at *
  have l0 : 1317922495 ≤ a.lo.val:=by omega
  have u0 : a.hi.val ≤ 8589934593:=by omega
  unfold S_l08Scale
  by_cases hk : k.val ≥ 0
  · rw [decide_eq_true hk,cond_t,bindP_e]
    have hp2 : (2 : Int) ^ k.val.toNat ≤ 33554432:=by
      have : (2 : Nat) ^ k.val.toNat ≤ 2 ^ 25:=Nat.pow_le_pow_right (by decide) (by omega)
      have h3 : ((2 ^ k.val.toNat : Nat) : Int) ≤ ((2 ^ 25 : Nat) : Int):=Int.ofNat_le.2 this
      rw [Int.natCast_pow] at h3
      exact h3
    have pos : (0 : Int) < 2 ^ k.val.toNat:=Int.pow_pos (by decide)
    have a1 : a.hi.val * 2 ^ k.val.toNat ≤ a.hi.val * 33554432:=Int.mul_le_mul_of_nonneg_left hp2 (by omega)
    have a2 : a.lo.val * 2 ^ k.val.toNat ≤ a.hi.val * 2 ^ k.val.toNat:=Int.mul_le_mul_of_nonneg_right wo (by omega)
    have a3 : a.lo.val * 1 ≤ a.lo.val * 2 ^ k.val.toNat:=Int.mul_le_mul_of_nonneg_left (by omega) (by omega)
    have s1:=shl_val_nat a.lo k k.val.toNat (by omega) (by omega) (by omega) (by omega)
    have s2:=shl_val_nat a.hi k k.val.toNat (by omega) (by omega) (by omega) (by omega)
    have hb : -1152921504606846976 < (ishl .i64 a.lo.val (wu64 k.val).val).val ∧ (ishl .i64 a.lo.val (wu64 k.val).val).val ≤ (ishl .i64 a.hi.val (wu64 k.val).val).val ∧ (ishl .i64 a.hi.val (wu64 k.val).val).val < 1152921504606846976:=by omega
    rw [Make_ok hb]
    exact ⟨Ok4_of hb,by show 0 ≤ (ishl .i64 a.lo.val (wu64 k.val).val).val; omega,by show (ishl .i64 a.hi.val (wu64 k.val).val).val ≤ _; omega,fun _=>by show _ ≤ (ishl .i64 a.lo.val (wu64 k.val).val).val; omega⟩
  · rw [decide_eq_false hk,cond_f,bindP_e]
    have ek : (w64 (0 - k.val)).val = -k.val:=by rw [w64_val]; omega
    have eu : (wu64 (w64 (0 - k.val)).val).val = -k.val:=by rw [wu64_val,ek]; omega
    have en : (w64 (0 - a.hi.val)).val = -a.hi.val:=by rw [w64_val]; omega
    have pm : (0 : Int) < 2 ^ (min (-k.val).toNat IntKind.i64.bits):=Int.pow_pos (by decide)
    have e1 : (ishr a.lo (wu64 (w64 (0 - k.val)).val).val).val = a.lo.val / 2 ^ (min (-k.val).toNat IntKind.i64.bits):=by
      rw [ishr_val,eu,Int.fdiv_eq_ediv_of_nonneg _ (Int.le_of_lt (Int.pow_pos (by decide)))]
    have e2 : (ishr (w64 (0 - a.hi.val)) (wu64 (w64 (0 - k.val)).val).val).val = -a.hi.val / 2 ^ (min (-k.val).toNat IntKind.i64.bits):=by
      rw [ishr_val,eu,Int.fdiv_eq_ediv_of_nonneg _ (Int.le_of_lt (Int.pow_pos (by decide))),en]
    generalize (2 : Int) ^ (min (-k.val).toNat IntKind.i64.bits) = P2 at *
    have b1 : -a.hi.val / P2 ≤ 0:=by
      have:=Int.ediv_le_ediv pm (show -a.hi.val ≤ 0 by omega)
      rwa [Int.zero_ediv] at this
    have b2 : -a.hi.val ≤ -a.hi.val / P2:=by
      refine (Int.le_ediv_iff_mul_le pm).2 ?_
      have:=Int.mul_le_mul_of_nonneg_left (show (1 : Int) ≤ P2 by omega) (show 0 ≤ a.hi.val by omega)
      rw [Int.neg_mul]; omega
    have b3 : 0 ≤ a.lo.val / P2:=Int.ediv_nonneg (by omega) (by omega)
    have b4 : a.lo.val / P2 ≤ -(-a.hi.val / P2):=by
      refine Int.le_of_mul_le_mul_right (a:=P2) ?_ pm
      have g1:=Int.ediv_mul_le a.lo.val (show P2 ≠ 0 by omega)
      have g2:=Int.ediv_mul_le (-a.hi.val) (show P2 ≠ 0 by omega)
      rw [Int.neg_mul]; omega
    have ew : (w64 (0 - (ishr (w64 (0 - a.hi.val)) (wu64 (w64 (0 - k.val)).val).val).val)).val = -(-a.hi.val / P2):=by rw [w64_val,e2]; omega
    have hb : -1152921504606846976 < (ishr a.lo (wu64 (w64 (0 - k.val)).val).val).val ∧ (ishr a.lo (wu64 (w64 (0 - k.val)).val).val).val ≤ (w64 (0 - (ishr (w64 (0 - a.hi.val)) (wu64 (w64 (0 - k.val)).val).val).val)).val ∧ (w64 (0 - (ishr (w64 (0 - a.hi.val)) (wu64 (w64 (0 - k.val)).val).val).val)).val < 1152921504606846976:=by rw [ew,e1]; omega
    rw [Make_ok hb]
    exact ⟨Ok4_of hb,by show 0 ≤ (ishr a.lo (wu64 (w64 (0 - k.val)).val).val).val; omega,by show (w64 (0 - (ishr (w64 (0 - a.hi.val)) (wu64 (w64 (0 - k.val)).val).val).val)).val ≤ _; omega,fun h=>by omega⟩
theorem CoshAt_ok (n : I64) (h0 : 0 ≤ n.val) (h : n.val ≤ 74891037600) : S_l04Ok (S_l08Cosh n) = true ∧ 658961247 ≤ (S_l08Cosh n).lo.val:=by
  have w : (w64 (0 - n.val)).val = -n.val:=by rw [w64_val]; omega
  obtain ⟨a1,a2,a3,a4⟩:=Exp_ok n (by omega) h
  obtain ⟨b1,b2,b3,_⟩:=Exp_ok (w64 (0 - n.val)) (by omega) (by omega)
  have a5:=a4 h0
  have s:=Bd.add (A:=288230376185266176) (B:=288230376185266176) ⟨a1,by omega,a3⟩ ⟨b1,by omega,b3⟩ (by decide)
  obtain ⟨_,_,sl,sh⟩:=AddI_out s.1
  have so:=Ok4p s.1
  unfold S_l08Cosh S_HalfI
  simp only [bindP_e,s.1,Bool.not_true,cond_f]
  generalize S_AddI (S_ExpAt n) (S_ExpAt (w64 (0 - n.val))) = z at *
  have w2 : (w64 (z.hi.val + 1)).val = z.hi.val + 1:=by rw [w64_val]; omega
  have v1 : (ishr z.lo 1).val = z.lo.val / 2:=shr1_val _
  have v2 : (ishr (w64 (z.hi.val + 1)) 1).val = (z.hi.val + 1) / 2:=by rw [shr1_val,w2]
  have hb : -1152921504606846976 < (ishr z.lo 1).val ∧ (ishr z.lo 1).val ≤ (ishr (w64 (z.hi.val + 1)) 1).val ∧ (ishr (w64 (z.hi.val + 1)) 1).val < 1152921504606846976:=by omega
  rw [Make_ok hb]
  exact ⟨Ok4_of hb,by show _ ≤ (ishr z.lo 1).val; omega⟩
theorem Ends_bd {a : Iv} {N : Int} (h : Bd N a) : 0 ≤ (S_l04Ends a).1.val ∧ (S_l04Ends a).1.val ≤ (S_l04Ends a).2.val ∧ (S_l04Ends a).2.val ≤ N:=by
  obtain ⟨o,h1,h2⟩:=h
  obtain ⟨e1,e2,_⟩:=Ends_val o
  refine ⟨e1,e2,?_⟩
  have p:=Ok4p o
  have w1 : (w64 (0 - a.lo.val)).val = -a.lo.val:=by rw [w64_val]; omega
  have w2 : (w64 (0 - a.hi.val)).val = -a.hi.val:=by rw [w64_val]; omega
  have m1:=max_is a.lo (w64 (0 - a.lo.val))
  have m2:=max_is a.hi (w64 (0 - a.hi.val))
  have m3:=max_is (S_l00Max a.lo (w64 (0 - a.lo.val))) (S_l00Max a.hi (w64 (0 - a.hi.val)))
  have e : (S_l04Ends a).2 = S_l00Max (S_l00Max a.lo (w64 (0 - a.lo.val))) (S_l00Max a.hi (w64 (0 - a.hi.val))):=by
    unfold S_l04Ends
    simp only [bindP_e]
    cases S_l04Has a (c64 0) <;> rfl
  rw [e]
  omega
theorem Cosh_ok {X : Iv} {t : Rl.R} (hX : Bd 74891037600 X) (ht : Tr X t) : S_l04Ok (S_CoshI X) = true ∧ 658961247 ≤ (S_CoshI X).lo.val:=by
  obtain ⟨e0,e1,e2⟩:=Ends_bd hX
  unfold S_CoshI
  simp only [bindP_e,hX.1,Bool.not_true,cond_f]
  rw [AbsI_val hX.1]
  generalize S_l04Ends X = E at *
  obtain ⟨a1,a2⟩:=CoshAt_ok E.1 e0 (by omega)
  obtain ⟨b1,b2⟩:=CoshAt_ok E.2 (by omega) e2
  have A:=tCoshAtS (n:=E.1) (by omega) a1
  have B:=tCoshAtS (n:=E.2) (by omega) b1
  have le:=Rl.fx_le.1 (Rl.le_trans A.1 (Rl.le_trans (half_mono (Rl.ch_mono (by rw [← Rl.fx_zero]; exact Rl.fx_le.2 e0) (Rl.fx_le.2 e1))) B.2))
  have pa:=Ok4p a1
  have pb:=Ok4p b1
  unfold S_l08Ends
  simp only [bindP_e,a1,b1,Bool.not_true,cond_f]
  rw [Make_ok (by omega)]
  exact ⟨Ok4_of (by show -1152921504606846976 < (S_l08Cosh E.1).lo.val ∧ (S_l08Cosh E.1).lo.val ≤ (S_l08Cosh E.2).hi.val ∧ (S_l08Cosh E.2).hi.val < 1152921504606846976; omega),a2⟩
theorem HasI_tr {a : Iv} (h : Tr a (Rl.q 0)) : S_HasI a (c64 0) = true:=by
  cases ho : S_l04Ok a with
  | false=>
    unfold S_HasI
    simp only [bindP_e,ho,Bool.not_false,cond_t]
  | true=>
    have A:=h ho
    rw [← Rl.fx_zero] at A
    exact (HasI_zero ho).2 ⟨Rl.fx_le.1 A.1,Rl.fx_le.1 A.2⟩
theorem Transverse_ok {p : Pj} {q : Pt} (h : (S_TransverseForward p q).2.val = 0) : S_l21Ok__pPj p = true ∧ S_l11Ok q = true ∧ S_l21Edge__pPj p q = false ∧
    (S_TransverseForward p q).1.x = S_AtanhI (S_l21Side__pPj p q) ∧ S_l04Ok (S_AtanhI (S_l21Side__pPj p q)) = true ∧
    (S_TransverseForward p q).1.y = S_SubI (S_DirectionI (S_SinI (S_RadiansOf q.lat)) (S_MulI (S_CosI (S_RadiansOf q.lat)) (S_CosI (S_l21Turn__pPj p q)))) (S_RadiansOf p.lat0) ∧
    S_l04Ok (S_SubI (S_DirectionI (S_SinI (S_RadiansOf q.lat)) (S_MulI (S_CosI (S_RadiansOf q.lat)) (S_CosI (S_l21Turn__pPj p q)))) (S_RadiansOf p.lat0)) = true:=by
  unfold S_TransverseForward S_l21Forward__pPj S_IsWhole at h ⊢
  simp only [bindP_e] at h ⊢
  cases h1 : S_l21Ok__pPj p with
  | false=>rw [h1] at h; simp only [Bool.not_false,cond_t,c64_v] at h; exact absurd h (by decide)
  | true=>
    rw [h1] at h
    simp only [Bool.not_true,cond_f] at h ⊢
    cases h2 : S_l11Ok q with
    | false=>rw [h2] at h; simp only [Bool.not_false,cond_t,c64_v] at h; exact absurd h (by decide)
    | true=>
      rw [h2] at h
      simp only [Bool.not_true,cond_f] at h ⊢
      cases h3 : S_l21Edge__pPj p q with
      | true=>rw [h3] at h; simp only [cond_t,c64_v] at h; exact absurd h (by decide)
      | false=>
        rw [h3] at h
        simp only [cond_f] at h ⊢
        generalize S_AtanhI (S_l21Side__pPj p q) = X at *
        generalize S_SubI (S_DirectionI (S_SinI (S_RadiansOf q.lat)) (S_MulI (S_CosI (S_RadiansOf q.lat)) (S_CosI (S_l21Turn__pPj p q)))) (S_RadiansOf p.lat0) = Y at *
        cases h4 : S_l04Ok X with
        | false=>rw [h4] at h; simp only [Bool.not_false,cond_t,c64_v] at h; exact absurd h (by decide)
        | true=>
          rw [h4] at h
          simp only [Bool.not_true,cond_f] at h ⊢
          cases h5 : S_l04Ok Y with
          | false=>rw [h5] at h; simp only [Bool.not_false,cond_t,c64_v] at h; exact absurd h (by decide)
          | true=>simp only [Bool.not_true,cond_f,and_self]
theorem Rad_bd (a : I64) (h : -36000000000 ≤ a.val ∧ a.val ≤ 36000000000) : Bd 300000000000 (S_RadiansOf a):=by
  obtain ⟨z,e,o,_,l,u⟩:=Rad_val a h
  rw [e]
  exact ⟨o,l,u⟩
theorem tTurn21 (p : Pj) (q : Pt) : Tr (S_l21Turn__pPj p q) (rad (S_l11Wrap (w64 (q.lon.val - p.lon0.val))).val):=by
  unfold S_l21Turn__pPj
  simp only [bindP_e]
  exact tRadS _
theorem tSide21 (p : Pj) (q : Pt) : Tr (S_l21Side__pPj p q) (Rl.cn (rad q.lat.val) * Rl.sn (rad (S_l11Wrap (w64 (q.lon.val - p.lon0.val))).val)):=by
  unfold S_l21Side__pPj
  simp only [bindP_e]
  exact tMulS (tCosS (tRadS _)) (tSinS (tTurn21 p q))
theorem side_sq (b d : Rl.R) : (Rl.cn b * Rl.cn d) * (Rl.cn b * Rl.cn d) + Rl.sn b * Rl.sn b = Rl.q 1 - Rl.cn b * Rl.sn d * (Rl.cn b * Rl.sn d):=by
  have u:=unit_len b d
  rw [← u]
  exact Rl.ind3 (P:=fun x y z=>x + z = x + y + z - y) (fun a b c=>Rl.pt fun n=>by simp only [Rl.f_add,Rl.f_sub]; grind) _ _ _
theorem ath_zero : Rl.Ath (Rl.q 0) (Rl.q 0):=by
  show Rl.ex (Rl.q 0 + Rl.q 0) * (Rl.q 1 - Rl.q 0) = Rl.q 1 + Rl.q 0
  rw [Rl.add_zero,Rl.ex_zero,Rl.sub_zero,Rl.add_zero,Rl.one_mul]
theorem Trans_middle (p : Pj) (q : Pt) (hp : S_ValidProjection p = true) : (bif (S_TransverseForward p (⟨q.lat,p.lon0⟩ : Pt)).2.val != 0 then true else bif S_HasI (S_TransverseForward p (⟨q.lat,p.lon0⟩ : Pt)).1.x (c64 0) then (bif (S_TransverseTurn p (⟨q.lat,p.lon0⟩ : Pt)).2.val != 0 then true else S_HasI (S_TransverseTurn p (⟨q.lat,p.lon0⟩ : Pt)).1 (c64 0)) else false) = true:=by
  cases hf : ((S_TransverseForward p (⟨q.lat,p.lon0⟩ : Pt)).2.val != 0) with
  | true=>rfl
  | false=>
    rw [cond_f]
    have h0 : (S_TransverseForward p (⟨q.lat,p.lon0⟩ : Pt)).2.val = 0:=by simpa using hf
    obtain ⟨k1,k2,k3,eX,oX,_,_⟩:=Transverse_ok h0
    have wz : (S_l11Wrap (w64 (p.lon0.val - p.lon0.val))).val = 0:=by
      have w : (w64 (p.lon0.val - p.lon0.val)).val = 0:=by rw [w64_val,Int.sub_self]; decide
      obtain ⟨j,_,_,e⟩:=Wrap_turn (w64 (p.lon0.val - p.lon0.val)) (by omega)
      have:=wrap_in64 (w64 (p.lon0.val - p.lon0.val))
      omega
    have T:=tTurn21 p (⟨q.lat,p.lon0⟩ : Pt)
    have S:=tSide21 p (⟨q.lat,p.lon0⟩ : Pt)
    change Tr _ (rad (S_l11Wrap (w64 (p.lon0.val - p.lon0.val))).val) at T
    change Tr _ (_ * Rl.sn (rad (S_l11Wrap (w64 (p.lon0.val - p.lon0.val))).val)) at S
    rw [wz,rad_zero] at T
    rw [wz,rad_zero,Rl.sn_zero,Rl.mul_zero] at S
    have X:=tAtanhS S ath_zero
    rw [eX,HasI_tr X,cond_t]
    cases ht : ((S_TransverseTurn p (⟨q.lat,p.lon0⟩ : Pt)).2.val != 0) with
    | true=>rfl
    | false=>
      rw [cond_f]
      have D : Tr (S_DirectionI (S_MulI (S_SinI (S_RadiansOf q.lat)) (S_SinI (S_l21Turn__pPj p (⟨q.lat,p.lon0⟩ : Pt)))) (S_CosI (S_l21Turn__pPj p (⟨q.lat,p.lon0⟩ : Pt)))) (Rl.q 0):=by
        have Y:=tMulS (tSinS (tRadS q.lat)) (tSinS T)
        have X:=tCosS T
        rw [Rl.sn_zero,Rl.mul_zero] at Y
        rw [Rl.cn_zero] at X
        refine tDirS Y X ⟨Rl.neg_pi_lt,Rl.le_of_lt Rl.pi_pos,Rl.q 1,Rl.q_lt.2 (by decide),?_,?_⟩
        · rw [Rl.sn_zero,Rl.mul_zero]
        · rw [Rl.cn_zero,Rl.mul_one]
      unfold S_TransverseTurn at ht ⊢
      simp only [bindP_e,k1,k2,k3,Bool.not_true,cond_f] at ht ⊢
      generalize S_DirectionI (S_MulI (S_SinI (S_RadiansOf q.lat)) (S_SinI (S_l21Turn__pPj p (⟨q.lat,p.lon0⟩ : Pt)))) (S_CosI (S_l21Turn__pPj p (⟨q.lat,p.lon0⟩ : Pt))) = d at *
      obtain ⟨e1,_⟩:=known_out (x:=d) (by simpa using ht)
      rw [e1]
      exact HasI_tr D
theorem pure_FnTransverse (code more : Cd) : L_FnTransverse code more = true:=by
  unfold L_FnTransverse
  rw [bindP_e]
  cases L_d8Long code more with
  | true=>rfl
  | false=>
    rw [cond_f,bindP_e,bindP_e]
    generalize S_E8Transverse code = p
    generalize S_E8Point more = q
    simp only [bindP_e,eq_TransverseForward,eq_TransverseScale,eq_TransverseInverse,eq_TransverseTurn]
    by_cases hc : (S_TransverseForward p q).2.val = 0
    · have c0 : ((S_TransverseForward p q).2.val != 0) = false:=by rw [hc]; decide
      rw [c0,cond_f]
      obtain ⟨k1,hq,k3,eX,oX,eY,oY⟩:=Transverse_ok hc
      have hp:=ok_proj k1
      have mid:=Trans_middle p q hp
      obtain ⟨b1,b2,b3,b4⟩:=Lat_bound hq
      obtain ⟨v1,v2,v3,v4⟩:=Valid_bound hp
      obtain ⟨l1,l2⟩:=rad_hp b1 b2
      have wd : (w64 (q.lon.val - p.lon0.val)).val = q.lon.val - p.lon0.val:=by rw [w64_val]; omega
      obtain ⟨j,j1,j2,ej⟩:=Wrap_turn (w64 (q.lon.val - p.lon0.val)) (by omega)
      have wb:=wrap_in64 (w64 (q.lon.val - p.lon0.val))
      rw [wd] at ej
      have T:=tTurn21 p q
      have S:=tSide21 p q
      generalize S_l11Wrap (w64 (q.lon.val - p.lon0.val)) = w at *
      generalize S_TransverseForward p q = xy at *
      obtain ⟨⟨x1,x2⟩,_⟩:=Atanh_known S oX
      have sq:=side_sq (rad q.lat.val) (rad w.val)
      generalize hx : Rl.cn (rad q.lat.val) * Rl.sn (rad w.val) = x at *
      obtain ⟨t,ht⟩:=Rl.ath_ex x1 x2
      have X:=tAtanhS S ht
      have rp : Rl.q 0 < Rl.q 1 - x * x:=by
        have a : Rl.q 0 < Rl.q 1 - x:=fun k=>x2 (by have:=Rl.add_le_add k (Rl.le_refl x); rwa [Rl.sub_add_cancel,Rl.zero_add] at this)
        have b : Rl.q 0 < Rl.q 1 + x:=fun k=>x1 (by have:=Rl.sub_le_sub k (Rl.le_refl (Rl.q 1)); rwa [Rl.zero_sub,Rl.add_sub_l] at this)
        have:=Rl.mul_pos b a
        rwa [show (Rl.q 1 + x) * (Rl.q 1 - x) = Rl.q 1 - x * x from Rl.mk_ind (P:=fun x=>(Rl.q 1 + x) * (Rl.q 1 - x) = Rl.q 1 - x * x) (fun a=>Rl.pt fun n=>by simp only [Rl.f_add,Rl.f_sub,Rl.f_mul,Rl.f_q]; grind) x] at this
      obtain ⟨r,r0,er⟩:=Rl.sqrt_ex (Rl.le_of_lt rp)
      have r1:=root_pos rp r0 er
      obtain ⟨h1,h2⟩:=Rl.ath_hyp ht x1 x2 r0 er
      generalize hcc : Rl.q (1/2) * (Rl.ex t + Rl.ex (-t)) = c at *
      generalize hss : Rl.q (1/2) * (Rl.ex t - Rl.ex (-t)) = s at *
      have half2 : Rl.q (1/2) * Rl.q 2 = Rl.q 1:=by rw [← Rl.q_mul]; congr 1; decide +kernel
      have cr : c * r = Rl.q 1:=by rw [← hcc,Rl.mul_assoc,h1,half2]
      have sr : s * r = x:=by rw [← hss,Rl.mul_assoc,h2,← Rl.mul_assoc,half2,Rl.one_mul]
      have cpos : Rl.q 0 < c:=Rl.pos_of_mul (y:=r) (by rw [cr]; exact Rl.q_lt.2 (by decide)) r0
      have CH:=tCoshS X
      rw [hcc] at CH
      have SH:=tSinhS X
      rw [hss] at SH
      obtain ⟨eta,de⟩:=Rl.dir_ex (y:=Rl.sn (rad q.lat.val)) (x:=Rl.cn (rad q.lat.val) * Rl.cn (rad w.val)) (by rw [sq]; exact rp)
      obtain ⟨d1,d2⟩:=dir_unit de r0 (by rw [er,sq])
      have DI:=tDirS (tSinS (tRadS q.lat)) (tMulS (tCosS (tRadS q.lat)) (tCosS T)) de
      have Y:=tSubS DI (tRadS p.lat0)
      have DD:=tAddS Y (tRadS p.lat0)
      rw [Rl.sub_add_cancel] at DD
      rw [← eY] at DD oY
      rw [← eX] at X CH SH oX
      have bX : Bd 74891037600 xy.1.x:=Bd.of (by rw [eX]; exact Atanh_bo _) oX
      have bY : Bd 100300000000000 xy.1.y:=Bd.of (by rw [eY]; exact ((Dir_bo _ _).sub (Rad_bd _ (by omega)).bo).mono (by decide)) oY
      have bD:=bY.add (Rad_bd p.lat0 (by omega)) (by decide)
      obtain ⟨oC,lC⟩:=Cosh_ok bX X
      have bS:=Sin_bd (S_AddI xy.1.y (S_RadiansOf p.lat0))
      have pC:=Ok4p oC
      have pS:=Ok4p bS.1
      have bs1:=bS.2.1
      have bs2:=bS.2.2
      obtain ⟨z,ez,oz,_,_⟩:=DivI_in bS.1 oC (by omega) (L:=-30000000000) (U:=30000000000) (by decide) (by decide) (by omega) (by omega) (by omega) (by omega)
      have oSine : S_l04Ok (S_DivI (S_SinI (S_AddI xy.1.y (S_RadiansOf p.lat0))) (S_CoshI xy.1.x)) = true:=by rw [ez]; exact oz
      have SN : Tr (S_DivI (S_SinI (S_AddI xy.1.y (S_RadiansOf p.lat0))) (S_CoshI xy.1.x)) (Rl.sn (rad q.lat.val)):=tDivS (tSinS DD) CH (by rw [d1,Rl.mul_comm r,Rl.mul_assoc,Rl.mul_comm r,cr,Rl.mul_one])
      have LA:=tAsinS SN l1 l2
      have oLA:=Asin_known SN
      have inv : S_TransverseInverse p xy.1 = (S_AsinI (S_DivI (S_SinI (S_AddI xy.1.y (S_RadiansOf p.lat0))) (S_CoshI xy.1.x)),S_AddI (S_RadiansOf p.lon0) (S_DirectionI (S_SinhI xy.1.x) (S_CosI (S_AddI xy.1.y (S_RadiansOf p.lat0)))),c64 0):=by
        unfold S_TransverseInverse S_IsWhole
        simp only [bindP_e,k1,bD.1,oSine,oLA,Bool.not_true,cond_f]
      have i0 : ((S_TransverseInverse p xy.1).2.2.val != 0) = false:=by rw [inv]; show ((c64 0).val != 0) = false; rw [c64_v]; decide
      have at_ : S_AtPoint (S_TransverseInverse p xy.1).1 (S_TransverseInverse p xy.1).2.1 q = true:=by
        rw [inv]
        refine tAtPoint hq j (by omega) LA ?_
        rcases pole_or hq with k | k | k
        · exact .inl k
        · exact .inr (.inl k)
        · right; right
          obtain ⟨r1',r2'⟩:=wrap_range w wb
          have e1 : s = Rl.cn (rad q.lat.val) * c * Rl.sn (rad w.val):=by
            have : s * (r * c) = x * c:=by rw [← Rl.mul_assoc,sr]
            rw [Rl.mul_comm r,cr,Rl.mul_one] at this
            rw [this,← hx,Rl.mul_assoc,Rl.mul_assoc,Rl.mul_comm c]
          have e2 : Rl.cn eta = Rl.cn (rad q.lat.val) * c * Rl.cn (rad w.val):=by
            have : Rl.cn (rad q.lat.val) * Rl.cn (rad w.val) * c = Rl.cn eta:=by rw [d2,Rl.mul_comm r,Rl.mul_assoc,Rl.mul_comm r,cr,Rl.mul_one]
            rw [← this,Rl.mul_assoc,Rl.mul_assoc,Rl.mul_comm c]
          have L:=tAddS (tRadS p.lon0) (tDirS SH (tCosS DD) (t:=rad w.val) (by rw [e1,e2]; exact dir_scale (Rl.mul_pos k cpos) r1' r2'))
          rw [← rad_add,show p.lon0.val + w.val = q.lon.val + 3600000000 * j from by omega] at L
          exact L
      rw [i0,at_]
      simp only [Bool.not_true,cond_f,mid]
      cases hd : ((S_TransverseScale p q).2.val == 0) with
      | false=>rfl
      | true=>
        rw [cond_t]
        have K : ((S_LessI (S_TransverseScale p q).1 (S_Integer (c64 1))).val == 1) = false:=by
          have KT : Tr (S_DivI (S_Integer (c64 1)) (S_SqrtI (S_SubI (S_Integer (c64 1)) (S_SqrI (S_l21Side__pPj p q))))) c:=tDivS tOneS (tSqrtS (tSubS tOneS (tSqrS S)) r0 er) cr
          unfold S_TransverseScale at hd ⊢
          simp only [bindP_e,k1,hq,k3,Bool.not_true,cond_f] at hd ⊢
          generalize S_DivI (S_Integer (c64 1)) (S_SqrtI (S_SubI (S_Integer (c64 1)) (S_SqrI (S_l21Side__pPj p q)))) = K at *
          obtain ⟨e1,_⟩:=known_out (x:=K) (by simpa using hd)
          rw [e1]
          refine LessI_no KT tOneS ?_
          have rl : r ≤ Rl.q 1:=Rl.le_of_sq (by
            rw [er,Rl.mul_one]
            have:=Rl.sub_le_sub (Rl.le_refl (Rl.q 1)) (Rl.sq_nonneg x)
            rwa [Rl.sub_zero] at this) (Rl.q_le.2 (by decide))
          have:=Rl.mul_le_mul_l rl (Rl.le_of_lt cpos)
          rwa [cr,Rl.mul_one] at this
        rw [K,cond_f]
    · have c0 : ((S_TransverseForward p q).2.val != 0) = true:=by simp only [bne_iff_ne,ne_eq]; exact hc
      rw [c0,cond_t]
      exact beq_self_eq_true _
end Go.Proofs.YtcdkepbgjgcjfaaGreat.Abs
