/- Plain laws: truth of enclosures; movements of shifts; the law FnShifts. -/
import Derived.Test.YtfhnlkinjbakgaaGreatDoorShfReal
import Derived.Test.YtfhnlkinjbakgaaGreatDoorShfQa
import Derived.Test.YtfhnlkinjbakgaaGreatDoorShfFa
set_option linter.unusedVariables false
set_option linter.unusedSimpArgs false
namespace Go.Proofs.YtfhnlkinjbakgaaGreatDoor.Abs
open Go
def Tr (I : Iv) (x : Rl.R) : Prop:=S_l04Ok I = true → Rl.In I.lo.val I.hi.val x
theorem tWhole (x : Rl.R) : Tr S_l04Whole x:=fun h=>absurd h (by decide)
theorem tAddS {a b : Iv} {x y : Rl.R} (ha : Tr a x) (hb : Tr b y) : Tr (S_AddI a b) (x + y):=fun h=>by
  obtain ⟨h1,h2,h3,h4⟩:=AddI_out h
  rw [h3,h4]
  exact (ha h1).add (hb h2)
theorem tSubS {a b : Iv} {x y : Rl.R} (ha : Tr a x) (hb : Tr b y) : Tr (S_SubI a b) (x - y):=fun h=>by
  obtain ⟨h1,h2,h3,h4⟩:=SubI_out h
  rw [h3,h4]
  exact (ha h1).sub (hb h2)
theorem tMulS {a b : Iv} {x y : Rl.R} (ha : Tr a x) (hb : Tr b y) : Tr (S_MulI a b) (x * y):=fun h=>by
  obtain ⟨h1,h2,a1,a2,b1,b2,c1,c2,d1,d2⟩:=MulI_out h
  exact (ha h1).mul (hb h2) ⟨a1,a2⟩ ⟨b1,b2⟩ ⟨c1,c2⟩ ⟨d1,d2⟩
theorem tDivS {a b : Iv} {x y z : Rl.R} (ha : Tr a x) (hb : Tr b y) (hz : z * y = x) : Tr (S_DivI a b) z:=fun h=>by
  obtain ⟨h1,h2,h0,hc⟩:=DivI_out h
  have A:=ha h1
  have B:=hb h2
  have ob:=B.ord
  rcases h0 with h0 | h0
  · have c1:=(hc _ _ (.inl rfl) (.inl rfl)).1 h0
    have c2:=(hc _ _ (.inl rfl) (.inr rfl)).1 (by omega)
    have c3:=(hc _ _ (.inr rfl) (.inl rfl)).1 h0
    have c4:=(hc _ _ (.inr rfl) (.inr rfl)).1 (by omega)
    exact A.div_pos B h0 hz c1.1 c2.1 c3.2 c4.2
  · have c1:=(hc _ _ (.inl rfl) (.inl rfl)).2 (by omega)
    have c2:=(hc _ _ (.inl rfl) (.inr rfl)).2 h0
    have c3:=(hc _ _ (.inr rfl) (.inl rfl)).2 (by omega)
    have c4:=(hc _ _ (.inr rfl) (.inr rfl)).2 h0
    have A':=A.neg
    have B':=B.neg
    have hz' : z * -y = -x:=by rw [Rl.mul_neg,hz]
    refine A'.div_pos B' (by omega) hz' ?_ ?_ ?_ ?_
    · rw [Int.mul_neg,Int.neg_mul]; omega
    · rw [Int.mul_neg,Int.neg_mul]; omega
    · rw [Int.mul_neg,Int.neg_mul]; omega
    · rw [Int.mul_neg,Int.neg_mul]; omega
theorem tNegS {a : Iv} {x : Rl.R} (ha : Tr a x) : Tr (S_NegI a) (-x):=fun h=>by
  unfold S_NegI at h ⊢
  simp only [bindP_e] at h ⊢
  cases h1 : S_l04Ok a with
  | false=>rw [h1] at h; simp only [Bool.not_false,cond_t] at h; exact absurd h (by decide)
  | true=>
    rw [h1] at h
    simp only [Bool.not_true,cond_f] at h ⊢
    rw [Make_out h]
    have A:=(ha h1).neg
    have p:=Ok4p h1
    show Rl.In (w64 (0 - a.hi.val)).val (w64 (0 - a.lo.val)).val _
    rw [w64_val,w64_val]
    refine A.mono ?_ ?_ <;> omega
theorem MulDiv_val {a b d : I64} (hd : 0 < d.val) (h1 : -85070591730234615865843651857942052864 ≤ a.val * b.val) (h2 : a.val * b.val ≤ 85070591730234615865843651857942052864) (k1 : -9223372036854775808 ≤ a.val * b.val / d.val) (k2 : a.val * b.val / d.val ≤ 9223372036854775807) :
    ∃ r : I64,S_MulDivFloor a b d = (r,true) ∧ r.val = a.val * b.val / d.val:=by
  have hm : (S_l02Mul a b).z = a.val * b.val:=sp_Mul a b
  obtain ⟨s1,s2,s3⟩:=sp_Div (S_l02Mul a b) d hd (by rw [hm]; exact h1) (by rw [hm]; exact h2)
  rw [hm] at s1
  have hq : (S_l02Div (S_l02Mul a b) d).1.z = a.val * b.val / d.val:=by
    generalize (S_l02Div (S_l02Mul a b) d).1.z = q at *
    generalize (S_l02Div (S_l02Mul a b) d).2.val = r at *
    rw [← s1,Int.mul_comm q,Int.add_comm,Int.add_mul_ediv_left _ _ (by omega),Int.ediv_eq_zero_of_lt s2 s3,Int.zero_add]
  obtain ⟨n,hn,hi⟩:=Int_in _ (by rw [hq]; exact k1) (by rw [hq]; exact k2)
  refine ⟨n,?_,by rw [hn,hq]⟩
  unfold S_MulDivFloor
  have e5 : decide (d.val ≤ 0) = false:=decide_eq_false (by omega)
  simp only [bindP_e,e5,cond_f,hi]
theorem max_of {a b : I64} {v : Rl.R} (h1 : Rl.fx a.val ≤ v) (h2 : Rl.fx b.val ≤ v) : Rl.fx (S_l00Max a b).val ≤ v:=by
  rcases max_is a b with e | e <;> rw [e] <;> assumption
theorem min_of {a b : I64} {v : Rl.R} (h1 : v ≤ Rl.fx a.val) (h2 : v ≤ Rl.fx b.val) : v ≤ Rl.fx (S_l00Min a b).val:=by
  rcases min_is a b with e | e <;> rw [e] <;> assumption
theorem MeetI_tr {a b : Iv} {v : Rl.R} (ha : Tr a v) (hb : Tr b v) : (S_MeetI a b).2 = true ∧ Tr (S_MeetI a b).1 v:=by
  unfold S_MeetI
  simp only [bindP_e]
  cases h1 : S_l04Ok a with
  | false=>
    simp only [Bool.not_false,cond_t]
    cases h2 : S_l04Ok b with
    | false=>simp only [Bool.not_false,cond_t]; exact ⟨trivial,tWhole _⟩
    | true=>simp only [Bool.not_true,cond_f]; exact ⟨trivial,hb⟩
  | true=>
    simp only [Bool.not_true,cond_f]
    cases h2 : S_l04Ok b with
    | false=>simp only [Bool.not_false,cond_t]; exact ⟨trivial,ha⟩
    | true=>
      simp only [Bool.not_true,cond_f]
      have A:=ha h1
      have B:=hb h2
      have k1:=max_of (a:=a.lo) (b:=b.lo) A.1 B.1
      have k2:=min_of (a:=a.hi) (b:=b.hi) A.2 B.2
      have k3:=Rl.fx_le.1 (Rl.le_trans k1 k2)
      have d : decide ((S_l00Max a.lo b.lo).val > (S_l00Min a.hi b.hi).val) = false:=decide_eq_false (by omega)
      rw [d,cond_f]
      exact ⟨rfl,fun _=>⟨k1,k2⟩⟩
theorem OverlapI_tr {a b : Iv} {v : Rl.R} (ha : Tr a v) (hb : Tr b v) : S_OverlapI a b = true:=by
  unfold S_OverlapI
  simp only [bindP_e]
  exact (MeetI_tr ha hb).1
end Go.Proofs.YtfhnlkinjbakgaaGreatDoor.Abs
set_option linter.unusedVariables false
set_option linter.unusedSimpArgs false
namespace Go.Proofs.YtfhnlkinjbakgaaGreatDoor.Abs
open Go
theorem fx_neg_lt {n : Int} (h : n < 0) : Rl.fx n < Rl.q 0:=by rw [← Rl.fx_zero]; exact fun k=>absurd (Rl.fx_le.1 k) (by omega)
theorem HasI_zero {a : Iv} (h : S_l04Ok a = true) : S_HasI a (c64 0) = true ↔ a.lo.val ≤ 0 ∧ 0 ≤ a.hi.val:=by
  unfold S_HasI S_l04Has
  simp only [bindP_e,h,Bool.not_true,cond_f,sp_in,c64_v,Bool.and_eq_true,decide_eq_true_eq]
theorem tDotS {a b : Vc} {a1 a2 a3 b1 b2 b3 : Rl.R} (h1 : Tr a.x a1) (h2 : Tr a.y a2) (h3 : Tr a.z a3) (k1 : Tr b.x b1) (k2 : Tr b.y b2) (k3 : Tr b.z b3) : Tr (S_DotV a b) (a1 * b1 + a2 * b2 + a3 * b3):=by
  unfold S_DotV
  simp only [bindP_e]
  exact tAddS (tAddS (tMulS h1 k1) (tMulS h2 k2)) (tMulS h3 k3)
theorem tCrossS {a b : Vc} {a1 a2 a3 b1 b2 b3 : Rl.R} (h1 : Tr a.x a1) (h2 : Tr a.y a2) (h3 : Tr a.z a3) (k1 : Tr b.x b1) (k2 : Tr b.y b2) (k3 : Tr b.z b3) : Tr (S_CrossV a b).x (a2 * b3 - a3 * b2) ∧ Tr (S_CrossV a b).y (a3 * b1 - a1 * b3) ∧ Tr (S_CrossV a b).z (a1 * b2 - a2 * b1):=by
  unfold S_CrossV
  simp only [bindP_e]
  exact ⟨tSubS (tMulS h2 k3) (tMulS h3 k2),tSubS (tMulS h3 k1) (tMulS h1 k3),tSubS (tMulS h1 k2) (tMulS h2 k1)⟩
end Go.Proofs.YtfhnlkinjbakgaaGreatDoor.Abs
set_option linter.unusedVariables false
set_option linter.unusedSimpArgs false
namespace Go.Proofs.YtfhnlkinjbakgaaGreatDoor.Abs
open Go
def Bd (N : Int) (z : Iv) : Prop:=S_l04Ok z = true ∧ -N ≤ z.lo.val ∧ z.hi.val ≤ N
def Bo (N : Int) (z : Iv) : Prop:=S_l04Ok z = true → -N ≤ z.lo.val ∧ z.hi.val ≤ N
theorem Bd.mono {N M : Int} {z : Iv} (h : Bd N z) (k : N ≤ M) : Bd M z:=⟨h.1,by have:=h.2.1; omega,by have:=h.2.2; omega⟩
theorem Bd.mul {x y : Iv} {A B C : Int} (hx : Bd A x) (hy : Bd B y) (hC : A * B ≤ C * 4294967296) (hb : C < 1152921504606846976) : Bd C (S_MulI x y):=by
  obtain ⟨x0,x1,x2⟩:=hx
  obtain ⟨y0,y1,y2⟩:=hy
  have px:=Ok4p x0
  have py:=Ok4p y0
  have key : ∀ p q : Int,-A ≤ p → p ≤ A → -B ≤ q → q ≤ B → -C * 4294967296 ≤ p * q ∧ p * q ≤ C * 4294967296:=fun p q h1 h2 h3 h4=>by
    have a : p * q ≤ A * B ∧ -(A * B) ≤ p * q:=by
      have e1:=Int.mul_nonneg (show 0 ≤ A - p by omega) (show 0 ≤ B + q by omega)
      have e2:=Int.mul_nonneg (show 0 ≤ A + p by omega) (show 0 ≤ B - q by omega)
      have e3:=Int.mul_nonneg (show 0 ≤ A - p by omega) (show 0 ≤ B - q by omega)
      have e4:=Int.mul_nonneg (show 0 ≤ A + p by omega) (show 0 ≤ B + q by omega)
      have f1 : (A - p) * (B + q) = A * B + A * q - p * B - p * q:=by grind
      have f2 : (A + p) * (B - q) = A * B - A * q + p * B - p * q:=by grind
      have f3 : (A - p) * (B - q) = A * B - A * q - p * B + p * q:=by grind
      have f4 : (A + p) * (B + q) = A * B + A * q + p * B + p * q:=by grind
      omega
    rw [Int.neg_mul]; omega
  obtain ⟨z,e,z0,z1,z2,_⟩:=MulI_in x0 y0 (L:=-C) (U:=C) (by omega) hb (key _ _ (by omega) (by omega) (by omega) (by omega)) (key _ _ (by omega) (by omega) (by omega) (by omega)) (key _ _ (by omega) (by omega) (by omega) (by omega)) (key _ _ (by omega) (by omega) (by omega) (by omega))
  rw [e]
  exact ⟨z0,z1,z2⟩
theorem Bd.add {x y : Iv} {A B : Int} (hx : Bd A x) (hy : Bd B y) (hb : A + B < 1152921504606846976) : Bd (A + B) (S_AddI x y):=by
  obtain ⟨x0,x1,x2⟩:=hx
  obtain ⟨y0,y1,y2⟩:=hy
  have px:=Ok4p x0
  have py:=Ok4p y0
  have w1 : (w64 (x.lo.val + y.lo.val)).val = x.lo.val + y.lo.val:=by rw [w64_val]; omega
  have w2 : (w64 (x.hi.val + y.hi.val)).val = x.hi.val + y.hi.val:=by rw [w64_val]; omega
  have hb : -1152921504606846976 < (w64 (x.lo.val + y.lo.val)).val ∧ (w64 (x.lo.val + y.lo.val)).val ≤ (w64 (x.hi.val + y.hi.val)).val ∧ (w64 (x.hi.val + y.hi.val)).val < 1152921504606846976:=by omega
  unfold S_AddI
  simp only [bindP_e,x0,y0,Bool.not_true,cond_f]
  rw [Make_ok hb]
  exact ⟨Ok4_of hb,by show _ ≤ (w64 _).val; omega,by show (w64 _).val ≤ _; omega⟩
theorem Bd.sub {x y : Iv} {A B : Int} (hx : Bd A x) (hy : Bd B y) (hb : A + B < 1152921504606846976) : Bd (A + B) (S_SubI x y):=by
  obtain ⟨x0,x1,x2⟩:=hx
  obtain ⟨y0,y1,y2⟩:=hy
  have px:=Ok4p x0
  have py:=Ok4p y0
  have w1 : (w64 (x.lo.val - y.hi.val)).val = x.lo.val - y.hi.val:=by rw [w64_val]; omega
  have w2 : (w64 (x.hi.val - y.lo.val)).val = x.hi.val - y.lo.val:=by rw [w64_val]; omega
  have hb : -1152921504606846976 < (w64 (x.lo.val - y.hi.val)).val ∧ (w64 (x.lo.val - y.hi.val)).val ≤ (w64 (x.hi.val - y.lo.val)).val ∧ (w64 (x.hi.val - y.lo.val)).val < 1152921504606846976:=by omega
  unfold S_SubI
  simp only [bindP_e,x0,y0,Bool.not_true,cond_f]
  rw [Make_ok hb]
  exact ⟨Ok4_of hb,by show _ ≤ (w64 _).val; omega,by show (w64 _).val ≤ _; omega⟩
theorem Bo.add {x y : Iv} {A B : Int} (hx : Bo A x) (hy : Bo B y) : Bo (A + B) (S_AddI x y):=fun h=>by
  obtain ⟨h1,h2,e1,e2⟩:=AddI_out h
  have a:=hx h1
  have b:=hy h2
  omega
theorem Bo.sub {x y : Iv} {A B : Int} (hx : Bo A x) (hy : Bo B y) : Bo (A + B) (S_SubI x y):=fun h=>by
  obtain ⟨h1,h2,e1,e2⟩:=SubI_out h
  have a:=hx h1
  have b:=hy h2
  omega
theorem Bo.neg {x : Iv} {A : Int} (hx : Bo A x) : Bo A (S_NegI x):=fun h=>by
  cases h1 : S_l04Ok x with
  | false=>
    unfold S_NegI at h
    simp only [bindP_e,h1,Bool.not_false,cond_t] at h
    exact absurd h (by decide)
  | true=>
    obtain ⟨z,e,_,z1,z2⟩:=neg_val h1
    have a:=hx h1
    rw [e]
    omega
theorem Bo.mono {N M : Int} {z : Iv} (h : Bo N z) (k : N ≤ M) : Bo M z:=fun o=>by have:=h o; omega
end Go.Proofs.YtfhnlkinjbakgaaGreatDoor.Abs
set_option linter.unusedVariables false
set_option linter.unusedSimpArgs false
namespace Go.Proofs.YtfhnlkinjbakgaaGreatDoor.Abs
open Go
theorem Bd.of {N : Int} {z : Iv} (h : Bo N z) (o : S_l04Ok z = true) : Bd N z:=⟨o,h o⟩
end Go.Proofs.YtfhnlkinjbakgaaGreatDoor.Abs
set_option linter.unusedVariables false
set_option linter.unusedSimpArgs false
namespace Go.Proofs.YtfhnlkinjbakgaaGreatDoor.Abs
open Go
def Rg (L U : Int) (z : Iv) : Prop:=S_l04Ok z = true ∧ L ≤ z.lo.val ∧ z.hi.val ≤ U
theorem Rg.bd {L U N : Int} {z : Iv} (h : Rg L U z) (h1 : -N ≤ L) (h2 : U ≤ N) : Bd N z:=⟨h.1,by have:=h.2.1; omega,by have:=h.2.2; omega⟩
theorem Rg.add {x y : Iv} {a b c d N : Int} (hx : Rg a b x) (hy : Rg c d y) (n1 : -N ≤ a + c) (n2 : b + d ≤ N) (m1 : Bd N x) (m2 : Bd N y) (hN : N + N < 1152921504606846976) : Rg (a + c) (b + d) (S_AddI x y):=by
  have o:=(m1.add m2 hN).1
  obtain ⟨_,_,e1,e2⟩:=AddI_out o
  exact ⟨o,by rw [e1]; have:=hx.2.1; have:=hy.2.1; omega,by rw [e2]; have:=hx.2.2; have:=hy.2.2; omega⟩
theorem Rg.sub {x y : Iv} {a b c d N : Int} (hx : Rg a b x) (hy : Rg c d y) (m1 : Bd N x) (m2 : Bd N y) (hN : N + N < 1152921504606846976) : Rg (a - d) (b - c) (S_SubI x y):=by
  have o:=(m1.sub m2 hN).1
  obtain ⟨_,_,e1,e2⟩:=SubI_out o
  exact ⟨o,by rw [e1]; have:=hx.2.1; have:=hy.2.2; omega,by rw [e2]; have:=hx.2.2; have:=hy.2.1; omega⟩
theorem Rg.mul {x y : Iv} {a b c d L U : Int} (hx : Rg a b x) (hy : Rg c d y) (a0 : 0 ≤ a) (c0 : 0 ≤ c) (hL : L * 4294967296 ≤ a * c) (hU : b * d ≤ U * 4294967296) (l1 : -1152921504606846976 < L) (u1 : U < 1152921504606846976) : Rg L U (S_MulI x y):=by
  obtain ⟨ox,x1,x2⟩:=hx
  obtain ⟨oy,y1,y2⟩:=hy
  have px:=Ok4p ox
  have py:=Ok4p oy
  have key : ∀ p q : Int,a ≤ p → p ≤ b → c ≤ q → q ≤ d → L * 4294967296 ≤ p * q ∧ p * q ≤ U * 4294967296:=fun p q h1 h2 h3 h4=>
    ⟨Int.le_trans hL (Int.mul_le_mul h1 h3 c0 (by omega)),Int.le_trans (Int.mul_le_mul h2 h4 (by omega) (by omega)) hU⟩
  obtain ⟨z,ez,oz,z1,z2,_⟩:=MulI_in ox oy l1 u1 (key _ _ x1 (by omega) y1 (by omega)) (key _ _ x1 (by omega) (by omega) y2) (key _ _ (by omega) x2 y1 (by omega)) (key _ _ (by omega) x2 (by omega) y2)
  rw [ez]
  exact ⟨oz,z1,z2⟩
theorem Bd.rg {N : Int} {z : Iv} (h : Bd N z) : Rg (-N) N z:=h
theorem Bd.neg {N : Int} {z : Iv} (h : Bd N z) : Bd N (S_NegI z):=by
  have p:=Ok4p h.1
  have h1:=h.2.1
  have h2:=h.2.2
  have w1 : (w64 (0 - z.hi.val)).val = -z.hi.val:=by rw [w64_val]; omega
  have w2 : (w64 (0 - z.lo.val)).val = -z.lo.val:=by rw [w64_val]; omega
  unfold S_NegI
  simp only [bindP_e,h.1,Bool.not_true,cond_f]
  have hb : -1152921504606846976 < (w64 (0 - z.hi.val)).val ∧ (w64 (0 - z.hi.val)).val ≤ (w64 (0 - z.lo.val)).val ∧ (w64 (0 - z.lo.val)).val < 1152921504606846976:=by omega
  rw [Make_ok hb]
  exact ⟨Ok4_of hb,by show -N ≤ (w64 (0 - z.hi.val)).val; omega,by show (w64 (0 - z.lo.val)).val ≤ N; omega⟩
theorem Quot_bd {a d : I64} {N : Int} (hd : 1 ≤ d.val) (hd2 : d.val ≤ 1000000000000) (ha : -2000000000 ≤ a.val ∧ a.val ≤ 2000000000) (h1 : -N * d.val ≤ a.val * 4294967296) (h2 : a.val * 4294967296 ≤ N * d.val) (hN : N < 1152921504606846976) : Bd N (S_Quotient a d):=by
  have dv:=Int.ediv_mul_le (a.val * 4294967296) (show d.val ≠ 0 by omega)
  have dl:=Int.lt_ediv_add_one_mul_self (a.val * 4294967296) (show 0 < d.val by omega)
  have lo : -N ≤ a.val * 4294967296 / d.val:=Int.le_ediv_of_mul_le (by omega) h1
  have hi : a.val * 4294967296 / d.val ≤ N:=by
    refine Classical.byContradiction fun k=>?_
    have:=Int.mul_le_mul_of_nonneg_right (show N + 1 ≤ a.val * 4294967296 / d.val by omega) (show 0 ≤ d.val by omega)
    rw [Int.add_mul,Int.one_mul] at this
    omega
  obtain ⟨r,hr,rv⟩:=MulDiv_val (a:=a) (b:=c64 4294967296) (d:=d) (by omega) (by rw [c64_v]; omega) (by rw [c64_v]; omega) (by rw [c64_v]; omega) (by rw [c64_v]; omega)
  rw [c64_v] at rv
  rw [← rv] at lo hi dv dl
  have end_ok : ∀ z : I64,-N ≤ z.val → z.val ≤ N → S_l03End z true = (z,true):=fun z h1 h2=>by
    unfold S_l03End
    rw [Bool.not_true,cond_f,bindP_e,Ok3_of (by omega) (by omega),Bool.not_true,cond_f]
  have F : S_l03Floor a d = (r,true):=by
    unfold S_l03Floor
    rw [decide_eq_false (show ¬ d.val ≤ 0 by omega),cond_f,bindP_e,bindP_e,hr]
    rw [end_ok r lo hi]
  have C : ∃ s : I64,S_l03Ceil a d = (s,true) ∧ r.val ≤ s.val ∧ s.val ≤ N:=by
    unfold S_l03Ceil
    rw [decide_eq_false (show ¬ d.val ≤ 0 by omega),cond_f,bindP_e,hr]
    have w1 : (w64 (r.val + 1)).val = r.val + 1:=by rw [w64_val]; omega
    have w2 : (w64 (a.val * 4294967296)).val = a.val * 4294967296:=by rw [w64_val]; omega
    rw [Int.add_mul,Int.one_mul] at dl
    have w3 : (w64 (r.val * d.val)).val = r.val * d.val:=by rw [w64_val]; omega
    simp only [bindP_e,Bool.not_true,cond_f,w2,w3]
    cases hb : (r.val * d.val != a.val * 4294967296) with
    | false=>rw [cond_f,end_ok r lo hi]; exact ⟨r,rfl,Int.le_refl _,hi⟩
    | true=>
      simp only [bne_iff_ne,ne_eq] at hb
      have lt : r.val < N:=by
        refine Classical.byContradiction fun k=>?_
        have e : r.val = N:=by omega
        rw [e] at dv hb
        omega
      rw [cond_t,end_ok _ (by omega) (by omega)]
      exact ⟨w64 (r.val + 1),rfl,by omega,by omega⟩
  obtain ⟨s,C,s1,s2⟩:=C
  unfold S_Quotient
  rw [decide_eq_false (show ¬ d.val < 0 by omega),cond_f]
  simp only [bindP_e,F,C,Bool.not_true,cond_f]
  have hb : -1152921504606846976 < r.val ∧ r.val ≤ s.val ∧ s.val < 1152921504606846976:=by omega
  rw [Make_ok hb]
  exact ⟨Ok4_of hb,lo,s2⟩
theorem Pi_bd : Bd 13500000000 S_PiI:=by
  have : S_l04Ok S_PiI = true ∧ -13500000000 ≤ S_PiI.lo.val ∧ S_PiI.hi.val ≤ 13500000000:=by decide +kernel
  exact this
theorem Arc_bd {n : I64} (h : -100000000 ≤ n.val ∧ n.val ≤ 100000000) : Bd 2300000 (S_l23Arc n):=by
  unfold S_l23Arc
  simp only [bindP_e]
  have Q : Bd 700000 (S_Quotient n (c64 648000000000)):=Quot_bd (by rw [c64_v]; omega) (by rw [c64_v]; omega) (by omega) (by rw [c64_v]; omega) (by rw [c64_v]; omega) (by decide)
  exact Pi_bd.mul Q (by decide) (by decide)
theorem Fac_rg {n : I64} (h : -1000000 ≤ n.val ∧ n.val ≤ 1000000) : Rg 4290672328 4299262264 (S_AddI (S_Integer (c64 1)) (S_Quotient n (c64 1000000000))):=by
  have Q : Bd 4294968 (S_Quotient n (c64 1000000000)):=Quot_bd (by rw [c64_v]; omega) (by rw [c64_v]; omega) (by omega) (by rw [c64_v]; omega) (by rw [c64_v]; omega) (by decide)
  have O : Rg 4294967296 4294967296 (S_Integer (c64 1)):=by
    have : S_l04Ok (S_Integer (c64 1)) = true ∧ 4294967296 ≤ (S_Integer (c64 1)).lo.val ∧ (S_Integer (c64 1)).hi.val ≤ 4294967296:=by decide
    exact this
  exact O.add Q.rg (N:=5000000000) (by decide) (by decide) (O.bd (by decide) (by decide)) (Q.mono (by decide)) (by decide)
theorem Shift_inv {s : Sf} (hr : (-100000000 ≤ s.rx.val ∧ s.rx.val ≤ 100000000) ∧ (-100000000 ≤ s.ry.val ∧ s.ry.val ≤ 100000000) ∧ (-100000000 ≤ s.rz.val ∧ s.rz.val ≤ 100000000)) (hs : -1000000 ≤ s.sc.val ∧ s.sc.val ≤ 1000000) :
    S_HasI (S_DotV (S_l23Affine__pSf s).m.a (S_CrossV (S_l23Affine__pSf s).m.b (S_l23Affine__pSf s).m.c)) (c64 0) = false:=by
  have K:=Fac_rg hs
  have Kb : Bd 4300000000 (S_AddI (S_Integer (c64 1)) (S_Quotient s.sc (c64 1000000000))):=K.bd (by decide) (by decide)
  have X:=Kb.mul (Arc_bd hr.1) (C:=2400000) (by decide) (by decide)
  have Y:=Kb.mul (Arc_bd hr.2.1) (C:=2400000) (by decide) (by decide)
  have Z:=Kb.mul (Arc_bd hr.2.2) (C:=2400000) (by decide) (by decide)
  unfold S_l23Affine__pSf S_DotV S_CrossV
  simp only [bindP_e]
  generalize S_AddI (S_Integer (c64 1)) (S_Quotient s.sc (c64 1000000000)) = k at *
  generalize S_MulI k (S_l23Arc s.rx) = x at *
  generalize S_MulI k (S_l23Arc s.ry) = y at *
  generalize S_MulI k (S_l23Arc s.rz) = z at *
  have KK:=K.mul K (L:=4286000000) (U:=4304000000) (by decide) (by decide) (by decide) (by decide) (by decide) (by decide)
  have XX:=X.mul X.neg (C:=1400) (by decide) (by decide)
  have ax:=KK.sub XX.rg (N:=5000000000) (KK.bd (by decide) (by decide)) (XX.mono (by decide)) (by decide)
  have XY:=X.mul Y (C:=1400) (by decide) (by decide)
  have ZK:=Z.neg.mul Kb (C:=2410000) (by decide) (by decide)
  have ay:=(XY.mono (show (1400 : Int) ≤ 2410000 by decide)).sub ZK (by decide)
  have ZX:=Z.neg.mul X.neg (C:=1400) (by decide) (by decide)
  have KY:=Kb.mul Y (C:=2410000) (by decide) (by decide)
  have az:=(ZX.mono (show (1400 : Int) ≤ 2410000 by decide)).sub KY (by decide)
  have d1:=K.mul ax (L:=4281000000) (U:=4320000000) (by decide) (by decide) (by decide) (by decide) (by decide) (by decide)
  have d2:=Z.mul ay (C:=3000) (by decide) (by decide)
  have d3:=Y.neg.mul az (C:=3000) (by decide) (by decide)
  have s1:=d1.add d2.rg (N:=5000000000) (by decide) (by decide) (d1.bd (by decide) (by decide)) (d2.mono (by decide)) (by decide)
  have s2:=s1.add d3.rg (N:=5000000000) (by decide) (by decide) (s1.bd (by decide) (by decide)) (d3.mono (by decide)) (by decide)
  have o:=s2.1
  have l:=s2.2.1
  cases hh : S_HasI (S_AddI (S_AddI (S_MulI k (S_SubI (S_MulI k k) (S_MulI x (S_NegI x)))) (S_MulI z (S_SubI (S_MulI x y) (S_MulI (S_NegI z) k)))) (S_MulI (S_NegI y) (S_SubI (S_MulI (S_NegI z) (S_NegI x)) (S_MulI k y)))) (c64 0) with
  | false=>rfl
  | true=>exact absurd ((HasI_zero o).1 hh).1 (by omega)
theorem any_tr (I : Iv) : ∃ x,Tr I x:=⟨Rl.fx I.lo.val,fun o=>⟨Rl.le_refl _,Rl.fx_le.2 (Ok4p o).2.1⟩⟩
def Tv (v : Vc) (x y z : Rl.R) : Prop:=Tr v.x x ∧ Tr v.y y ∧ Tr v.z z
theorem tApply {m : Mt} {v : Vc} {a1 a2 a3 b1 b2 b3 c1 c2 c3 x y z : Rl.R} (ha : Tv m.a a1 a2 a3) (hb : Tv m.b b1 b2 b3) (hc : Tv m.c c1 c2 c3) (hv : Tv v x y z) : Tv (S_ApplyM m v) (a1 * x + a2 * y + a3 * z) (b1 * x + b2 * y + b3 * z) (c1 * x + c2 * y + c3 * z):=by
  unfold S_ApplyM
  simp only [bindP_e]
  exact ⟨tDotS ha.1 ha.2.1 ha.2.2 hv.1 hv.2.1 hv.2.2,tDotS hb.1 hb.2.1 hb.2.2 hv.1 hv.2.1 hv.2.2,tDotS hc.1 hc.2.1 hc.2.2 hv.1 hv.2.1 hv.2.2⟩
theorem tAffine {m : Af} {v : Vc} {a1 a2 a3 b1 b2 b3 c1 c2 c3 t1 t2 t3 x y z : Rl.R} (ha : Tv m.m.a a1 a2 a3) (hb : Tv m.m.b b1 b2 b3) (hc : Tv m.m.c c1 c2 c3) (ht : Tv m.t t1 t2 t3) (hv : Tv v x y z) : Tv (S_ApplyAffine m v) (a1 * x + a2 * y + a3 * z + t1) (b1 * x + b2 * y + b3 * z + t2) (c1 * x + c2 * y + c3 * z + t3):=by
  unfold S_ApplyAffine S_AddV
  simp only [bindP_e]
  obtain ⟨p,q,r⟩:=tApply ha hb hc hv
  exact ⟨tAddS p ht.1,tAddS q ht.2.1,tAddS r ht.2.2⟩
theorem OverlapV_tr {u v : Vc} {x y z : Rl.R} (h : Tv u x y z) (k : Tv v x y z) : S_OverlapV u v = true:=by
  unfold S_OverlapV
  simp only [bindP_e,OverlapI_tr h.1 k.1,OverlapI_tr h.2.1 k.2.1,OverlapI_tr h.2.2 k.2.2,cond_t]
theorem Back_tr {m : Af} {v : Vc} (h : S_HasI (S_DotV m.m.a (S_CrossV m.m.b m.m.c)) (c64 0) = false) : (S_InvertAffine m).2 = true ∧ S_OverlapV (S_ApplyAffine (S_InvertAffine m).1 (S_ApplyAffine m v)) v = true:=by
  obtain ⟨a1,A1⟩:=any_tr m.m.a.x
  obtain ⟨a2,A2⟩:=any_tr m.m.a.y
  obtain ⟨a3,A3⟩:=any_tr m.m.a.z
  obtain ⟨b1,B1⟩:=any_tr m.m.b.x
  obtain ⟨b2,B2⟩:=any_tr m.m.b.y
  obtain ⟨b3,B3⟩:=any_tr m.m.b.z
  obtain ⟨c1,C1⟩:=any_tr m.m.c.x
  obtain ⟨c2,C2⟩:=any_tr m.m.c.y
  obtain ⟨c3,C3⟩:=any_tr m.m.c.z
  obtain ⟨t1,T1⟩:=any_tr m.t.x
  obtain ⟨t2,T2⟩:=any_tr m.t.y
  obtain ⟨t3,T3⟩:=any_tr m.t.z
  obtain ⟨x,X⟩:=any_tr v.x
  obtain ⟨y,Y⟩:=any_tr v.y
  obtain ⟨z,Z⟩:=any_tr v.z
  obtain ⟨p1,p2,p3⟩:=tCrossS B1 B2 B3 C1 C2 C3
  obtain ⟨q1,q2,q3⟩:=tCrossS C1 C2 C3 A1 A2 A3
  obtain ⟨r1,r2,r3⟩:=tCrossS A1 A2 A3 B1 B2 B3
  have D:=tDotS A1 A2 A3 p1 p2 p3
  have nz : (a1 * (b2 * c3 - b3 * c2) + a2 * (b3 * c1 - b1 * c3) + a3 * (b1 * c2 - b2 * c1)) < Rl.q 0 ∨ Rl.q 0 < (a1 * (b2 * c3 - b3 * c2) + a2 * (b3 * c1 - b1 * c3) + a3 * (b1 * c2 - b2 * c1)):=by
    have o : S_l04Ok (S_DotV m.m.a (S_CrossV m.m.b m.m.c)) = true:=by
      cases o : S_l04Ok (S_DotV m.m.a (S_CrossV m.m.b m.m.c)) with
      | true=>rfl
      | false=>
        unfold S_HasI at h
        simp only [bindP_e,o,Bool.not_false,cond_t] at h
        cases h
    have DD:=D o
    by_cases k : (S_DotV m.m.a (S_CrossV m.m.b m.m.c)).lo.val ≤ 0
    · have k2 : ¬ 0 ≤ (S_DotV m.m.a (S_CrossV m.m.b m.m.c)).hi.val:=fun k2=>by
        rw [(HasI_zero o).2 ⟨k,k2⟩] at h
        cases h
      exact .inl (Rl.lt_of_le_of_lt DD.2 (fx_neg_lt (by omega)))
    · exact .inr (Rl.lt_of_lt_of_le (Rl.fx_pos (by omega)) DD.1)
  have inv : S_InverseM m.m = ((⟨S_l10Over (S_l10Columns (⟨S_CrossV m.m.b m.m.c,S_CrossV m.m.c m.m.a,S_CrossV m.m.a m.m.b⟩ : Mt)).a (S_DotV m.m.a (S_CrossV m.m.b m.m.c)),S_l10Over (S_l10Columns (⟨S_CrossV m.m.b m.m.c,S_CrossV m.m.c m.m.a,S_CrossV m.m.a m.m.b⟩ : Mt)).b (S_DotV m.m.a (S_CrossV m.m.b m.m.c)),S_l10Over (S_l10Columns (⟨S_CrossV m.m.b m.m.c,S_CrossV m.m.c m.m.a,S_CrossV m.m.a m.m.b⟩ : Mt)).c (S_DotV m.m.a (S_CrossV m.m.b m.m.c))⟩ : Mt),true):=by
    unfold S_InverseM
    simp only [bindP_e,h,cond_f]
  unfold S_InvertAffine
  simp only [bindP_e,inv,Bool.not_true,cond_f]
  refine ⟨trivial,?_⟩
  generalize S_DotV m.m.a (S_CrossV m.m.b m.m.c) = d at *
  obtain ⟨e11,h11⟩:=Rl.quot_ex (x:=b2 * c3 - b3 * c2) nz
  obtain ⟨e12,h12⟩:=Rl.quot_ex (x:=c2 * a3 - c3 * a2) nz
  obtain ⟨e13,h13⟩:=Rl.quot_ex (x:=a2 * b3 - a3 * b2) nz
  obtain ⟨e21,h21⟩:=Rl.quot_ex (x:=b3 * c1 - b1 * c3) nz
  obtain ⟨e22,h22⟩:=Rl.quot_ex (x:=c3 * a1 - c1 * a3) nz
  obtain ⟨e23,h23⟩:=Rl.quot_ex (x:=a3 * b1 - a1 * b3) nz
  obtain ⟨e31,h31⟩:=Rl.quot_ex (x:=b1 * c2 - b2 * c1) nz
  obtain ⟨e32,h32⟩:=Rl.quot_ex (x:=c1 * a2 - c2 * a1) nz
  obtain ⟨e33,h33⟩:=Rl.quot_ex (x:=a1 * b2 - a2 * b1) nz
  have over : ∀ {u : Vc} {p q r e f g : Rl.R},Tv u p q r → e * (a1 * (b2 * c3 - b3 * c2) + a2 * (b3 * c1 - b1 * c3) + a3 * (b1 * c2 - b2 * c1)) = p → f * (a1 * (b2 * c3 - b3 * c2) + a2 * (b3 * c1 - b1 * c3) + a3 * (b1 * c2 - b2 * c1)) = q → g * (a1 * (b2 * c3 - b3 * c2) + a2 * (b3 * c1 - b1 * c3) + a3 * (b1 * c2 - b2 * c1)) = r → Tv (S_l10Over u d) e f g:=fun {u p q r e f g} hu he hf hg=>by
    unfold S_l10Over
    simp only [bindP_e]
    exact ⟨tDivS hu.1 D he,tDivS hu.2.1 D hf,tDivS hu.2.2 D hg⟩
  have R1:=over (u:=(S_l10Columns (⟨S_CrossV m.m.b m.m.c,S_CrossV m.m.c m.m.a,S_CrossV m.m.a m.m.b⟩ : Mt)).a) ⟨p1,q1,r1⟩ h11 h12 h13
  have R2:=over (u:=(S_l10Columns (⟨S_CrossV m.m.b m.m.c,S_CrossV m.m.c m.m.a,S_CrossV m.m.a m.m.b⟩ : Mt)).b) ⟨p2,q2,r2⟩ h21 h22 h23
  have R3:=over (u:=(S_l10Columns (⟨S_CrossV m.m.b m.m.c,S_CrossV m.m.c m.m.a,S_CrossV m.m.a m.m.b⟩ : Mt)).c) ⟨p3,q3,r3⟩ h31 h32 h33
  have W:=tAffine (m:=m) (v:=v) ⟨A1,A2,A3⟩ ⟨B1,B2,B3⟩ ⟨C1,C2,C3⟩ ⟨T1,T2,T3⟩ ⟨X,Y,Z⟩
  have TT:=tApply (m:=(⟨_,_,_⟩ : Mt)) R1 R2 R3 (v:=m.t) ⟨T1,T2,T3⟩
  have N : Tv (⟨S_NegI _,S_NegI _,S_NegI _⟩ : Vc) _ _ _:=⟨tNegS TT.1,tNegS TT.2.1,tNegS TT.2.2⟩
  have V:=tAffine (m:=(⟨(⟨_,_,_⟩ : Mt),(⟨_,_,_⟩ : Vc)⟩ : Af)) R1 R2 R3 N W
  refine OverlapV_tr V ⟨?_,?_,?_⟩
  · have e : e11 * (a1 * x + a2 * y + a3 * z + t1) + e12 * (b1 * x + b2 * y + b3 * z + t2) + e13 * (c1 * x + c2 * y + c3 * z + t3) + -(e11 * t1 + e12 * t2 + e13 * t3) = x:=by
      refine Rl.inv_row (d:=a1 * (b2 * c3 - b3 * c2) + a2 * (b3 * c1 - b1 * c3) + a3 * (b1 * c2 - b2 * c1)) nz h11 h12 h13 ?_
      exact ((Rl.ind7 (P:=fun a1 a2 a3 b1 b2 b3 c1=>∀ c2 c3 x y z : Rl.R,(b2 * c3 - b3 * c2) * (a1 * x + a2 * y + a3 * z) + (c2 * a3 - c3 * a2) * (b1 * x + b2 * y + b3 * z) + (a2 * b3 - a3 * b2) * (c1 * x + c2 * y + c3 * z) = (a1 * (b2 * c3 - b3 * c2) + a2 * (b3 * c1 - b1 * c3) + a3 * (b1 * c2 - b2 * c1)) * x) (fun a1 a2 a3 b1 b2 b3 c1=>Rl.ind5 fun c2 c3 x y z=>Rl.pt fun n__=>by simp only [Rl.f_add,Rl.f_sub,Rl.f_neg,Rl.f_mul,Rl.f_q]; grind) a1 a2 a3 b1 b2 b3 c1) c2 c3 x y z)
    rw [e]; exact X
  · have e : e21 * (a1 * x + a2 * y + a3 * z + t1) + e22 * (b1 * x + b2 * y + b3 * z + t2) + e23 * (c1 * x + c2 * y + c3 * z + t3) + -(e21 * t1 + e22 * t2 + e23 * t3) = y:=by
      refine Rl.inv_row (d:=a1 * (b2 * c3 - b3 * c2) + a2 * (b3 * c1 - b1 * c3) + a3 * (b1 * c2 - b2 * c1)) nz h21 h22 h23 ?_
      exact ((Rl.ind7 (P:=fun a1 a2 a3 b1 b2 b3 c1=>∀ c2 c3 x y z : Rl.R,(b3 * c1 - b1 * c3) * (a1 * x + a2 * y + a3 * z) + (c3 * a1 - c1 * a3) * (b1 * x + b2 * y + b3 * z) + (a3 * b1 - a1 * b3) * (c1 * x + c2 * y + c3 * z) = (a1 * (b2 * c3 - b3 * c2) + a2 * (b3 * c1 - b1 * c3) + a3 * (b1 * c2 - b2 * c1)) * y) (fun a1 a2 a3 b1 b2 b3 c1=>Rl.ind5 fun c2 c3 x y z=>Rl.pt fun n__=>by simp only [Rl.f_add,Rl.f_sub,Rl.f_neg,Rl.f_mul,Rl.f_q]; grind) a1 a2 a3 b1 b2 b3 c1) c2 c3 x y z)
    rw [e]; exact Y
  · have e : e31 * (a1 * x + a2 * y + a3 * z + t1) + e32 * (b1 * x + b2 * y + b3 * z + t2) + e33 * (c1 * x + c2 * y + c3 * z + t3) + -(e31 * t1 + e32 * t2 + e33 * t3) = z:=by
      refine Rl.inv_row (d:=a1 * (b2 * c3 - b3 * c2) + a2 * (b3 * c1 - b1 * c3) + a3 * (b1 * c2 - b2 * c1)) nz h31 h32 h33 ?_
      exact ((Rl.ind7 (P:=fun a1 a2 a3 b1 b2 b3 c1=>∀ c2 c3 x y z : Rl.R,(b1 * c2 - b2 * c1) * (a1 * x + a2 * y + a3 * z) + (c1 * a2 - c2 * a1) * (b1 * x + b2 * y + b3 * z) + (a1 * b2 - a2 * b1) * (c1 * x + c2 * y + c3 * z) = (a1 * (b2 * c3 - b3 * c2) + a2 * (b3 * c1 - b1 * c3) + a3 * (b1 * c2 - b2 * c1)) * z) (fun a1 a2 a3 b1 b2 b3 c1=>Rl.ind5 fun c2 c3 x y z=>Rl.pt fun n__=>by simp only [Rl.f_add,Rl.f_sub,Rl.f_neg,Rl.f_mul,Rl.f_q]; grind) a1 a2 a3 b1 b2 b3 c1) c2 c3 x y z)
    rw [e]; exact Z
theorem Then_tr (m n : Af) (v : Vc) : S_OverlapV (S_ApplyAffine (S_ThenAffine m n) v) (S_ApplyAffine n (S_ApplyAffine m v)) = true:=by
  obtain ⟨a1,A1⟩:=any_tr m.m.a.x
  obtain ⟨a2,A2⟩:=any_tr m.m.a.y
  obtain ⟨a3,A3⟩:=any_tr m.m.a.z
  obtain ⟨b1,B1⟩:=any_tr m.m.b.x
  obtain ⟨b2,B2⟩:=any_tr m.m.b.y
  obtain ⟨b3,B3⟩:=any_tr m.m.b.z
  obtain ⟨c1,C1⟩:=any_tr m.m.c.x
  obtain ⟨c2,C2⟩:=any_tr m.m.c.y
  obtain ⟨c3,C3⟩:=any_tr m.m.c.z
  obtain ⟨t1,T1⟩:=any_tr m.t.x
  obtain ⟨t2,T2⟩:=any_tr m.t.y
  obtain ⟨t3,T3⟩:=any_tr m.t.z
  obtain ⟨f1,F1⟩:=any_tr n.m.a.x
  obtain ⟨f2,F2⟩:=any_tr n.m.a.y
  obtain ⟨f3,F3⟩:=any_tr n.m.a.z
  obtain ⟨g1,G1⟩:=any_tr n.m.b.x
  obtain ⟨g2,G2⟩:=any_tr n.m.b.y
  obtain ⟨g3,G3⟩:=any_tr n.m.b.z
  obtain ⟨h1,H1⟩:=any_tr n.m.c.x
  obtain ⟨h2,H2⟩:=any_tr n.m.c.y
  obtain ⟨h3,H3⟩:=any_tr n.m.c.z
  obtain ⟨u1,U1⟩:=any_tr n.t.x
  obtain ⟨u2,U2⟩:=any_tr n.t.y
  obtain ⟨u3,U3⟩:=any_tr n.t.z
  obtain ⟨x,X⟩:=any_tr v.x
  obtain ⟨y,Y⟩:=any_tr v.y
  obtain ⟨z,Z⟩:=any_tr v.z
  have W:=tAffine (m:=m) (v:=v) ⟨A1,A2,A3⟩ ⟨B1,B2,B3⟩ ⟨C1,C2,C3⟩ ⟨T1,T2,T3⟩ ⟨X,Y,Z⟩
  have R:=tAffine (m:=n) ⟨F1,F2,F3⟩ ⟨G1,G2,G3⟩ ⟨H1,H2,H3⟩ ⟨U1,U2,U3⟩ W
  have S:=tAffine (m:=n) (v:=m.t) ⟨F1,F2,F3⟩ ⟨G1,G2,G3⟩ ⟨H1,H2,H3⟩ ⟨U1,U2,U3⟩ ⟨T1,T2,T3⟩
  have row : ∀ {w : Vc} {e1 e2 e3 : Rl.R},Tv w e1 e2 e3 → Tv (S_ApplyM (S_l10Columns m.m) w) (a1 * e1 + b1 * e2 + c1 * e3) (a2 * e1 + b2 * e2 + c2 * e3) (a3 * e1 + b3 * e2 + c3 * e3):=fun hw=>
    tApply (m:=S_l10Columns m.m) ⟨A1,B1,C1⟩ ⟨A2,B2,C2⟩ ⟨A3,B3,C3⟩ hw
  have L:=tAffine (m:=S_ThenAffine m n) (v:=v) (row (w:=n.m.a) ⟨F1,F2,F3⟩) (row (w:=n.m.b) ⟨G1,G2,G3⟩) (row (w:=n.m.c) ⟨H1,H2,H3⟩) S ⟨X,Y,Z⟩
  have id : ∀ e1 e2 e3 u : Rl.R,(a1 * e1 + b1 * e2 + c1 * e3) * x + (a2 * e1 + b2 * e2 + c2 * e3) * y + (a3 * e1 + b3 * e2 + c3 * e3) * z + (e1 * t1 + e2 * t2 + e3 * t3 + u) = e1 * (a1 * x + a2 * y + a3 * z + t1) + e2 * (b1 * x + b2 * y + b3 * z + t2) + e3 * (c1 * x + c2 * y + c3 * z + t3) + u:=fun e1 e2 e3 u=>
    ((Rl.ind7 (P:=fun a1 a2 a3 b1 b2 b3 c1=>∀ c2 c3 x y z t1 t2 t3 e1 e2 e3 u : Rl.R,(a1 * e1 + b1 * e2 + c1 * e3) * x + (a2 * e1 + b2 * e2 + c2 * e3) * y + (a3 * e1 + b3 * e2 + c3 * e3) * z + (e1 * t1 + e2 * t2 + e3 * t3 + u) = e1 * (a1 * x + a2 * y + a3 * z + t1) + e2 * (b1 * x + b2 * y + b3 * z + t2) + e3 * (c1 * x + c2 * y + c3 * z + t3) + u) (fun a1 a2 a3 b1 b2 b3 c1=>Rl.ind7 fun c2 c3 x y z t1 t2=>Rl.ind5 fun t3 e1 e2 e3 u=>Rl.pt fun n__=>by simp only [Rl.f_add,Rl.f_sub,Rl.f_neg,Rl.f_mul,Rl.f_q]; grind) a1 a2 a3 b1 b2 b3 c1) c2 c3 x y z t1 t2 t3 e1 e2 e3 u)
  rw [id,id,id] at L
  exact OverlapV_tr L R
def InS (s : Sf) : Prop:=((-10000000 ≤ s.tx.val ∧ s.tx.val ≤ 10000000) ∧ (-10000000 ≤ s.ty.val ∧ s.ty.val ≤ 10000000) ∧ (-10000000 ≤ s.tz.val ∧ s.tz.val ≤ 10000000)) ∧ ((-100000000 ≤ s.rx.val ∧ s.rx.val ≤ 100000000) ∧ (-100000000 ≤ s.ry.val ∧ s.ry.val ≤ 100000000) ∧ (-100000000 ≤ s.rz.val ∧ s.rz.val ≤ 100000000)) ∧ (-1000000 ≤ s.sc.val ∧ s.sc.val ≤ 1000000)
theorem InS.ok {s : Sf} (h : InS s) : S_l23Ok__pSf s = true:=by
  obtain ⟨⟨a,b,c⟩,⟨d,e,f⟩,g⟩:=h
  unfold S_l23Ok__pSf
  simp [bindP_e,sp_in,c64_v,a.1,a.2,b.1,b.2,c.1,c.2,d.1,d.2,e.1,e.2,f.1,f.2,g.1,g.2]
theorem shift8 (C : Cd) : InS (S_E8Shift C):=by
  unfold S_E8Shift S_l23Draw__src
  rw [bindP_e,bindP_e]
  have q1:=number_in C (⟨c64 0,cu64 0⟩ : Src) (m:=c64 1000000) (by rw [c64_v]; omega) (by rw [c64_v]; omega)
  generalize S_l05Number__src C (⟨c64 0,cu64 0⟩ : Src) (c64 1000000) = r1 at *
  rw [bindP_e]
  have q2:=number_in C r1.2 (m:=c64 10000000) (by rw [c64_v]; omega) (by rw [c64_v]; omega)
  generalize S_l05Number__src C r1.2 (c64 10000000) = r2 at *
  rw [bindP_e]
  have q3:=number_in C r2.2 (m:=c64 500000) (by rw [c64_v]; omega) (by rw [c64_v]; omega)
  generalize S_l05Number__src C r2.2 (c64 500000) = r3 at *
  rw [bindP_e]
  have q4:=number_in C r3.2 (m:=c64 5000000) (by rw [c64_v]; omega) (by rw [c64_v]; omega)
  generalize S_l05Number__src C r3.2 (c64 5000000) = r4 at *
  rw [bindP_e]
  have q5:=number_in C r4.2 (m:=c64 100000000) (by rw [c64_v]; omega) (by rw [c64_v]; omega)
  generalize S_l05Number__src C r4.2 (c64 100000000) = r5 at *
  rw [bindP_e]
  have q6:=number_in C r5.2 (m:=c64 1000000) (by rw [c64_v]; omega) (by rw [c64_v]; omega)
  generalize S_l05Number__src C r5.2 (c64 1000000) = r6 at *
  rw [bindP_e]
  have q7:=among_scale C r6.2
  generalize S_l00Src_among__src__s2 C (c64 10000) (c64 1000000) r6.2 = r7 at *
  rw [bindP_e]
  have q8:=number_in C r7.2 (m:=r7.1) (by omega) (by omega)
  generalize S_l05Number__src C r7.2 r7.1 = r8 at *
  unfold nr at *
  rw [c64_v] at q1 q2 q3 q4 q5 q6
  refine ⟨⟨?_,q2,?_⟩,⟨?_,q5,?_⟩,?_⟩
  · show -10000000 ≤ r1.1.val ∧ r1.1.val ≤ 10000000; omega
  · show -10000000 ≤ r3.1.val ∧ r3.1.val ≤ 10000000; omega
  · show -100000000 ≤ r4.1.val ∧ r4.1.val ≤ 100000000; omega
  · show -100000000 ≤ r6.1.val ∧ r6.1.val ≤ 100000000; omega
  · show -1000000 ≤ r8.1.val ∧ r8.1.val ≤ 1000000; omega
theorem Affine_in {s : Sf} (h : InS s) : S_AffineOf s = (S_l23Affine__pSf s,c64 0):=by
  unfold S_AffineOf
  simp only [bindP_e,h.ok,Bool.not_true,cond_f]
def negS (s : Sf) : Sf:=⟨w64 (0 - s.tx.val),w64 (0 - s.ty.val),w64 (0 - s.tz.val),w64 (0 - s.rx.val),w64 (0 - s.ry.val),w64 (0 - s.rz.val),w64 (0 - s.sc.val)⟩
theorem neg8_val {x : I64} {n : Int} (h : -n ≤ x.val ∧ x.val ≤ n) (hn : n ≤ 100000000) : (w64 (0 - x.val)).val = -x.val:=by
  rw [w64_val]
  omega
theorem InS.neg {s : Sf} (h : InS s) : InS (negS s):=by
  obtain ⟨⟨a,b,c⟩,⟨d,e,f⟩,g⟩:=h
  unfold InS negS
  simp only [neg8_val a (by decide),neg8_val b (by decide),neg8_val c (by decide),neg8_val d (by decide),neg8_val e (by decide),neg8_val f (by decide),neg8_val g (by decide)]
  omega
theorem neg_neg8 {x : I64} {n : Int} (h : -n ≤ x.val ∧ x.val ≤ n) (hn : n ≤ 100000000) : (w64 (0 - (w64 (0 - x.val)).val)) = x:=by
  refine IK.eq ?_
  rw [neg8_val h hn,w64_val]
  omega
theorem InS.back {s : Sf} (h : InS s) : negS (negS s) = s:=by
  obtain ⟨⟨a,b,c⟩,⟨d,e,f⟩,g⟩:=h
  unfold negS
  simp only [neg_neg8 a (by decide),neg_neg8 b (by decide),neg_neg8 c (by decide),neg_neg8 d (by decide),neg_neg8 e (by decide),neg_neg8 f (by decide),neg_neg8 g (by decide)]
theorem Opp_in {s : Sf} (h : InS s) : S_OppositeShift s = (negS s,c64 0):=by
  unfold S_OppositeShift
  simp only [bindP_e,h.ok,Bool.not_true,cond_f]
  rfl
theorem Read_in {s : Sf} (h : InS s) : I_ReadShift (I_ShiftText s) = (s,true):=by
  refine Read_back ?_
  obtain ⟨⟨a,b,c⟩,⟨d,e,f⟩,g⟩:=h
  unfold PFnShifts.okV PFnShifts.inB
  simp [a.1,a.2,b.1,b.2,c.1,c.2,d.1,d.2,e.1,e.2,f.1,f.2,g.1,g.2]
theorem pure_FnShifts (code more : Cd) : L_FnShifts code more = true:=by
  unfold L_FnShifts
  rw [bindP_e]
  cases L_d8Long code more with
  | true=>rfl
  | false=>
    rw [cond_f]
    have hs:=shift8 code
    have ht:=shift8 more
    simp only [bindP_e,eq_AffineOf,eq_InvertAffine,eq_ApplyAffine,eq_ThenAffine,eq_OppositeShift]
    generalize S_E8Shift code = s at *
    generalize S_E8Shift more = t at *
    generalize (S_ToCartesian (S_E8Ellipsoid more) (S_E8Place more)).1 = v
    rw [Affine_in hs,Affine_in ht,Read_in hs,Opp_in hs]
    obtain ⟨b1,b2⟩:=Back_tr (v:=v) (Shift_inv hs.2.1 hs.2.2)
    have th:=Then_tr (S_l23Affine__pSf s) (S_l23Affine__pSf t) v
    have z : (c64 0).val = 0:=c64_v _ _
    simp only [z,b1,b2,th,Opp_in hs.neg,hs.back,bne_self_eq_false,beq_self_eq_true,Bool.not_true,Bool.not_false,cond_t,cond_f,Bool.and_true,Bool.and_self]
end Go.Proofs.YtfhnlkinjbakgaaGreatDoor.Abs
