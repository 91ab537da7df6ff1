/- Plain laws of the functions on numbers: what the program computes is what the reference computes. -/
import Derived.Test.YtfhnlkinjbakgaaGreatMsReal
import Derived.Test.YtfhnlkinjbakgaaGreatMsQzxzyzzzza
import Derived.Test.YtfhnlkinjbakgaaGreatMsF4
set_option linter.unusedVariables false
set_option linter.unusedSimpArgs false
namespace Go.Proofs.YtfhnlkinjbakgaaGreat.Abs
open Go
theorem Sub_gd (a b : Iv) : Gd (S_SubI a b):=by
  unfold S_SubI
  simp only [bindP_e]
  repeat' first | with_reducible exact Gd.make _ _ | with_reducible exact Gd.whole | with_reducible apply Gd.cond
theorem El_ok {e : El} (h : S_l12Ok e = true) : (1000 ≤ e.a.val ∧ e.a.val ≤ 100000000000) ∧ (1 ≤ e.den.val ∧ e.den.val ≤ 1000000000000) ∧ 0 ≤ e.num.val ∧ 100 * e.num.val ≤ e.den.val:=by
  unfold S_l12Ok at h
  simp only [bindP_e,sp_in,c64_v] at h
  cases h1 : (decide (1000 ≤ e.a.val) && decide (e.a.val ≤ 100000000000)) with
  | false=>rw [h1,cond_f] at h; cases h
  | true=>
    rw [h1,cond_t] at h
    cases h2 : (decide (1 ≤ e.den.val) && decide (e.den.val ≤ 1000000000000)) with
    | false=>rw [h2,cond_f] at h; cases h
    | true=>
      rw [h2,cond_t] at h
      simp only [Bool.and_eq_true,decide_eq_true_eq] at h1 h2
      have w : (w64 (Int.tdiv e.den.val 100)).val = e.den.val / 100:=by
        rw [Int.tdiv_eq_ediv_of_nonneg (by omega),w64_val]; omega
      rw [w] at h
      by_cases c : e.num.val ≥ 0
      · rw [decide_eq_true c,cond_t] at h
        have:=of_decide_eq_true h
        exact ⟨h1,h2,c,by omega⟩
      · rw [decide_eq_false c,cond_f] at h; cases h
theorem Fix_ok {n : I64} (h : -1152921504606846976 < n.val ∧ n.val < 1152921504606846976) : S_l03Ok n = true:=by
  unfold S_l03Ok
  simp only [bindP_e,sp_in,c64_v,Bool.and_eq_true,decide_eq_true_eq]
  omega
theorem El_real {e : El} (h : S_l12Ok e = true) : ∃ a p : Rl.R,Rl.q 0 ≤ a ∧ Rl.q (1/2) ≤ p ∧ p ≤ Rl.q 1 ∧ Tr (S_MajorI e) a ∧ Tr (S_EccI e) (Rl.q 1 - p) ∧ (e.num.val = 0 → p = Rl.q 1):=by
  obtain ⟨ha,hd,n0,n1⟩:=El_ok h
  have dp : Rl.q 0 < Rl.q (e.den.val : Rat):=Rl.q_lt.2 (Rl.cast_pos (by omega))
  obtain ⟨f,ef⟩:=Rl.quot_ex (x:=Rl.q (e.num.val : Rat)) (.inr dp)
  have tp : Rl.q 0 < Rl.q 1000:=Rl.q_lt.2 (by decide)
  obtain ⟨a,ea⟩:=Rl.quot_ex (x:=Rl.q (e.a.val : Rat)) (.inr tp)
  have cn0 : (0 : Rat) ≤ (e.num.val : Rat):=by have:=Rl.cast_le n0; rwa [show ((0 : Int) : Rat) = 0 from rfl] at this
  have ca0 : (0 : Rat) ≤ (e.a.val : Rat):=by have:=Rl.cast_le (show 0 ≤ e.a.val by omega); rwa [show ((0 : Int) : Rat) = 0 from rfl] at this
  have f0 : Rl.q 0 ≤ f:=nn_of_mul ef dp (Rl.q_le.2 cn0)
  have f1 : f ≤ Rl.q (1/100):=by
    refine Rl.le_of_mul (z:=Rl.q (e.den.val : Rat)) ?_ dp
    rw [ef,← Rl.q_mul]
    refine Rl.q_le.2 ?_
    have:=Rl.cast_le n1
    rw [Rat.intCast_mul] at this
    have h100 : ((100 : Int) : Rat) = 100:=rfl
    rw [h100] at this
    grind
  have f2 : Rl.q 0 ≤ Rl.q 2 - f:=Rl.sub_nn (Rl.le_trans f1 (Rl.q_le.2 (by decide +kernel)))
  have E0:=Rl.mul_nonneg f0 f2
  have ff:=Rl.sq_nonneg f
  have E1 : f * (Rl.q 2 - f) ≤ Rl.q (1/2):=by
    rw [show f * (Rl.q 2 - f) = f + f - f * f from (Rl.mk_ind (P:=fun f=>f * (Rl.q 2 - f) = f + f - f * f) (fun f=>Rl.pt fun n__=>by simp only [Rl.f_add,Rl.f_sub,Rl.f_neg,Rl.f_mul,Rl.f_q]; grind) f)]
    exact (Rl.ind2 (P:=fun f s=>f ≤ Rl.q (1/100) → Rl.q 0 ≤ s → f + f - s ≤ Rl.q (1/2)) (fun f s k0__ k1__=>Rl.lin2 k0__ k1__ fun n__ e__ he__ p0__ p1__=>by simp only [Rl.f_add,Rl.f_sub,Rl.f_neg,Rl.f_mul,Rl.f_q] at *; grind) f (f * f) f1 ff)
  have F : Tr (S_FlatteningI e) f:=by
    unfold S_FlatteningI
    simp only [bindP_e,h,Bool.not_true,cond_f]
    exact tQuotS (Fix_ok (by omega)) (by omega) ef
  refine ⟨a,Rl.q 1 - f * (Rl.q 2 - f),nn_of_mul ea tp (Rl.q_le.2 ca0),?_,?_,?_,?_,fun hz=>?_⟩
  · exact (Rl.mk_ind (P:=fun t=>t ≤ Rl.q (1/2) → Rl.q (1/2) ≤ Rl.q 1 - t) (fun t k0__=>Rl.lin1 k0__ fun n__ e__ he__ p0__=>by simp only [Rl.f_add,Rl.f_sub,Rl.f_neg,Rl.f_mul,Rl.f_q] at *; grind) (f * (Rl.q 2 - f)) E1)
  · exact (Rl.mk_ind (P:=fun t=>Rl.q 0 ≤ t → Rl.q 1 - t ≤ Rl.q 1) (fun t k0__=>Rl.lin1 k0__ fun n__ e__ he__ p0__=>by simp only [Rl.f_add,Rl.f_sub,Rl.f_neg,Rl.f_mul,Rl.f_q] at *; grind) (f * (Rl.q 2 - f)) E0)
  · unfold S_MajorI
    simp only [bindP_e,h,Bool.not_true,cond_f]
    exact tQuotS (Fix_ok (by omega)) (by decide) (by rw [c64_v]; exact ea)
  · rw [Rl.sub_sub_self]
    unfold S_EccI
    simp only [bindP_e]
    exact tMulS F (tSubS tTwoS F)
  · have : f = Rl.q 0:=Rl.eq_of_mul (by rw [ef,hz,Rl.zero_mul]; rfl) dp
    rw [this,Rl.zero_mul,Rl.sub_zero]
theorem tRadiusN {e : El} {X : Iv} {x a p r n : Rl.R} (hX : Tr X x) (A : Tr (S_MajorI e) a) (E : Tr (S_EccI e) (Rl.q 1 - p)) (r0 : Rl.q 0 ≤ r) (er : r * r = Rl.q 1 - (Rl.q 1 - p) * (Rl.sn x * Rl.sn x)) (en : n * r = a) : Tr (S_RadiusN e X) n:=by
  unfold S_RadiusN S_l12W
  simp only [bindP_e]
  exact tDivS A (tSqrtS (tSubS tOneS (tMulS E (tSqrS (tSinS hX)))) r0 er) en
theorem tWEll {e : El} {X : Iv} {x p r : Rl.R} (hX : Tr X (Rl.sn x)) (E : Tr (S_EccI e) (Rl.q 1 - p)) (r0 : Rl.q 0 ≤ r) (er : r * r = Rl.q 1 - (Rl.q 1 - p) * (Rl.sn x * Rl.sn x)) : Tr (S_SqrtI (S_SubI (S_Integer (c64 1)) (S_MulI (S_EccI e) (S_SqrI X)))) r:=
  tSqrtS (tSubS tOneS (tMulS E (tSqrS hX))) r0 er
theorem root_of (p x : Rl.R) (p1 : Rl.q (1/2) ≤ p) (p2 : p ≤ Rl.q 1) : ∃ r,Rl.q 0 < r ∧ r * r = Rl.q 1 - (Rl.q 1 - p) * (Rl.sn x * Rl.sn x):=by
  have k:=(Rl.ell_root (x:=x) p1 p2).1
  have kp : Rl.q 0 < Rl.q 1 - (Rl.q 1 - p) * (Rl.sn x * Rl.sn x):=Rl.lt_of_lt_of_le (Rl.q_lt.2 (by decide +kernel)) k
  obtain ⟨r,r0,er⟩:=Rl.sqrt_ex (Rl.le_of_lt kp)
  exact ⟨r,root_pos kp r0 er,er⟩
theorem fx_hp {n : I64} (h : -6746518852 ≤ n.val ∧ n.val ≤ 6746518852) : -Rl.hp ≤ Rl.fx n.val ∧ Rl.fx n.val ≤ Rl.hp:=by
  have g : Rl.fx 6746518852 ≤ Rl.hp:=Rl.le_trans (by rw [Rl.fx_q]; exact Rl.q_le.2 (by decide +kernel)) Rl.hp_lo
  constructor
  · refine Rl.le_trans (Rl.neg_le_neg g) ?_
    rw [← Rl.fx_neg]
    exact Rl.fx_le.2 (by omega)
  · exact Rl.le_trans (Rl.fx_le.2 h.2) g
def SideH (e : El) (F z : Iv) (t : Rl.R) : Prop:=∀ mid : I64,-6746518852 ≤ mid.val ∧ mid.val ≤ 6746518852 → ∃ S,Tr (S_l14Side e F z mid) S ∧ (t ≤ Rl.fx mid.val → Rl.q 0 ≤ S) ∧ (Rl.fx mid.val ≤ t → S ≤ Rl.q 0)
theorem Side_gd (e : El) (F z : Iv) (m : I64) : Gd (S_l14Side e F z m):=by
  unfold S_l14Side
  simp only [bindP_e]
  exact Sub_gd _ _
theorem lat1_tr {e : El} {v : Vc} {F : Iv} {t : Rl.R} (H : SideH e F v.z t) (from_ : I64) : ∀ (fu : Nat) (lo hi : I64),-6746518853 ≤ lo.val → lo.val ≤ hi.val → hi.val ≤ 6746518853 → (hi.val - lo.val).toNat < fu → t ≤ Rl.fx hi.val →
    (S_l14Lat_L1 fu e v F from_ lo hi).lo = from_ ∧ t ≤ Rl.fx (S_l14Lat_L1 fu e v F from_ lo hi).hi.val:=by
  intro fu
  induction fu with
  | zero=>intro lo hi _ _ _ h; exact absurd h (Nat.not_lt_zero _)
  | succ fu ih=>
    intro lo hi h0 h1 h2 h3 inv
    unfold S_l14Lat_L1
    have w : (w64 (hi.val - lo.val)).val = hi.val - lo.val:=by rw [w64_val]; omega
    by_cases c : (w64 (hi.val - lo.val)).val > 1
    · rw [decide_eq_true c,cond_t,bindP_e]
      have ws : (w64 (lo.val + hi.val)).val = lo.val + hi.val:=by rw [w64_val]; omega
      have m : (ishr (w64 (lo.val + hi.val)) 1).val = (lo.val + hi.val) / 2:=by rw [shr1_val,ws]
      generalize ishr (w64 (lo.val + hi.val)) 1 = mid at *
      obtain ⟨S,hS,s1,s2⟩:=H mid (by omega)
      have g:=Side_gd e F v.z mid
      generalize S_l14Side e F v.z mid = L at *
      by_cases d : L.lo.val > 0
      · rw [decide_eq_true d,cond_t]
        refine ih lo mid h0 (by omega) (by omega) (by omega) ?_
        rcases g with o | o
        · refine Classical.byContradiction fun k=>?_
          have:=s2 (Rl.le_of_lt (Rl.not_le.1 k))
          have:=Rl.fx_le.1 (Rl.le_trans (hS o).1 (by rw [Rl.fx_zero]; exact this) : Rl.fx L.lo.val ≤ Rl.fx 0)
          omega
        · rw [o] at d; exact absurd d (by decide)
      · rw [decide_eq_false d,cond_f]
        exact ih mid hi (by omega) (by omega) h2 (by omega) inv
    · rw [decide_eq_false c,cond_f]
      exact ⟨rfl,inv⟩
theorem lat0_tr {e : El} {v : Vc} {F : Iv} {t : Rl.R} (H : SideH e F v.z t) (t2 : t ≤ Rl.fx 6746518853) : ∀ (fu : Nat) (lo hi : I64),-6746518853 ≤ lo.val → lo.val ≤ hi.val → hi.val ≤ 6746518853 → (hi.val - lo.val).toNat < fu → Rl.fx lo.val ≤ t →
    Rl.fx (S_l14Lat_L0 fu e v F lo hi).lo.val ≤ t ∧ t ≤ Rl.fx (S_l14Lat_L0 fu e v F lo hi).hi.val:=by
  intro fu
  induction fu with
  | zero=>intro lo hi _ _ _ h; exact absurd h (Nat.not_lt_zero _)
  | succ fu ih=>
    intro lo hi h0 h1 h2 h3 inv
    unfold S_l14Lat_L0
    have w : (w64 (hi.val - lo.val)).val = hi.val - lo.val:=by rw [w64_val]; omega
    by_cases c : (w64 (hi.val - lo.val)).val > 1
    · rw [decide_eq_true c,cond_t,bindP_e]
      have ws : (w64 (lo.val + hi.val)).val = lo.val + hi.val:=by rw [w64_val]; omega
      have m : (ishr (w64 (lo.val + hi.val)) 1).val = (lo.val + hi.val) / 2:=by rw [shr1_val,ws]
      generalize ishr (w64 (lo.val + hi.val)) 1 = mid at *
      obtain ⟨S,hS,s1,s2⟩:=H mid (by omega)
      have g:=Side_gd e F v.z mid
      generalize S_l14Side e F v.z mid = L at *
      by_cases d : L.hi.val < 0
      · rw [decide_eq_true d,cond_t]
        refine ih mid hi (by omega) (by omega) h2 (by omega) ?_
        rcases g with o | o
        · refine Classical.byContradiction fun k=>?_
          have:=s1 (Rl.le_of_lt (Rl.not_le.1 k))
          have:=Rl.fx_le.1 (Rl.le_trans (by rw [Rl.fx_zero]; exact this) (hS o).2 : Rl.fx 0 ≤ Rl.fx L.hi.val)
          omega
        · rw [o] at d; exact absurd d (by decide)
      · rw [decide_eq_false d,cond_f]
        exact ih lo mid h0 (by omega) (by omega) (by omega) inv
    · rw [decide_eq_false c,cond_f,bindP_e,Turn1_hi]
      have hr:=Turn1_hi
      generalize (S_l05Turn (c64 1)).hi = r at *
      obtain ⟨a,b⟩:=lat1_tr H lo ((6746518853 - lo.val).toNat + 1) lo r h0 (by omega) (by omega) (by omega) (by rw [hr]; exact t2)
      exact ⟨by rw [a]; exact inv,b⟩
theorem hp_end2 {t : Rl.R} (h1 : -Rl.hp ≤ t) (h2 : t ≤ Rl.hp) : Rl.fx (-6746518853) ≤ t ∧ t ≤ Rl.fx 6746518853:=by
  refine ⟨?_,Rl.le_trans h2 hp_end⟩
  rw [Rl.fx_neg]
  exact Rl.le_trans (Rl.neg_le_neg hp_end) h1
theorem tLatS {e : El} {v : Vc} {t : Rl.R} (H : SideH e (S_l15Flat v) v.z t) (h1 : -Rl.hp ≤ t) (h2 : t ≤ Rl.hp) : Tr (S_l14Lat e v) t:=by
  intro _
  unfold S_l14Lat
  simp only [bindP_e]
  have hr:=Turn1_hi
  have w : (w64 (0 - (S_l05Turn (c64 1)).hi.val)).val = -6746518853:=by rw [hr]; decide
  obtain ⟨e1,e2⟩:=hp_end2 h1 h2
  generalize w64 (0 - (S_l05Turn (c64 1)).hi.val) = lo at *
  generalize (S_l05Turn (c64 1)).hi = r at *
  exact lat0_tr H e2 ((r.val - lo.val).toNat + 1) lo r (by omega) (by omega) (by omega) (by omega) (by rw [w]; exact e1)
theorem tScaleAff {s : Sf} (h : s.tx.val = 0 ∧ s.ty.val = 0 ∧ s.tz.val = 0 ∧ s.rx.val = 0 ∧ s.ry.val = 0 ∧ s.rz.val = 0) {k : Rl.R} (hs : -1000000 ≤ s.sc.val ∧ s.sc.val ≤ 1000000) (ek : (k - Rl.q 1) * Rl.q 1000000000 = Rl.q (s.sc.val : Rat)) {v : Vc} {x y z : Rl.R} (hx : Tr v.x x) (hy : Tr v.y y) (hz : Tr v.z z) :
    Tr (S_ApplyAffine (S_l23Affine__pSf s) v).x (k * x) ∧ Tr (S_ApplyAffine (S_l23Affine__pSf s) v).y (k * y) ∧ Tr (S_ApplyAffine (S_l23Affine__pSf s) v).z (k * z):=by
  obtain ⟨t1,t2,t3,r1,r2,r3⟩:=h
  have zero : ∀ (n : I64) (d : I64),n.val = 0 → 0 < d.val → Tr (S_Quotient n d) (Rl.q 0):=fun n d hn hd=>tQuotS (Fix_ok (by omega)) hd (by rw [Rl.zero_mul,hn]; rfl)
  have arc : ∀ n : I64,n.val = 0 → Tr (S_l23Arc n) (Rl.q 0):=fun n hn=>by
    unfold S_l23Arc
    simp only [bindP_e]
    have:=tMulS tPiS (zero n (c64 648000000000) hn (by decide))
    rwa [Rl.mul_zero] at this
  have K : Tr (S_AddI (S_Integer (c64 1)) (S_Quotient s.sc (c64 1000000000))) k:=by
    have:=tAddS tOneS (tQuotS (a:=s.sc) (b:=c64 1000000000) (Fix_ok (by omega)) (by decide) (by rw [c64_v]; exact ek))
    rwa [add_sub_self] at this
  unfold S_ApplyAffine S_ApplyM S_AddV S_l23Affine__pSf
  simp only [bindP_e]
  have Z : ∀ n : I64,n.val = 0 → Tr (S_MulI (S_AddI (S_Integer (c64 1)) (S_Quotient s.sc (c64 1000000000))) (S_l23Arc n)) (Rl.q 0):=fun n hn=>by
    have:=tMulS K (arc n hn)
    rwa [Rl.mul_zero] at this
  have NZ : ∀ n : I64,n.val = 0 → Tr (S_NegI (S_MulI (S_AddI (S_Integer (c64 1)) (S_Quotient s.sc (c64 1000000000))) (S_l23Arc n))) (Rl.q 0):=fun n hn=>by
    have:=tNegS (Z n hn)
    rwa [Rl.neg_zero] at this
  have X:=tAddS (tDotS (a:=(⟨_,_,_⟩ : Vc)) (b:=v) K (Z _ r3) (NZ _ r2) hx hy hz) (zero s.tx (c64 1000) t1 (by decide))
  have Y:=tAddS (tDotS (a:=(⟨_,_,_⟩ : Vc)) (b:=v) (NZ _ r3) K (Z _ r1) hx hy hz) (zero s.ty (c64 1000) t2 (by decide))
  have W:=tAddS (tDotS (a:=(⟨_,_,_⟩ : Vc)) (b:=v) (Z _ r2) (NZ _ r1) K hx hy hz) (zero s.tz (c64 1000) t3 (by decide))
  simp only [Rl.zero_mul,Rl.add_zero,Rl.zero_add] at X Y W
  exact ⟨X,Y,W⟩
theorem tPlaceS {e : El} {P : Pl} {a p h r n : Rl.R} (A : Tr (S_MajorI e) a) (E : Tr (S_EccI e) (Rl.q 1 - p)) (r0 : Rl.q 0 ≤ r) (er : r * r = Rl.q 1 - (Rl.q 1 - p) * (Rl.sn (rad P.point.lat.val) * Rl.sn (rad P.point.lat.val))) (en : n * r = a) (eh : h * Rl.q 1000 = Rl.q (P.height.val : Rat)) (hb : -20000000 ≤ P.height.val ∧ P.height.val ≤ 20000000000) :
    Tr (S_l14To__pPl P e).x ((n + h) * Rl.cn (rad P.point.lat.val) * Rl.cn (rad P.point.lon.val)) ∧ Tr (S_l14To__pPl P e).y ((n + h) * Rl.cn (rad P.point.lat.val) * Rl.sn (rad P.point.lon.val)) ∧ Tr (S_l14To__pPl P e).z ((n * p + h) * Rl.sn (rad P.point.lat.val)):=by
  have N:=tRadiusN (tRadS P.point.lat) A E r0 er en
  have H : Tr (S_Quotient P.height (c64 1000)) h:=tQuotS (Fix_ok (by omega)) (by decide) (by rw [c64_v]; exact eh)
  unfold S_l14To__pPl
  simp only [bindP_e]
  have F:=tMulS (tAddS N H) (tCosS (tRadS P.point.lat))
  have S:=tSubS tOneS E
  rw [Rl.sub_sub_self] at S
  exact ⟨tMulS F (tCosS (tRadS _)),tMulS F (tSinS (tRadS _)),tMulS (tAddS (tMulS N S) H) (tSinS (tRadS _))⟩
theorem Move_tr {e : El} {s : Sf} {P : Pl} (he : S_l12Ok e = true) (h : s.tx.val = 0 ∧ s.ty.val = 0 ∧ s.tz.val = 0 ∧ s.rx.val = 0 ∧ s.ry.val = 0 ∧ s.rz.val = 0) (hs : -1000000 ≤ s.sc.val ∧ s.sc.val ≤ 1000000) (hk : s.sc.val = 0 ∨ e.num.val = 0)
    (hq : S_l11Ok P.point = true) (hb : 0 ≤ P.height.val ∧ P.height.val ≤ 20000000000) (hc : (S_FromCartesian e (S_ApplyAffine (S_l23Affine__pSf s) (S_l14To__pPl P e))).2.2.2.val = 0) :
    S_AtPoint (S_FromCartesian e (S_ApplyAffine (S_l23Affine__pSf s) (S_l14To__pPl P e))).1 (S_FromCartesian e (S_ApplyAffine (S_l23Affine__pSf s) (S_l14To__pPl P e))).2.1 P.point = true ∧
    (s.sc.val = 0 → S_OverlapI (S_FromCartesian e (S_ApplyAffine (S_l23Affine__pSf s) (S_l14To__pPl P e))).2.2.1 (S_HeightI P.height) = true):=by
  obtain ⟨a,p,a0,p1,p2,A,E,ep⟩:=El_real he
  obtain ⟨b1,b2,b3,b4⟩:=Lat_bound hq
  obtain ⟨x1,x2⟩:=rad_hp b1 b2
  obtain ⟨w1,w2⟩:=wrap_range P.point.lon ⟨b3,b4⟩
  obtain ⟨r,r0,er⟩:=root_of p (rad P.point.lat.val) p1 p2
  obtain ⟨n,en⟩:=div_ex (x:=a) r0
  have tp : Rl.q 0 < Rl.q 1000:=Rl.q_lt.2 (by decide)
  have gp : Rl.q 0 < Rl.q 1000000000:=Rl.q_lt.2 (by decide)
  obtain ⟨g,eh⟩:=div_ex (x:=Rl.q (P.height.val : Rat)) tp
  have g0 : Rl.q 0 ≤ g:=nn_of_mul eh tp (Rl.q_le.2 (by have:=Rl.cast_le hb.1; rwa [show ((0 : Int) : Rat) = 0 from rfl] at this))
  obtain ⟨d,ed⟩:=div_ex (x:=Rl.q (s.sc.val : Rat)) gp
  have d1 : -Rl.q 1 < d:=by
    refine fun k=>?_
    have:=Rl.mul_le_mul_r k (Rl.le_of_lt gp)
    rw [ed,Rl.neg_mul,Rl.one_mul,← Rl.q_neg] at this
    have:=Rl.q_le.1 this
    have c:=Rl.cast_le hs.1
    rw [show ((-1000000 : Int) : Rat) = -1000000 from rfl] at c
    grind
  have k0 : Rl.q 0 < Rl.q 1 + d:=by
    have:=Rl.sub_pos d1
    rwa [Rl.sub_neg,Rl.add_comm] at this
  have ks : s.sc.val = 0 → Rl.q 1 + d = Rl.q 1:=fun z=>by
    have : d = Rl.q 0:=Rl.eq_of_mul (by rw [ed,z,Rl.zero_mul]; rfl) gp
    rw [this,Rl.add_zero]
  obtain ⟨X0,Y0,Z0⟩:=tPlaceS (P:=P) A E (Rl.le_of_lt r0) er en eh (by omega)
  obtain ⟨X,Y,Z⟩:=tScaleAff h hs (k:=Rl.q 1 + d) (by rw [Rl.add_sub_l]; exact ed) X0 Y0 Z0
  generalize S_ApplyAffine (S_l23Affine__pSf s) (S_l14To__pPl P e) = v at *
  have n0 : Rl.q 0 ≤ n:=nn_of_mul en r0 a0
  have c0:=Rl.cn_nn x1 x2
  have fl0 : Rl.q 0 ≤ (Rl.q 1 + d) * ((n + g) * Rl.cn (rad P.point.lat.val)):=Rl.mul_nonneg (Rl.le_of_lt k0) (Rl.mul_nonneg (Rl.add_nonneg n0 g0) c0)
  have X' : Tr v.x ((Rl.q 1 + d) * ((n + g) * Rl.cn (rad P.point.lat.val)) * Rl.cn (rad P.point.lon.val)):=by rw [Rl.mul_assoc]; exact X
  have Y' : Tr v.y ((Rl.q 1 + d) * ((n + g) * Rl.cn (rad P.point.lat.val)) * Rl.sn (rad P.point.lon.val)):=by rw [Rl.mul_assoc]; exact Y
  have FL : Tr (S_l15Flat v) ((Rl.q 1 + d) * ((n + g) * Rl.cn (rad P.point.lat.val))):=tFlatS X' Y' fl0 ((sq_polar _ _).symm.trans (Rl.add_comm _ _))
  have SH : SideH e (S_l15Flat v) v.z (rad P.point.lat.val):=fun mid hm=>by
    obtain ⟨m1,m2⟩:=fx_hp hm
    obtain ⟨u,u0,eu⟩:=root_of p (Rl.fx mid.val) p1 p2
    obtain ⟨nb,enb⟩:=div_ex (x:=a) u0
    have sg:=Rl.side_sign (a:=a) (p:=p) (h:=g) (f:=rad P.point.lat.val) (b:=Rl.fx mid.val) (nf:=n) (nb:=nb) a0 g0 p1 p2 x1 x2 m1 m2 r0 er u0 eu en enb
    have T : Tr (S_l14Side e (S_l15Flat v) v.z mid) ((Rl.q 1 + d) * ((n + g) * Rl.cn (rad P.point.lat.val)) * Rl.sn (Rl.fx mid.val) - (Rl.q 1 + d) * ((n * p + g) * Rl.sn (rad P.point.lat.val)) * Rl.cn (Rl.fx mid.val) - (Rl.q 1 - p) * nb * Rl.sn (Rl.fx mid.val) * Rl.cn (Rl.fx mid.val)):=by
      unfold S_l14Side
      simp only [bindP_e]
      have N:=tRadiusN (tAtS mid) A E (Rl.le_of_lt u0) eu enb
      exact tSubS (tSubS (tMulS FL (tSinAtS mid)) (tMulS Z (tCosAtS mid))) (tMulS (tMulS (tMulS E N) (tSinAtS mid)) (tCosAtS mid))
    have same : (Rl.q 1 + d) * ((n + g) * Rl.cn (rad P.point.lat.val)) * Rl.sn (Rl.fx mid.val) - (Rl.q 1 + d) * ((n * p + g) * Rl.sn (rad P.point.lat.val)) * Rl.cn (Rl.fx mid.val) - (Rl.q 1 - p) * nb * Rl.sn (Rl.fx mid.val) * Rl.cn (Rl.fx mid.val) =
        (Rl.q 1 + d) * ((n + g) * Rl.cn (rad P.point.lat.val) * Rl.sn (Rl.fx mid.val) - (n * p + g) * Rl.sn (rad P.point.lat.val) * Rl.cn (Rl.fx mid.val) - (Rl.q 1 - p) * nb * Rl.sn (Rl.fx mid.val) * Rl.cn (Rl.fx mid.val)):=by
      rcases hk with z | z
      · rw [ks z,Rl.one_mul,Rl.one_mul,Rl.one_mul]
      · rw [ep z,Rl.sub_self,Rl.zero_mul,Rl.zero_mul,Rl.zero_mul,Rl.sub_zero,Rl.sub_zero,Rl.mul_sub,Rl.mul_assoc,Rl.mul_assoc (Rl.q 1 + d)]
    rw [same] at T
    refine ⟨_,T,fun l=>Rl.mul_nonneg (Rl.le_of_lt k0) (sg.1 l),fun l=>?_⟩
    have:=Rl.mul_nonneg (Rl.le_of_lt k0) (Rl.neg_nonneg (sg.2 l))
    rw [Rl.mul_neg] at this
    have:=Rl.neg_nonpos this
    rwa [Rl.neg_neg] at this
  have L:=tLatS SH x1 x2
  have D:=tDirPolar Y' X' fl0 w1 w2
  unfold S_FromCartesian at hc ⊢
  simp only [bindP_e] at hc ⊢
  cases h1 : ((S_l14Far e v).val != 0) with
  | true=>
    rw [h1,cond_t] at hc
    exact absurd hc (by simpa using h1)
  | false=>
    rw [h1,cond_f] at hc
    simp only [cond_f]
    have HT : s.sc.val = 0 → Tr (S_SubI (S_AddI (S_MulI (S_l15Flat v) (S_CosI (S_l14Lat e v))) (S_MulI v.z (S_SinI (S_l14Lat e v)))) (S_MulI (S_MajorI e) (S_SqrtI (S_SubI (S_Integer (c64 1)) (S_MulI (S_EccI e) (S_SqrI (S_SinI (S_l14Lat e v)))))))) g:=fun z=>by
      have T:=tSubS (tAddS (tMulS FL (tCosS L)) (tMulS Z (tSinS L))) (tMulS A (tWEll (tSinS L) E (Rl.le_of_lt r0) er))
      rw [ks z,Rl.one_mul,Rl.one_mul] at T
      have py:=Rl.pyth (rad P.point.lat.val)
      have e2:=er.trans (Rl.ell_root (x:=rad P.point.lat.val) p1 p2).2
      have : (n + g) * Rl.cn (rad P.point.lat.val) * Rl.cn (rad P.point.lat.val) + (n * p + g) * Rl.sn (rad P.point.lat.val) * Rl.sn (rad P.point.lat.val) - a * r = g:=by
        have f1 : (n + g) * Rl.cn (rad P.point.lat.val) * Rl.cn (rad P.point.lat.val) + (n * p + g) * Rl.sn (rad P.point.lat.val) * Rl.sn (rad P.point.lat.val) = n * (Rl.cn (rad P.point.lat.val) * Rl.cn (rad P.point.lat.val) + p * (Rl.sn (rad P.point.lat.val) * Rl.sn (rad P.point.lat.val))) + g * (Rl.cn (rad P.point.lat.val) * Rl.cn (rad P.point.lat.val) + Rl.sn (rad P.point.lat.val) * Rl.sn (rad P.point.lat.val)):=(Rl.ind5 (P:=fun n g p c s=>(n + g) * c * c + (n * p + g) * s * s = n * (c * c + p * (s * s)) + g * (c * c + s * s)) (fun n g p c s=>Rl.pt fun n__=>by simp only [Rl.f_add,Rl.f_sub,Rl.f_neg,Rl.f_mul,Rl.f_q]; grind) n g p (Rl.cn (rad P.point.lat.val)) (Rl.sn (rad P.point.lat.val)))
        rw [f1,py,← e2,Rl.mul_one,← Rl.mul_assoc,en,Rl.add_sub_l]
      rwa [this] at T
    generalize S_SubI (S_AddI (S_MulI (S_l15Flat v) (S_CosI (S_l14Lat e v))) (S_MulI v.z (S_SinI (S_l14Lat e v)))) (S_MulI (S_MajorI e) (S_SqrtI (S_SubI (S_Integer (c64 1)) (S_MulI (S_EccI e) (S_SqrI (S_SinI (S_l14Lat e v))))))) = HH at *
    cases h2 : S_IsWhole HH with
    | true=>
      rw [h2,cond_t] at hc
      exact absurd hc (by rw [c64_v]; decide)
    | false=>
      simp only [cond_f]
      refine ⟨tAtPoint hq 0 (by omega) L (.inr (.inr ?_)),fun z=>OverlapI_tr (HT z) ?_⟩
      · rw [Int.mul_zero,Int.add_zero]; exact D
      · unfold S_HeightI
        simp only [bindP_e]
        cases S_l00In P.height (c64 (-20000000)) (c64 20000000000) with
        | true=>simp only [Bool.not_true,cond_f]; exact tQuotS (Fix_ok (by omega)) (by decide) (by rw [c64_v]; exact eh)
        | false=>
          simp only [Bool.not_false,cond_t]
          unfold S_Whole
          rw [bindP_e]
          exact tWhole _
theorem Shift_sc {s : Sf} (h : S_l23Ok__pSf s = true) : -1000000 ≤ s.sc.val ∧ s.sc.val ≤ 1000000:=by
  unfold S_l23Ok__pSf at h
  simp only [bindP_e] at h
  have key : ∀ b1 b2 b3 b4 b5 b6 b7 : Bool,(bif !b1 then false else bif !b2 then false else bif !b3 then false else bif !b4 then false else bif !b5 then false else bif !b6 then false else b7) = true → b7 = true:=by decide
  have:=key _ _ _ _ _ _ _ h
  rw [sp_in,c64_v,c64_v] at this
  simp only [Bool.and_eq_true,decide_eq_true_eq] at this
  exact this
theorem Move_of {e : El} {s : Sf} {P : Pl} (h : (S_MovePlace e s e P).2.2.2.val = 0) : S_l12Ok e = true ∧ S_l23Ok__pSf s = true ∧ S_MovePlace e s e P = S_FromCartesian e (S_ApplyAffine (S_l23Affine__pSf s) (S_l14To__pPl P e)):=by
  unfold S_MovePlace S_ValidEllipsoid at h ⊢
  simp only [bindP_e] at h ⊢
  cases h1 : S_l12Ok e with
  | false=>rw [h1] at h; simp only [Bool.not_false,cond_t,c64_v] at h; exact absurd h (by decide)
  | true=>
    rw [h1] at h
    simp only [Bool.not_true,cond_f] at h ⊢
    cases h2 : S_l23Ok__pSf s with
    | false=>rw [h2] at h; simp only [Bool.not_false,cond_t,c64_v] at h; exact absurd h (by decide)
    | true=>
      rw [h2] at h
      simp only [Bool.not_true,cond_f] at h ⊢
      cases h3 : S_l14Ok__pPl P with
      | false=>rw [h3] at h; simp only [Bool.not_false,cond_t,c64_v] at h; exact absurd h (by decide)
      | true=>simp only [Bool.not_true,cond_f]; exact ⟨trivial,trivial,trivial⟩
theorem place8 (C : Cd) : S_l11Ok (S_E8Place C).point = true ∧ 0 ≤ (S_E8Place C).height.val ∧ (S_E8Place C).height.val ≤ 20000000000:=by
  unfold S_E8Place
  simp only [bindP_e]
  have hq:=draw_point C (⟨c64 0,cu64 0⟩ : Src)
  generalize S_l11Draw__src C (⟨c64 0,cu64 0⟩ : Src) = r1 at *
  have hn:=number_in C r1.2 (m:=c64 20000000) (by rw [c64_v]; omega) (by rw [c64_v]; omega)
  generalize S_l05Number__src C r1.2 (c64 20000000) = r2 at *
  unfold nr at hn
  rw [c64_v] at hn
  by_cases c : r2.1.val < 0
  · rw [decide_eq_true c,cond_t]
    have w : (w64 (0 - r2.1.val)).val = -r2.1.val:=by rw [w64_val]; omega
    exact ⟨hq,by show 0 ≤ (w64 (0 - r2.1.val)).val; omega,by show (w64 (0 - r2.1.val)).val ≤ 20000000000; omega⟩
  · rw [decide_eq_false c,cond_f]
    exact ⟨hq,by show 0 ≤ r2.1.val; omega,by show r2.1.val ≤ 20000000000; omega⟩
theorem Ball_eq : S_SphereOf (c64 6371000000) = ((⟨c64 6371000000,c64 0,c64 1⟩ : El),c64 0):=by
  have h : S_l12Ok (⟨c64 6371000000,c64 0,c64 1⟩ : El) = true:=by decide
  unfold S_SphereOf
  simp only [bindP_e,h,Bool.not_true,cond_f]
theorem pure_FnMoves (code more : Cd) : L_FnMoves code more = true:=by
  unfold L_FnMoves
  rw [bindP_e]
  cases L_d8Long code more with
  | true=>rfl
  | false=>
    rw [cond_f]
    obtain ⟨hq,hb⟩:=place8 code
    simp only [bindP_e,eq_MovePlace,Ball_eq]
    generalize S_E8Ellipsoid more = e
    generalize S_E8Place code = P at *
    generalize L_d8At more (c64 0) (c64 60000) = d
    by_cases h1 : (S_MovePlace e (⟨c64 0,c64 0,c64 0,c64 0,c64 0,c64 0,c64 0⟩ : Sf) e P).2.2.2.val = 0
    · rw [h1,show ((0 : Int) != 0) = false from rfl,cond_f]
      obtain ⟨he,_,eq⟩:=Move_of h1
      rw [eq] at h1 ⊢
      have z : (c64 0).val = 0:=c64_v _ _
      obtain ⟨A,B⟩:=Move_tr (s:=(⟨c64 0,c64 0,c64 0,c64 0,c64 0,c64 0,c64 0⟩ : Sf)) he ⟨z,z,z,z,z,z⟩ (by show -1000000 ≤ (c64 0).val ∧ (c64 0).val ≤ 1000000; rw [z]; omega) (.inl z) hq hb h1
      rw [A,B z]
      simp only [Bool.not_true,cond_f]
      by_cases h2 : (S_MovePlace (⟨c64 6371000000,c64 0,c64 1⟩ : El) (⟨c64 0,c64 0,c64 0,c64 0,c64 0,c64 0,w64 (d.val - 30000)⟩ : Sf) (⟨c64 6371000000,c64 0,c64 1⟩ : El) P).2.2.2.val = 0
      · rw [h2,show ((0 : Int) != 0) = false from rfl,cond_f]
        obtain ⟨he2,hs2,eq2⟩:=Move_of h2
        rw [eq2] at h2 ⊢
        exact (Move_tr (s:=(⟨c64 0,c64 0,c64 0,c64 0,c64 0,c64 0,w64 (d.val - 30000)⟩ : Sf)) he2 ⟨z,z,z,z,z,z⟩ (Shift_sc hs2) (.inr z) hq hb h2).1
      · rw [show ((S_MovePlace (⟨c64 6371000000,c64 0,c64 1⟩ : El) (⟨c64 0,c64 0,c64 0,c64 0,c64 0,c64 0,w64 (d.val - 30000)⟩ : Sf) (⟨c64 6371000000,c64 0,c64 1⟩ : El) P).2.2.2.val != 0) = true from by simp only [bne_iff_ne,ne_eq]; exact h2,cond_t]
    · rw [show ((S_MovePlace e (⟨c64 0,c64 0,c64 0,c64 0,c64 0,c64 0,c64 0⟩ : Sf) e P).2.2.2.val != 0) = true from by simp only [bne_iff_ne,ne_eq]; exact h1,cond_t]
      exact beq_self_eq_true _
end Go.Proofs.YtfhnlkinjbakgaaGreat.Abs
