/- Plain laws of the functions on numbers: what the program computes is what the reference computes. -/
import Derived.Test.YtbipmdgocmdgdaaGreatCsQstu
import Derived.Test.YtbipmdgocmdgdaaGreatCsFx
set_option linter.unusedVariables false
set_option linter.unusedSimpArgs false
namespace Go.Proofs.YtbipmdgocmdgdaaGreat.Abs
open Go
theorem ok19 {p : Pj} (h : S_l19Ok p = true) : S_ValidProjection p = true:=by
  unfold S_l19Ok at h
  unfold S_ValidProjection
  simp only [bindP_e] at h ⊢
  cases hk : S_l17Ok p with
  | true=>rfl
  | false=>
    rw [hk] at h
    cases hn : S_l00In p.kind (c64 10) (c64 12) <;> rw [hn] at h
    · rw [cond_f] at h; cases h
    · rw [cond_t] at h; cases h
theorem spec_LatOf {q : Pt} (h : S_l11Ok q = true) : S_LatOf q = S_RadiansOf q.lat:=by
  unfold S_LatOf
  simp only [bindP_e,h,Bool.not_true,cond_f]
theorem eq_ConicForward (p : Pj) (q : Pt) : I_ConicForward p q = S_ConicForward p q:=by
  unfold I_ConicForward S_ConicForward
  simp only [bindP_e,eq_ValidPoint]
  rcases eq_newConic p with ⟨h1,h2⟩ | ⟨h1,h2⟩
  · rw [h1,h2]
    simp only [code_zero,cond_f,Bool.not_true]
    cases h3 : S_l11Ok q with
    | false=>simp only [Bool.not_false,cond_t]
    | true=>
      have hp:=point_val h3
      have hl : S_l17Lon p q = S_RadiansOf (S_l11Wrap (w64 (q.lon.val - p.lon0.val))):=by
        unfold S_l17Lon
        simp only [bindP_e]
      simp only [Bool.not_true,cond_f,pole_eq q (by omega),eq_LatOf h3,spec_LatOf h3,eq_LonFrom (ok19 h1) h3,hl,eq_radius,conicOf_n,conicOf_o,eq_SinI,eq_CosI,eq_MulI,eq_SubI,eq_planar17]
      cases (p.kind.val == 11) <;> cases S_l11Pole q <;> simp only [cond_t,cond_f]
  · rw [h1,h2]
    simp only [code_one,cond_t,Bool.not_false]
theorem over_bad {a : Iv} (b : Iv) (h : S_l04Ok a = false) : S_OverlapI a b = true:=by
  unfold S_OverlapI S_MeetI
  simp only [bindP_e,h,Bool.not_false,cond_t]
  cases S_l04Ok b <;> simp only [Bool.not_false,Bool.not_true,cond_t,cond_f]
theorem if_over2 {α : Type} (x y : Iv) (E X : α) : (bif S_l04Ok x then (bif !(S_OverlapI x y) then E else X) else X) = bif !(S_OverlapI x y) then E else X:=by
  cases h : S_l04Ok x
  · rw [cond_f,over_bad y h]; rfl
  · rw [cond_t]
theorem pair_if (x y : Iv) : I_pair x y = bif !(S_l04Ok x) then ((⟨(c64 0),(c64 0)⟩ : Iv),(⟨(c64 0),(c64 0)⟩ : Iv),(c64 9)) else (bif !(S_l04Ok y) then ((⟨(c64 0),(c64 0)⟩ : Iv),(⟨(c64 0),(c64 0)⟩ : Iv),(c64 9)) else (x,y,(c64 0))):=by
  unfold I_pair
  simp only [bindP_e,eq_areBounded]
  cases S_l04Ok x <;> cases S_l04Ok y <;> simp only [Bool.and_true,Bool.and_false,Bool.not_true,Bool.not_false,cond_t,cond_f]
theorem eq_onEarth (p : Pj) (x y : Iv) : I_onEarth x y p.lon0 = S_l17Back p x y:=by
  unfold I_onEarth S_l17Back I_overlapsAny
  have e : I_TurnI (c64 2) = S_l05Turn (c64 2):=by rw [eq_TurnI]; rfl
  simp only [bindP_e,eq_OverlapI,quarter_hi,e,if_over2,eq_RadiansOf,eq_AddI,pair_if]
theorem eq_ConicInverse (p : Pj) (q : Pn) : I_ConicInverse p q = S_ConicInverse p q:=by
  unfold I_ConicInverse S_ConicInverse
  simp only [bindP_e]
  rcases eq_newConic p with ⟨h1,h2⟩ | ⟨h1,h2⟩
  · rw [h1,h2]
    unfold I_conic_inverseLat__pCn
    have hr : I_ring = S_l06Ring:=Eq.trans rfl rfl
    simp only [code_zero,cond_f,Bool.not_true,eq_radius,conicOf_o,conicOf_n,conicOf_g,conicOf_p,bindP_e,eq_SubI,eq_SqrI,eq_AddI,eq_SqrtI,eq_DirectionI,eq_NegI,eq_MulI,eq_times,eq_DivI,eq_AsinI,eq_OverlapI,eq_LogI,eq_SinhI,eq_AtanI,hr,if_over2,eq_onEarth]
    cases decide ((w64 (p.lat1.val + p.lat2.val)).val < 0) <;> cases (p.kind.val == 10) <;> cases (p.kind.val == 11) <;> simp only [cond_t,cond_f,Bool.not_true]
  · rw [h1,h2]
    simp only [code_one,cond_t,Bool.not_false]
def N3 (c : I64) : Prop:=(c.val == 3) = false
def P2 (r : Pn × I64) : Prop:=N3 r.2
def P1 (r : Iv × I64) : Prop:=N3 r.2
theorem cond_both {α : Type} {p : α → Prop} {c : Bool} {a b : α} (ha : p a) (hb : p b) : p (cond c a b):=by
  cases c
  · exact hb
  · exact ha
theorem bindP_all {α β : Type} {p : β → Prop} {x : α} {φ : α → β} (h : ∀ r,p (φ r)) : p (bindP x φ):=h x
theorem listAt_all {p : I64 → Prop} (L : List I64) (h : ∀ x ∈ L,p x) (h0 : p (c64 0)) (i : I64) : p (listAt L i):=by
  unfold listAt
  rw [List.getD_eq_getElem?_getD]
  cases hx : L[i.val.toNat]? with
  | none=>exact h0
  | some x=>exact h x (List.mem_of_getElem? hx)
def nr (m : Int) (x : I64) : Prop:=-m ≤ x.val ∧ x.val ≤ m
theorem nr_mod {m : I64} (h1 : 1 ≤ m.val) (h2 : m.val < 9223372036854775807) (x : I64) : nr m.val (imod x (w64 (m.val + 1)).val):=by
  have e : (w64 (m.val + 1)).val = m.val + 1:=by rw [w64_val]; omega
  unfold nr
  rw [e,imod_val]
  have g1 : Int.tmod x.val (m.val + 1) < m.val + 1:=Int.tmod_lt_of_pos _ (by omega)
  have g2 : Int.tmod (-x.val) (m.val + 1) < m.val + 1:=Int.tmod_lt_of_pos _ (by omega)
  rw [Int.neg_tmod] at g2
  omega
theorem nr_shr {m : Int} {x : I64} (h : nr m x) (k : Int) : nr m (ishr x k):=by
  unfold nr at *
  rw [ishr_val]
  generalize min k.toNat IntKind.i64.bits = n
  have hp : (0 : Int) < 2 ^ n:=Int.pow_pos (by omega)
  rw [Int.fdiv_eq_ediv_of_nonneg _ (Int.le_of_lt hp)]
  by_cases hv : 0 ≤ x.val
  · have q1 : x.val / 2 ^ n ≤ x.val:=Int.ediv_le_self _ hv
    have q2 : 0 ≤ x.val / 2 ^ n:=Int.ediv_nonneg hv (Int.le_of_lt hp)
    omega
  · have q1 : x.val ≤ x.val / 2 ^ n:=by
      rw [Int.le_ediv_iff_mul_le hp]
      have : x.val * 2 ^ n ≤ x.val * 1:=Int.mul_le_mul_of_nonpos_left (by omega) (by omega)
      omega
    have q2 : x.val / 2 ^ n < 0:=by
      rw [Int.ediv_lt_iff_lt_mul hp]
      omega
    omega
theorem nr_neg {m : Int} {x : I64} (hm : m < 9223372036854775807) (h : nr m x) : nr m (w64 (0 - x.val)):=by
  unfold nr at *
  rw [w64_val]
  omega
theorem nr_list {m : I64} (h1 : 1 ≤ m.val) (i : I64) : nr m.val (listAt [c64 0,c64 1,m,w64 (Int.tdiv m.val 2)] i):=by
  refine listAt_all _ (fun x hx=>?_) (by unfold nr; rw [c64_v]; omega) i
  have hh:=m.hi
  simp only [List.mem_cons,List.not_mem_nil,or_false] at hx
  rcases hx with rfl | rfl | rfl | rfl
  · unfold nr; rw [c64_v]; omega
  · unfold nr; rw [c64_v]; omega
  · exact ⟨by omega,Int.le_refl _⟩
  · unfold nr
    rw [Int.tdiv_eq_ediv_of_nonneg (by omega),w64_val]
    omega
theorem number_in (C : Cd) (b : Src) {m : I64} (h1 : 1 ≤ m.val) (h2 : m.val < 9223372036854775807) : nr m.val (S_l05Number__src C b m).1:=by
  unfold S_l05Number__src
  refine bindP_all (p:=fun r : I64 × Src=>nr m.val r.1) fun r1=>bindP_all (p:=fun r : I64 × Src=>nr m.val r.1) fun r2=>bindP_all (p:=fun r : I64 × Src=>nr m.val r.1) fun r3=>bindP_all (p:=fun r : I64 × Src=>nr m.val r.1) fun r4=>bindP_all (p:=fun r : I64 × Src=>nr m.val r.1) fun r5=>bindP_all (p:=fun r : I64 × Src=>nr m.val r.1) fun r6=>bindP_all (p:=fun r : I64 × Src=>nr m.val r.1) fun r7=>bindP_all (p:=fun r : I64 × Src=>nr m.val r.1) fun r8=>?_
  have hx : ∀ x : I64,nr m.val (imod x (w64 (m.val + 1)).val):=nr_mod h1 h2
  refine cond_both (p:=fun r : I64 × Src=>nr m.val r.1) ?_ (cond_both (p:=fun r : I64 × Src=>nr m.val r.1) ?_ ?_)
  · refine bindP_all (p:=fun r : I64 × Src=>nr m.val r.1) fun r9=>bindP_all (p:=fun r : I64 × Src=>nr m.val r.1) fun r10=>cond_both (p:=fun r : I64 × Src=>nr m.val r.1) ?_ ?_
    · exact nr_neg h2 (nr_shr (hx _) _)
    · exact nr_shr (hx _) _
  · unfold S_l00Src_among__src__s4
    rw [bindP_e,bindP_e,bindP_e]
    refine cond_both (p:=fun r : I64 × Src=>nr m.val r.1) ?_ ?_
    · exact nr_neg h2 (nr_list h1 _)
    · exact nr_list h1 _
  · refine bindP_all (p:=fun r : I64 × Src=>nr m.val r.1) fun r9=>cond_both (p:=fun r : I64 × Src=>nr m.val r.1) ?_ ?_
    · exact nr_neg h2 (hx _)
    · exact hx _
theorem draw_point (C : Cd) (b : Src) : S_l11Ok (S_l11Draw__src C b).1 = true:=by
  unfold S_l11Draw__src
  rw [bindP_e,bindP_e,bindP_e]
  have q1:=number_in C b (m:=c64 900000000) (by rw [c64_v]; omega) (by rw [c64_v]; omega)
  generalize S_l05Number__src C b (c64 900000000) = r1 at *
  have q3:=wrap_in64 (S_l05Number__src C r1.2 (c64 1800000000)).1
  generalize S_l11Wrap (S_l05Number__src C r1.2 (c64 1800000000)).1 = r3 at *
  unfold nr at q1
  rw [c64_v] at q1
  refine bindP_all (p:=fun r : Pt × Src=>S_l11Ok r.1 = true) fun r4=>cond_both (p:=fun r : Pt × Src=>S_l11Ok r.1 = true) ?_ (cond_both (p:=fun r : Pt × Src=>S_l11Ok r.1 = true) ?_ ?_)
  · unfold S_l00Src_among__src__s4
    rw [bindP_e,bindP_e]
    have q : nr 900000000 (listAt [c64 900000000,c64 (-900000000),c64 0,c64 1] (S_l00Src_pick__src C r4.2 (c64 4)).1):=by
      refine listAt_all _ (fun x hx=>?_) (by unfold nr; rw [c64_v]; omega) _
      simp only [List.mem_cons,List.not_mem_nil,or_false] at hx
      rcases hx with rfl | rfl | rfl | rfl <;> (unfold nr; rw [c64_v]; omega)
    exact l11_of ⟨q.1,q.2,q3.1,q3.2⟩
  · unfold S_l00Src_among__src__s5
    rw [bindP_e,bindP_e]
    have q : (fun x : I64=>-1800000000 < x.val ∧ x.val ≤ 1800000000) (listAt [c64 1800000000,c64 (-1799999999),c64 0,c64 900000000,c64 (-900000000)] (S_l00Src_pick__src C r4.2 (c64 5)).1):=by
      refine listAt_all (p:=fun x : I64=>-1800000000 < x.val ∧ x.val ≤ 1800000000) _ (fun x hx=>?_) (by rw [c64_v]; omega) _
      simp only [List.mem_cons,List.not_mem_nil,or_false] at hx
      rcases hx with rfl | rfl | rfl | rfl | rfl <;> (rw [c64_v]; omega)
    exact l11_of ⟨q1.1,q1.2,q.1,q.2⟩
  · exact l11_of ⟨q1.1,q1.2,q3.1,q3.2⟩
end Go.Proofs.YtbipmdgocmdgdaaGreat.Abs
