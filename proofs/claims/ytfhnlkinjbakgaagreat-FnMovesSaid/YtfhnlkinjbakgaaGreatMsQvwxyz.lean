/- Plain laws of the functions on numbers: what the program computes is what the reference computes. -/
import Derived.Test.YtfhnlkinjbakgaaGreatMsQstu
import Derived.Test.YtfhnlkinjbakgaaGreatMsF4
set_option linter.unusedVariables false
set_option linter.unusedSimpArgs false
namespace Go.Proofs.YtfhnlkinjbakgaaGreat.Abs
open Go
theorem eq_LonOf {p : Pt} (h : S_l11Ok p = true) : I_LonOf p = S_RadiansOf p.lon:=by
  unfold I_LonOf
  simp only [bindP_e,eq_ValidPoint,h,Bool.not_true,cond_f,eq_RadiansOf]
theorem eq_l12Ok (e : El) : I_ValidEllipsoid e = S_l12Ok e:=by
  unfold I_ValidEllipsoid S_l12Ok
  simp only [bindP_e,sp_in,sp_within,c64_v]
  rw [Bool.eq_iff_iff]
  first | (simp; done) | (simp; grind)
theorem eq_ValidEllipsoid (e : El) : I_ValidEllipsoid e = S_ValidEllipsoid e:=by
  unfold S_ValidEllipsoid
  rw [bindP_e,eq_l12Ok]
theorem eq_MajorI (e : El) : I_MajorI e = S_MajorI e:=by
  unfold I_MajorI S_MajorI I_ifValid__impl_MajorI_1_pEl I_MajorI_1__pEl
  simp only [bindP_e,eq_l12Ok,eq_Whole,eq_Quotient]
theorem eq_FlatteningI (e : El) : I_FlatteningI e = S_FlatteningI e:=by
  unfold I_FlatteningI S_FlatteningI I_ifValid__impl_FlatteningI_1_pEl I_FlatteningI_1__pEl
  simp only [bindP_e,eq_l12Ok,eq_Whole,eq_Quotient]
theorem eq_EccI (e : El) : I_EccI e = S_EccI e:=by
  unfold I_EccI S_EccI
  simp only [bindP_e,eq_FlatteningI,eq_Integer,eq_SubI,eq_MulI]
theorem eq_weightOf (e : El) (s : Iv) : I_weightOf e s = S_SubI (S_Integer (c64 1)) (S_MulI (S_EccI e) (S_SqrI s)):=by
  unfold I_weightOf
  simp only [bindP_e,eq_EccI,eq_SqrI,eq_MulI,eq_oneLess]
theorem eq_RadiusN (e : El) (x : Iv) : I_RadiusN e x = S_RadiusN e x:=by
  unfold I_RadiusN S_RadiusN S_l12W
  simp only [bindP_e,eq_MajorI,eq_SinI,eq_weightOf,eq_SqrtI,eq_DivI]
theorem eq_ValidPlace (p : Pl) : I_ValidPlace p = S_l14Ok__pPl p:=by
  unfold I_ValidPlace S_l14Ok__pPl I_isHeight
  simp only [bindP_e,eq_ValidPoint,eq_in]
theorem place_ok {p : Pl} (h : S_l14Ok__pPl p = true) : S_l11Ok p.point = true ∧ S_l00In p.height (c64 (-20000000)) (c64 20000000000) = true:=by
  unfold S_l14Ok__pPl at h
  simp only [bindP_e] at h
  cases h1 : S_l11Ok p.point with
  | false=>rw [h1,cond_f] at h; cases h
  | true=>rw [h1,cond_t] at h; exact ⟨rfl,h⟩
theorem eq_toCartesian (e : El) {p : Pl} (h : S_l14Ok__pPl p = true) : I_toCartesian e p = S_l14To__pPl p e:=by
  obtain ⟨h1,h2⟩:=place_ok h
  unfold I_toCartesian S_l14To__pPl I_HeightI I_isHeight
  simp only [bindP_e,eq_LatOf h1,eq_LonOf h1,eq_in,h2,Bool.not_true,cond_f,eq_RadiusN,eq_Quotient,eq_AddI,eq_CosI,eq_SinI,eq_MulI,eq_EccI,eq_oneLess]
theorem eq_SideAt {e : El} (h : S_ValidEllipsoid e = true) (v : Vc) (n : I64) : I_SideAt e v n = S_l14Side e (S_l15Flat v) v.z n:=by
  have ea : I_at n = S_l05At n:=rfl
  unfold I_SideAt S_l14Side
  simp only [bindP_e,eq_ValidEllipsoid,h,Bool.not_true,cond_f,eq_SinAt,eq_CosAt,eq_EccI,eq_RadiusN,ea,eq_MulI,eq_fromAxis,eq_SubI]
theorem far_code (e : El) (v : Vc) : I_centreCode e v = S_l14Far e v:=by
  unfold I_centreCode S_l14Far
  simp only [bindP_e,eq_ValidEllipsoid,eq_NormV,eq_MajorI,eq_HalfI,eq_LessI]
  cases S_ValidEllipsoid e with
  | false=>simp only [Bool.not_false,cond_t]
  | true=>
    simp only [Bool.not_true,cond_f]
    rcases LessI_val (S_NormV v) (S_HalfI (S_MajorI e)) with h | h | h <;> simp only [h,Int.reduceBEq,cond_t,cond_f]
theorem far_valid {e : El} {v : Vc} (h : ((S_l14Far e v).val != 0) = false) : S_ValidEllipsoid e = true:=by
  unfold S_l14Far at h
  simp only [bindP_e] at h
  cases hv : S_ValidEllipsoid e with
  | true=>rfl
  | false=>rw [hv,Bool.not_false,cond_t] at h; exact absurd h (by decide)
theorem lat1 {e : El} (h : S_ValidEllipsoid e = true) (v : Vc) (x : I64) : ∀ (fu : Nat) (lo hi : I64),I_latitudeOf_L1 fu e v x lo hi = S_l14Lat_L1 fu e v (S_l15Flat v) x lo hi:=by
  intro fu
  induction fu with
  | zero=>intro lo hi; rfl
  | succ fu ih=>
    intro lo hi
    unfold I_latitudeOf_L1 S_l14Lat_L1
    simp only [bindP_e,eq_SideAt h,ih]
theorem lat0 {e : El} (h : S_ValidEllipsoid e = true) (v : Vc) : ∀ (fu : Nat) (lo hi : I64),I_latitudeOf_L0 fu e v lo hi = S_l14Lat_L0 fu e v (S_l15Flat v) lo hi:=by
  intro fu
  induction fu with
  | zero=>intro lo hi; rfl
  | succ fu ih=>
    intro lo hi
    unfold I_latitudeOf_L0 S_l14Lat_L0
    simp only [bindP_e,eq_SideAt h,ih,lat1 h,quarter_hi]
theorem eq_latitudeOf {e : El} (h : S_ValidEllipsoid e = true) (v : Vc) : I_latitudeOf e v = S_l14Lat e v:=by
  unfold I_latitudeOf S_l14Lat
  simp only [bindP_e,lat0 h,quarter_hi]
theorem eq_FromCartesian (e : El) (v : Vc) : I_FromCartesian e v = S_FromCartesian e v:=by
  unfold I_FromCartesian S_FromCartesian
  simp only [bindP_e,far_code]
  cases hf : ((S_l14Far e v).val != 0) with
  | true=>simp only [cond_t]
  | false=>
    simp only [cond_f,eq_latitudeOf (far_valid hf),eq_SinI,eq_CosI,eq_fromAxis,eq_MulI,eq_AddI,eq_MajorI,eq_weightOf,eq_SqrtI,eq_SubI,eq_IsWhole,spec_whole,eq_DirectionI]
theorem eq_MovePlace (e : El) (s : Sf) (f : El) (p : Pl) : I_MovePlace e s f p = S_MovePlace e s f p:=by
  unfold I_MovePlace S_MovePlace
  simp only [bindP_e,eq_ValidEllipsoid,eq_ValidShift,eq_ValidPlace,eq_affineOf,eq_ApplyAffine,eq_FromCartesian]
  cases h4 : S_l14Ok__pPl p with
  | false=>cases S_ValidEllipsoid e <;> cases S_ValidEllipsoid f <;> cases S_l23Ok__pSf s <;> simp only [Bool.not_false,Bool.not_true,cond_t,cond_f]
  | true=>cases S_ValidEllipsoid e <;> cases S_ValidEllipsoid f <;> cases S_l23Ok__pSf s <;> simp only [Bool.not_false,Bool.not_true,cond_t,cond_f,eq_toCartesian e h4]
theorem cond_both {α : Type} {p : α → Prop} {c : Bool} {a b : α} (ha : p a) (hb : p b) : p (cond c a b):=by
  cases c
  · exact hb
  · exact ha
theorem bindP_all {α β : Type} {p : β → Prop} {x : α} {φ : α → β} (h : ∀ r,p (φ r)) : p (bindP x φ):=h x
theorem listAt_all {p : I64 → Prop} (L : List I64) (h : ∀ x ∈ L,p x) (h0 : p (c64 0)) (i : I64) : p (listAt L i):=by
  unfold listAt
  rw [List.getD_eq_getElem?_getD]
  cases hx : L[i.val.toNat]? with
  | none=>exact h0
  | some x=>exact h x (List.mem_of_getElem? hx)
def nr (m : Int) (x : I64) : Prop:=-m ≤ x.val ∧ x.val ≤ m
theorem nr_mod {m : I64} (h1 : 1 ≤ m.val) (h2 : m.val < 9223372036854775807) (x : I64) : nr m.val (imod x (w64 (m.val + 1)).val):=by
  have e : (w64 (m.val + 1)).val = m.val + 1:=by rw [w64_val]; omega
  unfold nr
  rw [e,imod_val]
  have g1 : Int.tmod x.val (m.val + 1) < m.val + 1:=Int.tmod_lt_of_pos _ (by omega)
  have g2 : Int.tmod (-x.val) (m.val + 1) < m.val + 1:=Int.tmod_lt_of_pos _ (by omega)
  rw [Int.neg_tmod] at g2
  omega
theorem nr_shr {m : Int} {x : I64} (h : nr m x) (k : Int) : nr m (ishr x k):=by
  unfold nr at *
  rw [ishr_val]
  generalize min k.toNat IntKind.i64.bits = n
  have hp : (0 : Int) < 2 ^ n:=Int.pow_pos (by omega)
  rw [Int.fdiv_eq_ediv_of_nonneg _ (Int.le_of_lt hp)]
  by_cases hv : 0 ≤ x.val
  · have q1 : x.val / 2 ^ n ≤ x.val:=Int.ediv_le_self _ hv
    have q2 : 0 ≤ x.val / 2 ^ n:=Int.ediv_nonneg hv (Int.le_of_lt hp)
    omega
  · have q1 : x.val ≤ x.val / 2 ^ n:=by
      rw [Int.le_ediv_iff_mul_le hp]
      have : x.val * 2 ^ n ≤ x.val * 1:=Int.mul_le_mul_of_nonpos_left (by omega) (by omega)
      omega
    have q2 : x.val / 2 ^ n < 0:=by
      rw [Int.ediv_lt_iff_lt_mul hp]
      omega
    omega
theorem nr_neg {m : Int} {x : I64} (hm : m < 9223372036854775807) (h : nr m x) : nr m (w64 (0 - x.val)):=by
  unfold nr at *
  rw [w64_val]
  omega
theorem nr_list {m : I64} (h1 : 1 ≤ m.val) (i : I64) : nr m.val (listAt [c64 0,c64 1,m,w64 (Int.tdiv m.val 2)] i):=by
  refine listAt_all _ (fun x hx=>?_) (by unfold nr; rw [c64_v]; omega) i
  have hh:=m.hi
  simp only [List.mem_cons,List.not_mem_nil,or_false] at hx
  rcases hx with rfl | rfl | rfl | rfl
  · unfold nr; rw [c64_v]; omega
  · unfold nr; rw [c64_v]; omega
  · exact ⟨by omega,Int.le_refl _⟩
  · unfold nr
    rw [Int.tdiv_eq_ediv_of_nonneg (by omega),w64_val]
    omega
theorem number_in (C : Cd) (b : Src) {m : I64} (h1 : 1 ≤ m.val) (h2 : m.val < 9223372036854775807) : nr m.val (S_l05Number__src C b m).1:=by
  unfold S_l05Number__src
  refine bindP_all (p:=fun r : I64 × Src=>nr m.val r.1) fun r1=>bindP_all (p:=fun r : I64 × Src=>nr m.val r.1) fun r2=>bindP_all (p:=fun r : I64 × Src=>nr m.val r.1) fun r3=>bindP_all (p:=fun r : I64 × Src=>nr m.val r.1) fun r4=>bindP_all (p:=fun r : I64 × Src=>nr m.val r.1) fun r5=>bindP_all (p:=fun r : I64 × Src=>nr m.val r.1) fun r6=>bindP_all (p:=fun r : I64 × Src=>nr m.val r.1) fun r7=>bindP_all (p:=fun r : I64 × Src=>nr m.val r.1) fun r8=>?_
  have hx : ∀ x : I64,nr m.val (imod x (w64 (m.val + 1)).val):=nr_mod h1 h2
  refine cond_both (p:=fun r : I64 × Src=>nr m.val r.1) ?_ (cond_both (p:=fun r : I64 × Src=>nr m.val r.1) ?_ ?_)
  · refine bindP_all (p:=fun r : I64 × Src=>nr m.val r.1) fun r9=>bindP_all (p:=fun r : I64 × Src=>nr m.val r.1) fun r10=>cond_both (p:=fun r : I64 × Src=>nr m.val r.1) ?_ ?_
    · exact nr_neg h2 (nr_shr (hx _) _)
    · exact nr_shr (hx _) _
  · unfold S_l00Src_among__src__s4
    rw [bindP_e,bindP_e,bindP_e]
    refine cond_both (p:=fun r : I64 × Src=>nr m.val r.1) ?_ ?_
    · exact nr_neg h2 (nr_list h1 _)
    · exact nr_list h1 _
  · refine bindP_all (p:=fun r : I64 × Src=>nr m.val r.1) fun r9=>cond_both (p:=fun r : I64 × Src=>nr m.val r.1) ?_ ?_
    · exact nr_neg h2 (hx _)
    · exact hx _
theorem draw_point (C : Cd) (b : Src) : S_l11Ok (S_l11Draw__src C b).1 = true:=by
  unfold S_l11Draw__src
  rw [bindP_e,bindP_e,bindP_e]
  have q1:=number_in C b (m:=c64 900000000) (by rw [c64_v]; omega) (by rw [c64_v]; omega)
  generalize S_l05Number__src C b (c64 900000000) = r1 at *
  have q3:=wrap_in64 (S_l05Number__src C r1.2 (c64 1800000000)).1
  generalize S_l11Wrap (S_l05Number__src C r1.2 (c64 1800000000)).1 = r3 at *
  unfold nr at q1
  rw [c64_v] at q1
  refine bindP_all (p:=fun r : Pt × Src=>S_l11Ok r.1 = true) fun r4=>cond_both (p:=fun r : Pt × Src=>S_l11Ok r.1 = true) ?_ (cond_both (p:=fun r : Pt × Src=>S_l11Ok r.1 = true) ?_ ?_)
  · unfold S_l00Src_among__src__s4
    rw [bindP_e,bindP_e]
    have q : nr 900000000 (listAt [c64 900000000,c64 (-900000000),c64 0,c64 1] (S_l00Src_pick__src C r4.2 (c64 4)).1):=by
      refine listAt_all _ (fun x hx=>?_) (by unfold nr; rw [c64_v]; omega) _
      simp only [List.mem_cons,List.not_mem_nil,or_false] at hx
      rcases hx with rfl | rfl | rfl | rfl <;> (unfold nr; rw [c64_v]; omega)
    exact l11_of ⟨q.1,q.2,q3.1,q3.2⟩
  · unfold S_l00Src_among__src__s5
    rw [bindP_e,bindP_e]
    have q : (fun x : I64=>-1800000000 < x.val ∧ x.val ≤ 1800000000) (listAt [c64 1800000000,c64 (-1799999999),c64 0,c64 900000000,c64 (-900000000)] (S_l00Src_pick__src C r4.2 (c64 5)).1):=by
      refine listAt_all (p:=fun x : I64=>-1800000000 < x.val ∧ x.val ≤ 1800000000) _ (fun x hx=>?_) (by rw [c64_v]; omega) _
      simp only [List.mem_cons,List.not_mem_nil,or_false] at hx
      rcases hx with rfl | rfl | rfl | rfl | rfl <;> (rw [c64_v]; omega)
    exact l11_of ⟨q1.1,q1.2,q.1,q.2⟩
  · exact l11_of ⟨q1.1,q1.2,q3.1,q3.2⟩
end Go.Proofs.YtfhnlkinjbakgaaGreat.Abs
