/- Plain laws of the functions on numbers: what the program computes is what the reference computes. -/
import Derived.Test.YtjbdilphncpceaaGreatQw
import Derived.Test.YtjbdilphncpceaaGreatF5
set_option linter.unusedVariables false
set_option linter.unusedSimpArgs false
namespace Go.Proofs.YtjbdilphncpceaaGreat.Abs
open Go

theorem vp_of {p : Pj} (h : F_spec_l17Ok p = true) : F_spec_ValidProjection p = true := by
  unfold F_spec_ValidProjection
  rw [bindP_e, h]

theorem kind17 {p : Pj} (h : F_spec_l00In p.kind (c64 1) (c64 4) = true) : p.kind.val = 1 ∨ p.kind.val = 2 ∨ p.kind.val = 3 ∨ p.kind.val = 4 := by
  rw [sp_in] at h
  simp only [Bool.and_eq_true, decide_eq_true_eq, c64_v] at h
  omega

theorem eq_CylinderInverse (p : Pj) (q : Pn) : F_impl_CylinderInverse p q = F_spec_CylinderInverse p q := by
  unfold F_impl_CylinderInverse F_spec_CylinderInverse F_spec_l17Cylinder F_impl_isCylindrical
  have hr : F_impl_ring = F_spec_l06Ring := Eq.trans rfl rfl
  simp only [bindP_e, eq_l17Ok, eq_in, eq_CosI, eq_RadiansOf, eq_DivI, eq_AtanI, eq_SinhI, eq_MulI, hr, eq_OverlapI, eq_AsinI, eq_Quotient, eq_onEarth, if_over2]
  cases F_spec_l17Ok p with
  | false => simp only [Bool.not_false, cond_t, cond_f]
  | true =>
    cases F_spec_l00In p.kind (c64 1) (c64 4) with
    | false => simp only [Bool.not_false, Bool.not_true, cond_t, cond_f]
    | true => simp only [Bool.not_true, cond_t, cond_f]

/-- What an inverse hands back: an error and zeros, or a bounded latitude. -/
def Good (r : Iv × Iv × I64) : Prop := ((r.2.2.val != 0) = true ∧ r.1 = ⟨c64 0, c64 0⟩ ∧ r.2.1 = ⟨c64 0, c64 0⟩) ∨ (r.2.2 = c64 0 ∧ F_spec_l04Ok r.1 = true)

theorem good_err {c : I64} (h : (c.val != 0) = true) : Good (⟨c64 0, c64 0⟩, ⟨c64 0, c64 0⟩, c) := .inl ⟨h, rfl, rfl⟩

theorem good_bif {b : Bool} {x y : Iv × Iv × I64} (hx : b = true → Good x) (hy : b = false → Good y) : Good (bif b then x else y) := by
  cases b
  · exact hy rfl
  · exact hx rfl

theorem good_eta {r : Iv × Iv × I64} (h : Good r) : Good (r.1, r.2.1, r.2.2) := h

theorem good_back (p : Pj) (x y : Iv) : Good (F_spec_l17Back p x y) := by
  rw [← eq_onEarth]
  unfold F_impl_onEarth
  simp only [bindP_e, pair_if]
  refine good_bif (fun _ => good_err code_eight) fun _ => good_bif (fun _ => good_err code_eight) fun _ => good_eta ?_
  refine good_bif (fun _ => good_err code_nine) fun h => good_bif (fun _ => good_err code_nine) fun _ => .inr ⟨rfl, ?_⟩
  simpa using h

theorem good_backE (p : Pj) (x y : Iv) : Good ((F_spec_l17Back p x y).1, (F_spec_l17Back p x y).2.1, (F_spec_l17Back p x y).2.2) := good_back p x y

theorem good_Cylinder (p : Pj) (q : Pn) : Good (F_spec_CylinderInverse p q) := by
  unfold F_spec_CylinderInverse
  simp only [bindP_e, if_over2]
  exact good_bif (fun _ => good_err code_one) fun _ => good_bif (fun _ => good_backE _ _ _) fun _ => good_bif (fun _ => good_backE _ _ _) fun _ => good_bif (fun _ => good_bif (fun _ => good_err code_eight) fun _ => good_backE _ _ _) fun _ => good_backE _ _ _

theorem good_Conic (p : Pj) (q : Pn) : Good (F_spec_ConicInverse p q) := by
  unfold F_spec_ConicInverse
  simp only [bindP_e, if_over2]
  have k : ∀ (b1 b2 b3 : Bool) (x1 y1 x2 y2 x3 y3 : Iv), Good (bif b1 then (bif b2 then (⟨c64 0, c64 0⟩, ⟨c64 0, c64 0⟩, c64 8) else ((F_spec_l17Back p x1 y1).1, (F_spec_l17Back p x1 y1).2.1, (F_spec_l17Back p x1 y1).2.2)) else (bif b3 then ((F_spec_l17Back p x2 y2).1, (F_spec_l17Back p x2 y2).2.1, (F_spec_l17Back p x2 y2).2.2) else ((F_spec_l17Back p x3 y3).1, (F_spec_l17Back p x3 y3).2.1, (F_spec_l17Back p x3 y3).2.2))) := fun b1 b2 b3 x1 y1 x2 y2 x3 y3 =>
    good_bif (fun _ => good_bif (fun _ => good_err code_eight) fun _ => good_backE _ _ _) fun _ => good_bif (fun _ => good_backE _ _ _) fun _ => good_backE _ _ _
  exact good_bif (fun _ => good_err code_one) fun _ => good_bif (fun _ => k _ _ _ _ _ _ _ _ _) fun _ => k _ _ _ _ _ _ _ _ _

theorem good_Position (v : Vc) : Good (F_spec_PositionOf v) := by
  unfold F_spec_PositionOf
  simp only [bindP_e, spec_whole]
  refine good_bif (fun _ => good_err code_nine) fun h => .inr ⟨rfl, ?_⟩
  simpa using h

theorem good_Global (p : Pj) (v : Vc) : Good (F_spec_GlobalOf p v) := by
  unfold F_spec_GlobalOf
  simp only [bindP_e]
  refine good_bif (fun _ => good_err code_one) fun _ => ?_
  generalize F_spec_SubI _ _ = x
  generalize F_spec_AddI (F_spec_MulI _ _) _ = z
  rcases good_Position ⟨x, v.x, z⟩ with ⟨h1, h2, h3⟩ | ⟨h1, h2⟩
  · rw [h1, cond_t]
    exact good_err h1
  · rw [h1, code_zero, cond_f]
    exact .inr ⟨rfl, h2⟩

theorem good_Azimuthal (p : Pj) (q : Pn) : Good (F_spec_AzimuthalInverse p q) := by
  unfold F_spec_AzimuthalInverse
  simp only [bindP_e]
  exact good_bif (fun _ => good_err code_one) fun _ => good_bif (fun _ => good_err code_eight) fun _ => good_Global _ _

theorem good_Pseudo (p : Pj) (q : Pn) : Good (F_spec_PseudoInverse p q) := by
  unfold F_spec_PseudoInverse
  simp only [bindP_e, spec_whole]
  refine good_bif (fun _ => good_err code_one) fun _ => good_bif (fun _ => good_err code_eight) fun _ => good_bif (fun _ => good_err code_eight) fun _ => good_bif (fun _ => good_err code_nine) fun h => .inr ⟨rfl, ?_⟩
  simpa using h

theorem good_Transverse (p : Pj) (q : Pn) : Good (F_spec_TransverseInverse p q) := by
  unfold F_spec_TransverseInverse
  simp only [bindP_e, spec_whole]
  refine good_bif (fun _ => good_err code_one) fun _ => good_bif (fun _ => good_err code_nine) fun _ => good_bif (fun _ => good_err code_nine) fun _ => good_bif (fun _ => good_err code_nine) fun h => .inr ⟨rfl, ?_⟩
  simpa using h

theorem good_Inverse (p : Pj) (q : Pn) : Good (F_spec_l22Inverse p q) := by
  unfold F_spec_l22Inverse
  simp only [bindP_e]
  exact good_bif (fun _ => good_Cylinder _ _) fun _ => good_bif (fun _ => good_Azimuthal _ _) fun _ => good_bif (fun _ => good_Conic _ _) fun _ => good_bif (fun _ => good_Pseudo _ _) fun _ => good_bif (fun _ => good_Transverse _ _) fun _ => good_err code_one

theorem eq_Inverse22 (p : Pj) (q : Pn) : F_impl_Unproject p q = F_spec_l22Inverse p q := by
  unfold F_impl_Unproject F_spec_l22Inverse
  simp only [bindP_e, eq_FamilyOf, eq_CylinderInverse, eq_AzimuthalInverse, eq_ConicInverse, eq_PseudoInverse, eq_TransverseInverse]

theorem eq_Unproject22 (p : Pj) (q : Pn) : F_impl_Unproject p q = F_spec_l22Unproject p q := by
  rw [eq_Inverse22]
  unfold F_spec_l22Unproject
  simp only [bindP_e]
  have h := good_Inverse p q
  generalize F_spec_l22Inverse p q = r at *
  obtain ⟨x, y, c⟩ := r
  rcases h with ⟨h1, h2, h3⟩ | ⟨h1, h2⟩
  · simp only at h1 h2 h3
    subst h2; subst h3
    have h4 : (c.val == 0) = false := by
      cases h5 : (c.val == 0)
      · rfl
      · simp only [bne, h5] at h1; cases h1
    simp only [h4, h1, cond_f, cond_t]
  · simp only at h1 h2
    subst h1
    have h4 : ((c64 0).val == 0) = true := by decide
    simp only [h4, h2, cond_t, cond_f, Bool.not_true, code_zero]

theorem kind_of {p : Pj} (h : F_spec_l17Ok p = true) : 1 ≤ p.kind.val ∧ p.kind.val ≤ 16 := by
  rw [← eq_l17Ok] at h
  unfold F_impl_ValidProjection at h
  simp only [bindP_e] at h
  cases hw : F_impl_within p.kind (c64 1) (c64 16) with
  | false => rw [hw, Bool.not_false, cond_t] at h; cases h
  | true =>
    rw [sp_within] at hw
    simp only [Bool.and_eq_true, decide_eq_true_eq, c64_v] at hw
    exact hw

theorem fam_of {p : Pj} (h : F_spec_l17Ok p = true) : F_spec_l22Family p.kind = c64 1 ∨ F_spec_l22Family p.kind = c64 2 ∨ F_spec_l22Family p.kind = c64 3 ∨ F_spec_l22Family p.kind = c64 4 ∨ F_spec_l22Family p.kind = c64 5 := by
  obtain ⟨h1, h2⟩ := kind_of h
  unfold F_spec_l22Family
  simp only [bindP_e, sp_in, c64_v]
  generalize p.kind.val = k at *
  obtain rfl | rfl | rfl | rfl | rfl | rfl | rfl | rfl | rfl | rfl | rfl | rfl | rfl | rfl | rfl | rfl : k = 1 ∨ k = 2 ∨ k = 3 ∨ k = 4 ∨ k = 5 ∨ k = 6 ∨ k = 7 ∨ k = 8 ∨ k = 9 ∨ k = 10 ∨ k = 11 ∨ k = 12 ∨ k = 13 ∨ k = 14 ∨ k = 15 ∨ k = 16 := by omega
  all_goals simp

/-- The code is not that of what is not found. -/
def N3 (c : I64) : Prop := (c.val == 3) = false
def P3 (r : Iv × Iv × I64) : Prop := N3 r.2.2
def P2 (r : Pn × I64) : Prop := N3 r.2
def P1 (r : Iv × I64) : Prop := N3 r.2

theorem p3_bif {b : Bool} {x y : Iv × Iv × I64} (hx : P3 x) (hy : P3 y) : P3 (bif b then x else y) := by
  cases b
  · exact hy
  · exact hx

theorem p2_bif {b : Bool} {x y : Pn × I64} (hx : P2 x) (hy : P2 y) : P2 (bif b then x else y) := by
  cases b
  · exact hy
  · exact hx

theorem p1_bif {b : Bool} {x y : Iv × I64} (hx : P1 x) (hy : P1 y) : P1 (bif b then x else y) := by
  cases b
  · exact hy
  · exact hx

theorem n3_0 : N3 (c64 0) := by unfold N3; decide

theorem n3_1 : N3 (c64 1) := by unfold N3; decide

theorem n3_8 : N3 (c64 8) := by unfold N3; decide

theorem n3_9 : N3 (c64 9) := by unfold N3; decide

/-- A projected point is valid. -/
def V (q : Pt) (r : Pn × I64) : Prop := (r.2.val != 0) = false → F_spec_l11Ok q = true

theorem v_bad {q : Pt} {x : Pn} {c : I64} (h : (c.val != 0) = true) : V q (x, c) := fun h' => by rw [h] at h'; cases h'

theorem v_bif {q : Pt} {b : Bool} {x y : Pn × I64} (hx : V q x) (hy : V q y) : V q (bif b then x else y) := by
  cases b
  · exact hy
  · exact hx

theorem v_ok {q : Pt} {z : Pn} {c : I64} (h : (c.val != 0) = true) (r : Pn × I64) : V q (bif (!(F_spec_l11Ok q)) then (z, c) else r) := by
  cases hq : F_spec_l11Ok q
  · exact v_bad h
  · exact fun _ => hq

theorem floor_two (x : I64) : ishr x 1 = F_spec_l06Floor x (c64 2) := by
  refine IK.eq ?_
  have hx := x.lo
  have hx' := x.hi
  have e2 : (imod x (c64 2).val).val = Int.tmod x.val 2 := by rw [imod_val, c64_v]
  unfold F_spec_l06Floor
  rw [shr1_val, e2, c64_v]
  by_cases h : 0 ≤ x.val
  · rw [Int.tmod_eq_emod_of_nonneg h, Int.tdiv_eq_ediv_of_nonneg h, decide_eq_false (by omega), cond_f, w64_val]
    omega
  · have t1 : Int.tdiv x.val 2 = -((-x.val) / 2) := by rw [← Int.tdiv_eq_ediv_of_nonneg (by omega), Int.neg_tdiv, Int.neg_neg]
    have t2 : Int.tmod x.val 2 = -((-x.val) % 2) := by rw [← Int.tmod_eq_emod_of_nonneg (by omega), Int.neg_tmod, Int.neg_neg]
    rw [t1, t2]
    by_cases h2 : (-x.val) % 2 = 0
    · rw [decide_eq_false (by omega), cond_f, w64_val]
      omega
    · have e1 : (w64 (-((-x.val) / 2))).val = -((-x.val) / 2) := by rw [w64_val]; omega
      rw [decide_eq_true (by omega), cond_t, e1, w64_val]
      omega

theorem mdf {n d : I64} (hd : d.val = 7244019458077122842 ∨ d.val = 7244019458077122843) (hn : -1152921504606846976 < n.val ∧ n.val < 1152921504606846976) :
    ∃ q r : I64, F_spec_l02Int (F_spec_l02Div (F_spec_l02Mul n (c64 966367641600000000)) d).1 = (q, true) ∧ (F_spec_l02Div (F_spec_l02Mul n (c64 966367641600000000)) d).2 = r ∧ q.val * d.val + r.val = n.val * 966367641600000000 ∧ 0 ≤ r.val ∧ r.val < d.val ∧
      -160000000000000000 ≤ q.val ∧ q.val ≤ 160000000000000000 := by
  have m := sp_Mul n (c64 966367641600000000)
  rw [c64_v] at m
  generalize F_spec_l02Mul n (c64 966367641600000000) = w at *
  obtain ⟨e, r0, r1⟩ := sp_Div w d (by omega) (by omega) (by omega)
  generalize F_spec_l02Div w d = D at *
  have qz : -160000000000000000 ≤ D.1.z ∧ D.1.z ≤ 160000000000000000 := by
    rcases hd with hd | hd <;> rw [hd] at e r1 <;> omega
  obtain ⟨q, hq, hi⟩ := Int_in D.1 (by omega) (by omega)
  exact ⟨q, D.2, hi, rfl, by rw [hq, e, m], r0, r1, by omega, by omega⟩

theorem mdf_floor {n d : I64} (hd : d.val = 7244019458077122842 ∨ d.val = 7244019458077122843) (hn : -1152921504606846976 < n.val ∧ n.val < 1152921504606846976) : (F_spec_MulDivFloor n (c64 966367641600000000) d).2 = true := by
  obtain ⟨q, r, hi, _⟩ := mdf hd hn
  unfold F_spec_MulDivFloor
  rw [decide_eq_false (by omega), cond_f]
  simp only [bindP_e, hi]

theorem zero_of {z s D : Int} (h : z * D + s = 0) (s0 : 0 ≤ s) (s1 : s < D) : z = 0 := by
  have e : z * D + s = 0 * D + 0 := by rw [Int.zero_mul]; omega
  exact (div_unique e s0 s1 (Int.le_refl 0) (by omega)).1

theorem neg_one_of {z r s D : Int} (h : z * D + (r + s) = 0) (r0 : 0 < r) (r1 : r < D) (s0 : 0 ≤ s) (s1 : s < D) : z = -1 := by
  by_cases q : r + s < D
  · have e : z * D + (r + s) = 0 * D + 0 := by rw [Int.zero_mul]; omega
    have := (div_unique e (by omega) q (Int.le_refl 0) (by omega)).2
    omega
  · have e : (z + 1) * D + (r + s - D) = 0 * D + 0 := by rw [Int.zero_mul, Int.add_mul, Int.one_mul]; omega
    have := (div_unique e (by omega) (by omega) (Int.le_refl 0) (by omega)).1
    omega

theorem mdf_ceil {n d : I64} (hd : d.val = 7244019458077122842 ∨ d.val = 7244019458077122843) (hn : -1152921504606846976 < n.val ∧ n.val < 1152921504606846976) :
    F_impl_mulDivCeil n (c64 966367641600000000) d = (w64 (0 - (F_spec_MulDivFloor (w64 (0 - n.val)) (c64 966367641600000000) d).1.val), true) := by
  have en : (w64 (0 - n.val)).val = -n.val := by rw [w64_val]; omega
  obtain ⟨q, r, hi, hr, e, r0, r1, q0, q1⟩ := mdf hd hn
  obtain ⟨p, s, ki, _, f, s0, s1, p0, p1⟩ := mdf (n := w64 (0 - n.val)) hd (by rw [en]; omega)
  rw [en] at f
  have hf : (F_spec_MulDivFloor (w64 (0 - n.val)) (c64 966367641600000000) d).1 = p := by
    unfold F_spec_MulDivFloor
    rw [decide_eq_false (by omega), cond_f]
    simp only [bindP_e, ki]
  rw [hf]
  unfold F_impl_mulDivCeil
  simp only [bindP_e, eq_WideMul, eq_WideDiv _ _ (show 0 < d.val by omega), eq_WideInt, hi, hr, Bool.not_true, cond_f]
  by_cases hz : r.val > 0
  · have hm : (q.val == 9223372036854775807) = false := by simp only [beq_eq_false_iff_ne, ne_eq]; omega
    rw [decide_eq_true hz, cond_t, hm, cond_f, cond_t]
    have hs : q.val + p.val = -1 := neg_one_of (D := d.val) (by rw [Int.add_mul]; rw [Int.neg_mul] at f; omega) hz r1 s0 s1
    have w1 : (w64 (q.val + 1)).val = q.val + 1 := by rw [w64_val]; omega
    have w2 : (w64 (0 - p.val)).val = 0 - p.val := by rw [w64_val]; omega
    refine Prod.ext (IK.eq ?_) rfl
    show (w64 (q.val + 1)).val = (w64 (0 - p.val)).val
    rw [w1, w2]
    omega
  · rw [decide_eq_false hz, cond_f, cond_f]
    have hr0 : r.val = 0 := by omega
    have hs : q.val + p.val = 0 := zero_of (D := d.val) (by rw [Int.add_mul]; rw [Int.neg_mul] at f; omega) s0 s1
    have w2 : (w64 (0 - p.val)).val = 0 - p.val := by rw [w64_val]; omega
    refine Prod.ext (IK.eq ?_) rfl
    show q.val = (w64 (0 - p.val)).val
    rw [w2]
    omega

theorem eq_UnitsOf (x : Iv) : F_impl_UnitsOf x = F_spec_UnitsOf x := by
  unfold F_impl_UnitsOf F_spec_UnitsOf F_spec_l05Units
  simp only [bindP_e, eq_IsWhole, spec_whole, eq_MulDivFloor]
  cases h : F_spec_l04Ok x with
  | false => simp only [Bool.not_false, cond_t]
  | true =>
    obtain ⟨h1, h2, h3⟩ := Ok4 h
    have en : (w64 (0 - x.hi.val)).val = -x.hi.val := by rw [w64_val]; omega
    have d0 : (c64 7244019458077122842).val = 7244019458077122842 := by rw [c64_v]
    have d1 : (c64 7244019458077122843).val = 7244019458077122843 := by rw [c64_v]
    have c0 := mdf_ceil (n := x.hi) (d := c64 7244019458077122842) (.inl d0) ⟨by omega, by omega⟩
    have c1 := mdf_ceil (n := x.hi) (d := c64 7244019458077122843) (.inr d1) ⟨by omega, by omega⟩
    have f0 := mdf_floor (n := x.lo) (d := c64 7244019458077122842) (.inl d0) ⟨by omega, by omega⟩
    have f1 := mdf_floor (n := x.lo) (d := c64 7244019458077122843) (.inr d1) ⟨by omega, by omega⟩
    have hneg : decide (-x.hi.val > 0) = decide (x.hi.val < 0) := by
      rw [decide_eq_decide]
      omega
    simp only [Bool.not_true, cond_f, c0, c1, f0, f1, en, hneg]
    cases decide (x.lo.val > 0) <;> cases decide (x.hi.val < 0) <;> simp only [cond_t, cond_f, Bool.not_true]

theorem eq_MiddlePoint (x y : Iv) : F_impl_MiddlePoint x y = F_spec_MiddlePoint x y := by
  unfold F_impl_MiddlePoint F_spec_MiddlePoint
  simp only [bindP_e, eq_UnitsOf, floor_two, eq_WrapLon, eq_ValidPoint, eq_mx]

theorem eq_PointAt (p : Pj) (q : Pn) : F_impl_PointAt p q = F_spec_PointAt p q := by
  unfold F_impl_PointAt F_spec_PointAt
  simp only [bindP_e, eq_Unproject22, eq_MiddlePoint]

theorem pure_FnExactPointAt (p : Pj) (q : Pn) : F_laws_FnExactPointAt p q = true := by
  have rf : ∀ a : Pt, F_laws_eqPoint a a = true := fun a => by
    unfold F_laws_eqPoint
    simp only [bne_self_eq_false, cond_f]
  unfold F_laws_FnExactPointAt F_laws_toProjection F_laws_toPlanar F_laws_toInterval
  simp only [bindP_e, eq_PointAt, rf, bne_self_eq_false, cond_f, Bool.not_true]

end Go.Proofs.YtjbdilphncpceaaGreat.Abs
