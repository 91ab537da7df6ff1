/- Plain laws of the functions on numbers: what the program computes is what the reference computes. -/
import Derived.Test.YtjckiicaegpghaaGreatQw
import Derived.Test.YtjckiicaegpghaaGreatF6
set_option linter.unusedVariables false
set_option linter.unusedSimpArgs false
namespace Go.Proofs.YtjckiicaegpghaaGreat.Abs
open Go

theorem vp_of {p : Pj} (h : F_spec_l17Ok p = true) : F_spec_ValidProjection p = true := by
  unfold F_spec_ValidProjection
  rw [bindP_e, h]

theorem kind17 {p : Pj} (h : F_spec_l00In p.kind (c64 1) (c64 4) = true) : p.kind.val = 1 ∨ p.kind.val = 2 ∨ p.kind.val = 3 ∨ p.kind.val = 4 := by
  rw [sp_in] at h
  simp only [Bool.and_eq_true, decide_eq_true_eq, c64_v] at h
  omega

theorem eq_CylinderForward (p : Pj) (q : Pt) : F_impl_CylinderForward p q = F_spec_CylinderForward p q := by
  unfold F_impl_CylinderForward F_spec_CylinderForward F_spec_l17Cylinder F_impl_isCylindrical
  simp only [bindP_e, eq_ValidPoint, eq_l17Ok, eq_in]
  cases h1 : F_spec_l17Ok p with
  | false => simp only [Bool.not_false, cond_t, cond_f]
  | true =>
    cases h3 : F_spec_l11Ok q with
    | false => cases F_spec_l00In p.kind (c64 1) (c64 4) <;> simp only [Bool.not_false, Bool.not_true, cond_t, cond_f]
    | true =>
      cases hk : F_spec_l00In p.kind (c64 1) (c64 4) with
      | false => simp only [Bool.not_false, Bool.not_true, cond_t, cond_f]
      | true =>
        have hp := point_val h3
        have hl : F_spec_l17Lon p q = F_spec_RadiansOf (F_spec_l11Wrap (w64 (q.lon.val - p.lon0.val))) := by
          unfold F_spec_l17Lon
          simp only [bindP_e]
        simp only [Bool.not_true, cond_t, cond_f, pole_eq q (by omega), eq_LatOf h3, spec_LatOf h3, eq_LonFrom (vp_of h1) h3, hl, eq_CosI, eq_SinI, eq_TanI, eq_AsinhI, eq_RadiansOf, eq_Integer, eq_DivI, eq_Quotient, eq_MulI, eq_planar17]
        rcases kind17 hk with h | h | h | h <;> simp only [h, Int.reduceBEq, cond_t, cond_f]

theorem eq_Project22 (p : Pj) (q : Pt) : F_impl_Project p q = F_spec_l22Project p q := by
  unfold F_impl_Project F_spec_l22Project
  simp only [bindP_e, eq_FamilyOf, eq_CylinderForward, eq_AzimuthalForward, eq_ConicForward, eq_PseudoForward, eq_TransverseForward]

theorem eq_Project (p : Pj) (q : Pt) : F_impl_Project p q = F_spec_Project p q := by
  unfold F_spec_Project
  rw [bindP_e, eq_Project22]

theorem pure_FnExactProject (p : Pj) (q : Pt) : F_laws_FnExactProject p q = true := by
  unfold F_laws_FnExactProject F_laws_toProjection F_laws_toPoint
  simp only [bindP_e, eq_Project, rf_Planar, Bool.not_true, cond_f, bne_self_eq_false]

theorem eq_AngleDistortion (p : Pj) (q : Pt) : F_impl_AngleDistortion p q = F_spec_AngleDistortion p q := by
  unfold F_impl_AngleDistortion F_spec_AngleDistortion
  simp only [bindP_e, eq_Scales22, eq_SubI, eq_AbsI2, eq_AddI, eq_DivI, eq_AsinI, eq_times, eq_MulI, known19]

theorem pure_FnExactAngleDistortion (p : Pj) (q : Pt) : F_laws_FnExactAngleDistortion p q = true := by
  unfold F_laws_FnExactAngleDistortion F_laws_toProjection F_laws_toPoint
  simp only [bindP_e, eq_AngleDistortion, rf_Interval, Bool.not_true, cond_f, bne_self_eq_false]

theorem eq_Distance (p : Pj) (a b : Pt) : F_impl_MapDistance p a b = F_spec_l22Distance p a b := by
  unfold F_impl_MapDistance F_spec_l22Distance
  simp only [bindP_e, eq_Project22, eq_SubI, eq_SqrI, eq_AddI, eq_SqrtI, known19]

theorem eq_MapDistance (p : Pj) (a b : Pt) : F_impl_MapDistance p a b = F_spec_MapDistance p a b := by
  unfold F_spec_MapDistance
  rw [bindP_e, eq_Distance]

theorem pure_FnExactMapDistance (p : Pj) (a b : Pt) : F_laws_FnExactMapDistance p a b = true := by
  unfold F_laws_FnExactMapDistance F_laws_toProjection F_laws_toPoint
  simp only [bindP_e, eq_MapDistance, rf_Interval, Bool.not_true, cond_f, bne_self_eq_false]

/-- What an inverse hands back: an error and zeros, or a bounded latitude. -/
def Good (r : Iv × Iv × I64) : Prop := ((r.2.2.val != 0) = true ∧ r.1 = ⟨c64 0, c64 0⟩ ∧ r.2.1 = ⟨c64 0, c64 0⟩) ∨ (r.2.2 = c64 0 ∧ F_spec_l04Ok r.1 = true)

theorem good_err {c : I64} (h : (c.val != 0) = true) : Good (⟨c64 0, c64 0⟩, ⟨c64 0, c64 0⟩, c) := .inl ⟨h, rfl, rfl⟩

theorem good_bif {b : Bool} {x y : Iv × Iv × I64} (hx : b = true → Good x) (hy : b = false → Good y) : Good (bif b then x else y) := by
  cases b
  · exact hy rfl
  · exact hx rfl

theorem good_eta {r : Iv × Iv × I64} (h : Good r) : Good (r.1, r.2.1, r.2.2) := h

theorem kind_of {p : Pj} (h : F_spec_l17Ok p = true) : 1 ≤ p.kind.val ∧ p.kind.val ≤ 16 := by
  rw [← eq_l17Ok] at h
  unfold F_impl_ValidProjection at h
  simp only [bindP_e] at h
  cases hw : F_impl_within p.kind (c64 1) (c64 16) with
  | false => rw [hw, Bool.not_false, cond_t] at h; cases h
  | true =>
    rw [sp_within] at hw
    simp only [Bool.and_eq_true, decide_eq_true_eq, c64_v] at hw
    exact hw

theorem fam_of {p : Pj} (h : F_spec_l17Ok p = true) : F_spec_l22Family p.kind = c64 1 ∨ F_spec_l22Family p.kind = c64 2 ∨ F_spec_l22Family p.kind = c64 3 ∨ F_spec_l22Family p.kind = c64 4 ∨ F_spec_l22Family p.kind = c64 5 := by
  obtain ⟨h1, h2⟩ := kind_of h
  unfold F_spec_l22Family
  simp only [bindP_e, sp_in, c64_v]
  generalize p.kind.val = k at *
  obtain rfl | rfl | rfl | rfl | rfl | rfl | rfl | rfl | rfl | rfl | rfl | rfl | rfl | rfl | rfl | rfl : k = 1 ∨ k = 2 ∨ k = 3 ∨ k = 4 ∨ k = 5 ∨ k = 6 ∨ k = 7 ∨ k = 8 ∨ k = 9 ∨ k = 10 ∨ k = 11 ∨ k = 12 ∨ k = 13 ∨ k = 14 ∨ k = 15 ∨ k = 16 := by omega
  all_goals simp

/-- The code is not that of what is not found. -/
def N3 (c : I64) : Prop := (c.val == 3) = false
def P3 (r : Iv × Iv × I64) : Prop := N3 r.2.2
def P2 (r : Pn × I64) : Prop := N3 r.2
def P1 (r : Iv × I64) : Prop := N3 r.2

theorem p3_bif {b : Bool} {x y : Iv × Iv × I64} (hx : P3 x) (hy : P3 y) : P3 (bif b then x else y) := by
  cases b
  · exact hy
  · exact hx

theorem p2_bif {b : Bool} {x y : Pn × I64} (hx : P2 x) (hy : P2 y) : P2 (bif b then x else y) := by
  cases b
  · exact hy
  · exact hx

theorem p1_bif {b : Bool} {x y : Iv × I64} (hx : P1 x) (hy : P1 y) : P1 (bif b then x else y) := by
  cases b
  · exact hy
  · exact hx

theorem n3_0 : N3 (c64 0) := by unfold N3; decide

theorem n3_1 : N3 (c64 1) := by unfold N3; decide

theorem n3_8 : N3 (c64 8) := by unfold N3; decide

theorem n3_9 : N3 (c64 9) := by unfold N3; decide

theorem p3_Scales (x y : Iv) : P3 (F_spec_l17Scales x y) := by
  unfold F_spec_l17Scales
  simp only [bindP_e]
  exact p3_bif n3_9 (p3_bif n3_9 n3_0)

theorem p3_ScalesE (x y : Iv) : P3 ((F_spec_l17Scales x y).1, (F_spec_l17Scales x y).2.1, (F_spec_l17Scales x y).2.2) := p3_Scales x y

theorem p3_Cylinder (p : Pj) (q : Pt) : P3 (F_spec_CylinderScales p q) := by
  unfold F_spec_CylinderScales
  simp only [bindP_e]
  exact p3_bif n3_1 (p3_bif n3_1 (p3_bif n3_8 (p3_bif (p3_ScalesE _ _) (p3_bif (p3_ScalesE _ _) (p3_bif (p3_ScalesE _ _) (p3_ScalesE _ _))))))

theorem p3_Conic (p : Pj) (q : Pt) : P3 (F_spec_ConicScales p q) := by
  unfold F_spec_ConicScales
  simp only [bindP_e]
  exact p3_bif n3_1 (p3_bif n3_1 (p3_bif n3_8 (p3_bif (p3_ScalesE _ _) (p3_bif (p3_ScalesE _ _) (p3_ScalesE _ _)))))

theorem p1_known (x : Iv) : P1 (F_spec_l15Known x) := by
  unfold F_spec_l15Known
  simp only [bindP_e]
  exact p1_bif n3_9 n3_0

theorem p1_Angle (a b : Pt) : P1 (F_spec_AngleBetween a b) := by
  unfold F_spec_AngleBetween
  simp only [bindP_e]
  exact p1_bif n3_1 (p1_bif n3_1 (p1_known _))

theorem p1_Transverse (p : Pj) (q : Pt) : P1 (F_spec_TransverseScale p q) := by
  unfold F_spec_TransverseScale
  simp only [bindP_e]
  exact p1_bif n3_1 (p1_bif n3_1 (p1_bif n3_8 (p1_known _)))

theorem p1_Factor (k : I64) (v : Vc) : P1 (F_spec_l18Factor k v) := by
  unfold F_spec_l18Factor
  simp only [bindP_e]
  exact p1_bif (p1_bif n3_8 n3_0) (p1_bif n3_0 (p1_bif (p1_bif n3_8 (p1_bif n3_0 n3_0)) (p1_bif (p1_bif n3_0 n3_0) n3_0)))

theorem p2_Azimuthal (p : Pj) (q : Pt) : P2 (F_spec_AzimuthalForward p q) := by
  unfold F_spec_AzimuthalForward
  simp only [bindP_e]
  exact p2_bif n3_1 (p2_bif n3_1 (p2_bif n3_8 (p2_bif (p1_Factor _ _) (p2_bif n3_9 (p2_bif n3_9 n3_0)))))

theorem p3_Azimuthal (p : Pj) (q : Pt) : P3 (F_spec_l22Azimuthal p q) := by
  unfold F_spec_l22Azimuthal
  simp only [bindP_e]
  exact p3_bif (p2_Azimuthal p q) (p3_bif (p1_Angle _ _) (p3_bif (p3_ScalesE _ _) (p3_bif (p3_ScalesE _ _) (p3_bif (p3_ScalesE _ _) (p3_bif (p3_bif (p3_ScalesE _ _) (p3_ScalesE _ _)) (p3_ScalesE _ _))))))

theorem eq_AreaScale (p : Pj) (q : Pt) : F_impl_AreaScale p q = F_spec_AreaScale p q := by
  unfold F_impl_AreaScale F_spec_AreaScale
  simp only [bindP_e, eq_Scales22, eq_Integer, eq_MulI, known19]
  have h13 : ((c64 1).val == 3) = false := by decide
  have h33 : ((c64 3).val == 3) = true := by decide
  cases h1 : F_spec_l17Ok p with
  | false =>
    have e : (F_spec_l22Scales p q).2.2 = c64 1 := by
      unfold F_spec_l22Scales
      simp only [bindP_e, h1, Bool.not_false, cond_t]
    simp only [cond_f, e, h13, code_one, cond_t]
  | true =>
    cases h2 : F_spec_l11Ok q with
    | false =>
      have e : (F_spec_l22Scales p q).2.2 = c64 1 := by
        unfold F_spec_l22Scales
        simp only [bindP_e, h1, h2, Bool.not_false, Bool.not_true, cond_t, cond_f]
      simp only [cond_f, e, h13, code_one, cond_t]
    | true =>
      rcases fam_of h1 with hf | hf | hf | hf | hf
      all_goals simp only [hf, cond_t, c64_v, Int.reduceBEq, cond_f]
      · have e : P3 (F_spec_l22Scales p q) := by
          unfold F_spec_l22Scales
          simp only [bindP_e, h1, h2, hf, c64_v, Bool.not_true, Int.reduceBEq, cond_t, cond_f]
          exact p3_Cylinder p q
        have e' : ((F_spec_l22Scales p q).2.2.val == 3) = false := e
        simp only [e', cond_f]
      · have e : P3 (F_spec_l22Scales p q) := by
          unfold F_spec_l22Scales
          simp only [bindP_e, h1, h2, hf, c64_v, Bool.not_true, Int.reduceBEq, cond_t, cond_f]
          exact p3_Azimuthal p q
        have e' : ((F_spec_l22Scales p q).2.2.val == 3) = false := e
        simp only [e', cond_f]
      · have e : P3 (F_spec_l22Scales p q) := by
          unfold F_spec_l22Scales
          simp only [bindP_e, h1, h2, hf, c64_v, Bool.not_true, Int.reduceBEq, cond_t, cond_f]
          exact p3_Conic p q
        have e' : ((F_spec_l22Scales p q).2.2.val == 3) = false := e
        simp only [e', cond_f]
      · have e : (F_spec_l22Scales p q).2.2 = c64 3 := by
          unfold F_spec_l22Scales
          simp only [bindP_e, h1, h2, hf, c64_v, Bool.not_true, Int.reduceBEq, cond_t, cond_f]
        simp only [e, h33, cond_t]
      · have e : P3 (F_spec_l22Scales p q) := by
          unfold F_spec_l22Scales
          simp only [bindP_e, h1, h2, hf, c64_v, Bool.not_true, Int.reduceBEq, cond_t, cond_f]
          exact p3_bif (p1_Transverse p q) (p3_ScalesE _ _)
        have e' : ((F_spec_l22Scales p q).2.2.val == 3) = false := e
        simp only [e', cond_f]

theorem pure_FnExactAreaScale (p : Pj) (q : Pt) : F_laws_FnExactAreaScale p q = true := by
  unfold F_laws_FnExactAreaScale F_laws_toProjection F_laws_toPoint
  simp only [bindP_e, eq_AreaScale, rf_Interval, Bool.not_true, cond_f, bne_self_eq_false]

/-- A projected point is valid. -/
def V (q : Pt) (r : Pn × I64) : Prop := (r.2.val != 0) = false → F_spec_l11Ok q = true

theorem v_bad {q : Pt} {x : Pn} {c : I64} (h : (c.val != 0) = true) : V q (x, c) := fun h' => by rw [h] at h'; cases h'

theorem v_bif {q : Pt} {b : Bool} {x y : Pn × I64} (hx : V q x) (hy : V q y) : V q (bif b then x else y) := by
  cases b
  · exact hy
  · exact hx

theorem v_ok {q : Pt} {z : Pn} {c : I64} (h : (c.val != 0) = true) (r : Pn × I64) : V q (bif (!(F_spec_l11Ok q)) then (z, c) else r) := by
  cases hq : F_spec_l11Ok q
  · exact v_bad h
  · exact fun _ => hq

theorem v_Project (p : Pj) (q : Pt) : V q (F_spec_l22Project p q) := by
  unfold F_spec_l22Project
  simp only [bindP_e]
  refine v_bif ?_ (v_bif ?_ (v_bif ?_ (v_bif ?_ (v_bif ?_ (v_bad code_one)))))
  · unfold F_spec_CylinderForward
    simp only [bindP_e]
    exact v_bif (v_bad code_one) (v_ok code_one _)
  · unfold F_spec_AzimuthalForward
    simp only [bindP_e]
    exact v_bif (v_bad code_one) (v_ok code_one _)
  · unfold F_spec_ConicForward
    simp only [bindP_e]
    exact v_bif (v_bad code_one) (v_ok code_one _)
  · unfold F_spec_PseudoForward
    simp only [bindP_e]
    exact v_bif (v_bad code_one) (v_ok code_one _)
  · unfold F_spec_TransverseForward
    simp only [bindP_e]
    exact v_bif (v_bad code_one) (v_ok code_one _)

theorem v_Distance {p : Pj} {a b : Pt} (h : ((F_spec_l22Distance p a b).2.val != 0) = false) : F_spec_l11Ok a = true ∧ F_spec_l11Ok b = true := by
  unfold F_spec_l22Distance at h
  simp only [bindP_e] at h
  cases h1 : ((F_spec_l22Project p a).2.val != 0) with
  | true => rw [h1, cond_t] at h; rw [h1] at h; cases h
  | false =>
    cases h2 : ((F_spec_l22Project p b).2.val != 0) with
    | true => rw [h1, h2, cond_f, cond_t] at h; rw [h2] at h; cases h
    | false => exact ⟨v_Project p a h1, v_Project p b h2⟩

theorem eq_StretchOf (p : Pj) (a b : Pt) : F_impl_StretchOf p a b = F_spec_StretchOf p a b := by
  unfold F_impl_StretchOf F_spec_StretchOf
  simp only [bindP_e, eq_Distance, eq_AngleBetween, eq_DivI, known19]
  cases hd : ((F_spec_l22Distance p a b).2.val != 0) with
  | true => simp only [cond_t]
  | false =>
    obtain ⟨ha, hb⟩ := v_Distance hd
    simp only [cond_f]
    have e : F_spec_AngleBetween a b = F_spec_l15Known (F_spec_l15Angle (F_spec_l15Vec a) (F_spec_l15Vec b)) := by
      unfold F_spec_AngleBetween
      simp only [bindP_e, ha, hb, Bool.not_true, cond_f]
    rw [e]
    generalize F_spec_l15Angle (F_spec_l15Vec a) (F_spec_l15Vec b) = x
    generalize (F_spec_l22Distance p a b).1 = d
    unfold F_spec_l15Known
    simp only [bindP_e, spec_whole]
    cases hx : F_spec_l04Ok x with
    | true => simp only [Bool.not_true, cond_f, code_zero]
    | false =>
      simp only [Bool.not_false, cond_t, code_nine]
      have hz : F_spec_l04Ok (F_spec_DivI d ⟨c64 0, c64 0⟩) = false := by
        have o1 : F_spec_l04Ok ⟨c64 0, c64 0⟩ = true := by decide
        have o2 : F_spec_l04Has ⟨c64 0, c64 0⟩ (c64 0) = true := by decide
        have o3 : F_spec_l04Ok F_spec_l04Whole = false := by decide
        unfold F_spec_DivI
        simp only [bindP_e, o1, o2, Bool.not_true, cond_f, cond_t]
        cases F_spec_l04Ok d <;> simp only [Bool.not_true, Bool.not_false, cond_t, cond_f, o3]
      unfold F_spec_l19Known
      simp only [bindP_e, hz, Bool.not_false, cond_t]

theorem pure_FnExactStretchOf (p : Pj) (a b : Pt) : F_laws_FnExactStretchOf p a b = true := by
  unfold F_laws_FnExactStretchOf F_laws_toProjection F_laws_toPoint
  simp only [bindP_e, eq_StretchOf, rf_Interval, Bool.not_true, cond_f, bne_self_eq_false]

theorem floor_two (x : I64) : ishr x 1 = F_spec_l06Floor x (c64 2) := by
  refine IK.eq ?_
  have hx := x.lo
  have hx' := x.hi
  have e2 : (imod x (c64 2).val).val = Int.tmod x.val 2 := by rw [imod_val, c64_v]
  unfold F_spec_l06Floor
  rw [shr1_val, e2, c64_v]
  by_cases h : 0 ≤ x.val
  · rw [Int.tmod_eq_emod_of_nonneg h, Int.tdiv_eq_ediv_of_nonneg h, decide_eq_false (by omega), cond_f, w64_val]
    omega
  · have t1 : Int.tdiv x.val 2 = -((-x.val) / 2) := by rw [← Int.tdiv_eq_ediv_of_nonneg (by omega), Int.neg_tdiv, Int.neg_neg]
    have t2 : Int.tmod x.val 2 = -((-x.val) % 2) := by rw [← Int.tmod_eq_emod_of_nonneg (by omega), Int.neg_tmod, Int.neg_neg]
    rw [t1, t2]
    by_cases h2 : (-x.val) % 2 = 0
    · rw [decide_eq_false (by omega), cond_f, w64_val]
      omega
    · have e1 : (w64 (-((-x.val) / 2))).val = -((-x.val) / 2) := by rw [w64_val]; omega
      rw [decide_eq_true (by omega), cond_t, e1, w64_val]
      omega

theorem mdf {n d : I64} (hd : d.val = 7244019458077122842 ∨ d.val = 7244019458077122843) (hn : -1152921504606846976 < n.val ∧ n.val < 1152921504606846976) :
    ∃ q r : I64, F_spec_l02Int (F_spec_l02Div (F_spec_l02Mul n (c64 966367641600000000)) d).1 = (q, true) ∧ (F_spec_l02Div (F_spec_l02Mul n (c64 966367641600000000)) d).2 = r ∧ q.val * d.val + r.val = n.val * 966367641600000000 ∧ 0 ≤ r.val ∧ r.val < d.val ∧
      -160000000000000000 ≤ q.val ∧ q.val ≤ 160000000000000000 := by
  have m := sp_Mul n (c64 966367641600000000)
  rw [c64_v] at m
  generalize F_spec_l02Mul n (c64 966367641600000000) = w at *
  obtain ⟨e, r0, r1⟩ := sp_Div w d (by omega) (by omega) (by omega)
  generalize F_spec_l02Div w d = D at *
  have qz : -160000000000000000 ≤ D.1.z ∧ D.1.z ≤ 160000000000000000 := by
    rcases hd with hd | hd <;> rw [hd] at e r1 <;> omega
  obtain ⟨q, hq, hi⟩ := Int_in D.1 (by omega) (by omega)
  exact ⟨q, D.2, hi, rfl, by rw [hq, e, m], r0, r1, by omega, by omega⟩

theorem mdf_floor {n d : I64} (hd : d.val = 7244019458077122842 ∨ d.val = 7244019458077122843) (hn : -1152921504606846976 < n.val ∧ n.val < 1152921504606846976) : (F_spec_MulDivFloor n (c64 966367641600000000) d).2 = true := by
  obtain ⟨q, r, hi, _⟩ := mdf hd hn
  unfold F_spec_MulDivFloor
  rw [decide_eq_false (by omega), cond_f]
  simp only [bindP_e, hi]

theorem zero_of {z s D : Int} (h : z * D + s = 0) (s0 : 0 ≤ s) (s1 : s < D) : z = 0 := by
  have e : z * D + s = 0 * D + 0 := by rw [Int.zero_mul]; omega
  exact (div_unique e s0 s1 (Int.le_refl 0) (by omega)).1

theorem neg_one_of {z r s D : Int} (h : z * D + (r + s) = 0) (r0 : 0 < r) (r1 : r < D) (s0 : 0 ≤ s) (s1 : s < D) : z = -1 := by
  by_cases q : r + s < D
  · have e : z * D + (r + s) = 0 * D + 0 := by rw [Int.zero_mul]; omega
    have := (div_unique e (by omega) q (Int.le_refl 0) (by omega)).2
    omega
  · have e : (z + 1) * D + (r + s - D) = 0 * D + 0 := by rw [Int.zero_mul, Int.add_mul, Int.one_mul]; omega
    have := (div_unique e (by omega) (by omega) (Int.le_refl 0) (by omega)).1
    omega

theorem mdf_ceil {n d : I64} (hd : d.val = 7244019458077122842 ∨ d.val = 7244019458077122843) (hn : -1152921504606846976 < n.val ∧ n.val < 1152921504606846976) :
    F_impl_mulDivCeil n (c64 966367641600000000) d = (w64 (0 - (F_spec_MulDivFloor (w64 (0 - n.val)) (c64 966367641600000000) d).1.val), true) := by
  have en : (w64 (0 - n.val)).val = -n.val := by rw [w64_val]; omega
  obtain ⟨q, r, hi, hr, e, r0, r1, q0, q1⟩ := mdf hd hn
  obtain ⟨p, s, ki, _, f, s0, s1, p0, p1⟩ := mdf (n := w64 (0 - n.val)) hd (by rw [en]; omega)
  rw [en] at f
  have hf : (F_spec_MulDivFloor (w64 (0 - n.val)) (c64 966367641600000000) d).1 = p := by
    unfold F_spec_MulDivFloor
    rw [decide_eq_false (by omega), cond_f]
    simp only [bindP_e, ki]
  rw [hf]
  unfold F_impl_mulDivCeil
  simp only [bindP_e, eq_WideMul, eq_WideDiv _ _ (show 0 < d.val by omega), eq_WideInt, hi, hr, Bool.not_true, cond_f]
  by_cases hz : r.val > 0
  · have hm : (q.val == 9223372036854775807) = false := by simp only [beq_eq_false_iff_ne, ne_eq]; omega
    rw [decide_eq_true hz, cond_t, hm, cond_f, cond_t]
    have hs : q.val + p.val = -1 := neg_one_of (D := d.val) (by rw [Int.add_mul]; rw [Int.neg_mul] at f; omega) hz r1 s0 s1
    have w1 : (w64 (q.val + 1)).val = q.val + 1 := by rw [w64_val]; omega
    have w2 : (w64 (0 - p.val)).val = 0 - p.val := by rw [w64_val]; omega
    refine Prod.ext (IK.eq ?_) rfl
    show (w64 (q.val + 1)).val = (w64 (0 - p.val)).val
    rw [w1, w2]
    omega
  · rw [decide_eq_false hz, cond_f, cond_f]
    have hr0 : r.val = 0 := by omega
    have hs : q.val + p.val = 0 := zero_of (D := d.val) (by rw [Int.add_mul]; rw [Int.neg_mul] at f; omega) s0 s1
    have w2 : (w64 (0 - p.val)).val = 0 - p.val := by rw [w64_val]; omega
    refine Prod.ext (IK.eq ?_) rfl
    show q.val = (w64 (0 - p.val)).val
    rw [w2]
    omega

end Go.Proofs.YtjckiicaegpghaaGreat.Abs
