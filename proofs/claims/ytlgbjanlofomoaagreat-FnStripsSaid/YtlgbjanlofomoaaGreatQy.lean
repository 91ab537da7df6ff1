/- Plain laws of the functions on numbers: what the program computes is what the reference computes. -/
import Derived.Test.YtlgbjanlofomoaaGreatQv
import Derived.Test.YtlgbjanlofomoaaGreatF3
set_option linter.unusedVariables false
set_option linter.unusedSimpArgs false
namespace Go.Proofs.YtlgbjanlofomoaaGreat.Abs
open Go

theorem vp_of {p : Pj} (h : F_spec_l17Ok p = true) : F_spec_ValidProjection p = true := by
  unfold F_spec_ValidProjection
  rw [bindP_e, h]

theorem kind17 {p : Pj} (h : F_spec_l00In p.kind (c64 1) (c64 4) = true) : p.kind.val = 1 ∨ p.kind.val = 2 ∨ p.kind.val = 3 ∨ p.kind.val = 4 := by
  rw [sp_in] at h
  simp only [Bool.and_eq_true, decide_eq_true_eq, c64_v] at h
  omega

/-- What an inverse hands back: an error and zeros, or a bounded latitude. -/
def Good (r : Iv × Iv × I64) : Prop := ((r.2.2.val != 0) = true ∧ r.1 = ⟨c64 0, c64 0⟩ ∧ r.2.1 = ⟨c64 0, c64 0⟩) ∨ (r.2.2 = c64 0 ∧ F_spec_l04Ok r.1 = true)

theorem good_err {c : I64} (h : (c.val != 0) = true) : Good (⟨c64 0, c64 0⟩, ⟨c64 0, c64 0⟩, c) := .inl ⟨h, rfl, rfl⟩

theorem good_bif {b : Bool} {x y : Iv × Iv × I64} (hx : b = true → Good x) (hy : b = false → Good y) : Good (bif b then x else y) := by
  cases b
  · exact hy rfl
  · exact hx rfl

theorem good_eta {r : Iv × Iv × I64} (h : Good r) : Good (r.1, r.2.1, r.2.2) := h

theorem kind_of {p : Pj} (h : F_spec_l17Ok p = true) : 1 ≤ p.kind.val ∧ p.kind.val ≤ 16 := by
  rw [← eq_l17Ok] at h
  unfold F_impl_ValidProjection at h
  simp only [bindP_e] at h
  cases hw : F_impl_within p.kind (c64 1) (c64 16) with
  | false => rw [hw, Bool.not_false, cond_t] at h; cases h
  | true =>
    rw [sp_within] at hw
    simp only [Bool.and_eq_true, decide_eq_true_eq, c64_v] at hw
    exact hw

/-- The code is not that of what is not found. -/
def N3 (c : I64) : Prop := (c.val == 3) = false
def P3 (r : Iv × Iv × I64) : Prop := N3 r.2.2
def P2 (r : Pn × I64) : Prop := N3 r.2
def P1 (r : Iv × I64) : Prop := N3 r.2

theorem p3_bif {b : Bool} {x y : Iv × Iv × I64} (hx : P3 x) (hy : P3 y) : P3 (bif b then x else y) := by
  cases b
  · exact hy
  · exact hx

theorem p2_bif {b : Bool} {x y : Pn × I64} (hx : P2 x) (hy : P2 y) : P2 (bif b then x else y) := by
  cases b
  · exact hy
  · exact hx

theorem p1_bif {b : Bool} {x y : Iv × I64} (hx : P1 x) (hy : P1 y) : P1 (bif b then x else y) := by
  cases b
  · exact hy
  · exact hx

theorem n3_0 : N3 (c64 0) := by unfold N3; decide

theorem n3_1 : N3 (c64 1) := by unfold N3; decide

theorem n3_8 : N3 (c64 8) := by unfold N3; decide

theorem n3_9 : N3 (c64 9) := by unfold N3; decide

/-- A projected point is valid. -/
def V (q : Pt) (r : Pn × I64) : Prop := (r.2.val != 0) = false → F_spec_l11Ok q = true

theorem v_bad {q : Pt} {x : Pn} {c : I64} (h : (c.val != 0) = true) : V q (x, c) := fun h' => by rw [h] at h'; cases h'

theorem v_bif {q : Pt} {b : Bool} {x y : Pn × I64} (hx : V q x) (hy : V q y) : V q (bif b then x else y) := by
  cases b
  · exact hy
  · exact hx

theorem v_ok {q : Pt} {z : Pn} {c : I64} (h : (c.val != 0) = true) (r : Pn × I64) : V q (bif (!(F_spec_l11Ok q)) then (z, c) else r) := by
  cases hq : F_spec_l11Ok q
  · exact v_bad h
  · exact fun _ => hq

theorem floor_two (x : I64) : ishr x 1 = F_spec_l06Floor x (c64 2) := by
  refine IK.eq ?_
  have hx := x.lo
  have hx' := x.hi
  have e2 : (imod x (c64 2).val).val = Int.tmod x.val 2 := by rw [imod_val, c64_v]
  unfold F_spec_l06Floor
  rw [shr1_val, e2, c64_v]
  by_cases h : 0 ≤ x.val
  · rw [Int.tmod_eq_emod_of_nonneg h, Int.tdiv_eq_ediv_of_nonneg h, decide_eq_false (by omega), cond_f, w64_val]
    omega
  · have t1 : Int.tdiv x.val 2 = -((-x.val) / 2) := by rw [← Int.tdiv_eq_ediv_of_nonneg (by omega), Int.neg_tdiv, Int.neg_neg]
    have t2 : Int.tmod x.val 2 = -((-x.val) % 2) := by rw [← Int.tmod_eq_emod_of_nonneg (by omega), Int.neg_tmod, Int.neg_neg]
    rw [t1, t2]
    by_cases h2 : (-x.val) % 2 = 0
    · rw [decide_eq_false (by omega), cond_f, w64_val]
      omega
    · have e1 : (w64 (-((-x.val) / 2))).val = -((-x.val) / 2) := by rw [w64_val]; omega
      rw [decide_eq_true (by omega), cond_t, e1, w64_val]
      omega

theorem mdf {n d : I64} (hd : d.val = 7244019458077122842 ∨ d.val = 7244019458077122843) (hn : -1152921504606846976 < n.val ∧ n.val < 1152921504606846976) :
    ∃ q r : I64, F_spec_l02Int (F_spec_l02Div (F_spec_l02Mul n (c64 966367641600000000)) d).1 = (q, true) ∧ (F_spec_l02Div (F_spec_l02Mul n (c64 966367641600000000)) d).2 = r ∧ q.val * d.val + r.val = n.val * 966367641600000000 ∧ 0 ≤ r.val ∧ r.val < d.val ∧
      -160000000000000000 ≤ q.val ∧ q.val ≤ 160000000000000000 := by
  have m := sp_Mul n (c64 966367641600000000)
  rw [c64_v] at m
  generalize F_spec_l02Mul n (c64 966367641600000000) = w at *
  obtain ⟨e, r0, r1⟩ := sp_Div w d (by omega) (by omega) (by omega)
  generalize F_spec_l02Div w d = D at *
  have qz : -160000000000000000 ≤ D.1.z ∧ D.1.z ≤ 160000000000000000 := by
    rcases hd with hd | hd <;> rw [hd] at e r1 <;> omega
  obtain ⟨q, hq, hi⟩ := Int_in D.1 (by omega) (by omega)
  exact ⟨q, D.2, hi, rfl, by rw [hq, e, m], r0, r1, by omega, by omega⟩

theorem mdf_floor {n d : I64} (hd : d.val = 7244019458077122842 ∨ d.val = 7244019458077122843) (hn : -1152921504606846976 < n.val ∧ n.val < 1152921504606846976) : (F_spec_MulDivFloor n (c64 966367641600000000) d).2 = true := by
  obtain ⟨q, r, hi, _⟩ := mdf hd hn
  unfold F_spec_MulDivFloor
  rw [decide_eq_false (by omega), cond_f]
  simp only [bindP_e, hi]

theorem zero_of {z s D : Int} (h : z * D + s = 0) (s0 : 0 ≤ s) (s1 : s < D) : z = 0 := by
  have e : z * D + s = 0 * D + 0 := by rw [Int.zero_mul]; omega
  exact (div_unique e s0 s1 (Int.le_refl 0) (by omega)).1

theorem neg_one_of {z r s D : Int} (h : z * D + (r + s) = 0) (r0 : 0 < r) (r1 : r < D) (s0 : 0 ≤ s) (s1 : s < D) : z = -1 := by
  by_cases q : r + s < D
  · have e : z * D + (r + s) = 0 * D + 0 := by rw [Int.zero_mul]; omega
    have := (div_unique e (by omega) q (Int.le_refl 0) (by omega)).2
    omega
  · have e : (z + 1) * D + (r + s - D) = 0 * D + 0 := by rw [Int.zero_mul, Int.add_mul, Int.one_mul]; omega
    have := (div_unique e (by omega) (by omega) (Int.le_refl 0) (by omega)).1
    omega

theorem mdf_ceil {n d : I64} (hd : d.val = 7244019458077122842 ∨ d.val = 7244019458077122843) (hn : -1152921504606846976 < n.val ∧ n.val < 1152921504606846976) :
    F_impl_mulDivCeil n (c64 966367641600000000) d = (w64 (0 - (F_spec_MulDivFloor (w64 (0 - n.val)) (c64 966367641600000000) d).1.val), true) := by
  have en : (w64 (0 - n.val)).val = -n.val := by rw [w64_val]; omega
  obtain ⟨q, r, hi, hr, e, r0, r1, q0, q1⟩ := mdf hd hn
  obtain ⟨p, s, ki, _, f, s0, s1, p0, p1⟩ := mdf (n := w64 (0 - n.val)) hd (by rw [en]; omega)
  rw [en] at f
  have hf : (F_spec_MulDivFloor (w64 (0 - n.val)) (c64 966367641600000000) d).1 = p := by
    unfold F_spec_MulDivFloor
    rw [decide_eq_false (by omega), cond_f]
    simp only [bindP_e, ki]
  rw [hf]
  unfold F_impl_mulDivCeil
  simp only [bindP_e, eq_WideMul, eq_WideDiv _ _ (show 0 < d.val by omega), eq_WideInt, hi, hr, Bool.not_true, cond_f]
  by_cases hz : r.val > 0
  · have hm : (q.val == 9223372036854775807) = false := by simp only [beq_eq_false_iff_ne, ne_eq]; omega
    rw [decide_eq_true hz, cond_t, hm, cond_f, cond_t]
    have hs : q.val + p.val = -1 := neg_one_of (D := d.val) (by rw [Int.add_mul]; rw [Int.neg_mul] at f; omega) hz r1 s0 s1
    have w1 : (w64 (q.val + 1)).val = q.val + 1 := by rw [w64_val]; omega
    have w2 : (w64 (0 - p.val)).val = 0 - p.val := by rw [w64_val]; omega
    refine Prod.ext (IK.eq ?_) rfl
    show (w64 (q.val + 1)).val = (w64 (0 - p.val)).val
    rw [w1, w2]
    omega
  · rw [decide_eq_false hz, cond_f, cond_f]
    have hr0 : r.val = 0 := by omega
    have hs : q.val + p.val = 0 := zero_of (D := d.val) (by rw [Int.add_mul]; rw [Int.neg_mul] at f; omega) s0 s1
    have w2 : (w64 (0 - p.val)).val = 0 - p.val := by rw [w64_val]; omega
    refine Prod.ext (IK.eq ?_) rfl
    show q.val = (w64 (0 - p.val)).val
    rw [w2]
    omega

end Go.Proofs.YtlgbjanlofomoaaGreat.Abs
