/- Plain laws of the functions on numbers: what the program computes is what the reference computes. -/
import Derived.Test.YtgofhiehdpggkaaGreatQf
import Derived.Test.YtgofhiehdpggkaaGreatF5
set_option linter.unusedVariables false
set_option linter.unusedSimpArgs false
namespace Go.Proofs.YtgofhiehdpggkaaGreat.Abs
open Go

theorem Plus_z (a b : Wd) : ∃ k : Int, (F_spec_l02Plus a b).z = a.z + b.z + k * 340282366920938463463374607431768211456 := by
  have h1 := a.lo.lo
  have h2 := a.lo.hi
  have h3 := b.lo.lo
  have h4 := b.lo.hi
  unfold F_spec_l02Plus
  by_cases h : (wu64 (a.lo.val + b.lo.val)).val < a.lo.val
  · simp only [h, decide_true, cond_true]
    simp only [wu64_val] at h
    simp only [Wd.z, w64_val, wu64_val]
    refine ⟨((((a.hi.val + b.hi.val + 9223372036854775808) % 18446744073709551616 - 9223372036854775808 + 1 + 9223372036854775808) % 18446744073709551616 - 9223372036854775808) - (a.hi.val + b.hi.val + 1)) / 18446744073709551616, ?_⟩
    omega
  · simp only [h, decide_false, cond_false]
    simp only [wu64_val] at h
    simp only [Wd.z, w64_val, wu64_val]
    refine ⟨(((a.hi.val + b.hi.val + 9223372036854775808) % 18446744073709551616 - 9223372036854775808) - (a.hi.val + b.hi.val)) / 18446744073709551616, ?_⟩
    omega

theorem Of_minus : (F_spec_l02Of (c64 (-1))).z = -1 := by decide

theorem adc_z (h l : U64) : ∃ k : Int, Wd.z ⟨w64 (wu64 (h.val + (adc_hi l (cu64 1) (cu64 0)).val)).val, adc_lo l (cu64 1) (cu64 0)⟩ = Wd.z ⟨w64 h.val, l⟩ + 1 + k * 340282366920938463463374607431768211456 := by
  have h1 := l.lo
  have h2 := l.hi
  have h3 := h.lo
  have h4 := h.hi
  simp only [Wd.z, w64_val, wu64_val, adc_lo_val, adc_hi_val, cu64_val]
  refine ⟨((((h.val + (l.val + 1 + 0) / 18446744073709551616) % 18446744073709551616 + 9223372036854775808) % 18446744073709551616 - 9223372036854775808) - ((h.val + 9223372036854775808) % 18446744073709551616 - 9223372036854775808) - (l.val + 1 + 0) / 18446744073709551616) / 18446744073709551616, ?_⟩
  omega

theorem eq_WideDiv (w : Wd) (d : I64) (hd : 0 < d.val) : F_impl_WideDiv w d = ((F_spec_l02Div w d).1, (F_spec_l02Div w d).2, true) := by
  have hdh := d.hi
  have hwd : 0 < (wu64 d.val).val := by rw [wu64_val]; omega
  have hn : ¬ d.val ≤ 0 := by omega
  unfold F_impl_WideDiv F_spec_l02Div
  simp only [hn, decide_false, cond_false, bindP_eq, eq_negative]
  rw [eq_divided _ _ _ hwd, eq_divided _ _ _ hwd]
  by_cases h : w.hi.val ≥ 0
  · simp only [h, decide_true, cond_true]
  · simp only [h, decide_false, cond_false]
    generalize F_spec_l02Divide (wu64 (F_spec_l02Minus w).hi.val) (F_spec_l02Minus w).lo (wu64 d.val) = p
    obtain ⟨qh, q, r⟩ := p
    simp only
    cases hr : (r.val == 0) with
    | true => rfl
    | false =>
      simp only [cond_false]
      have e : F_spec_l02Minus ⟨w64 (wu64 (qh.val + (adc_hi q (cu64 1) (cu64 0)).val)).val, adc_lo q (cu64 1) (cu64 0)⟩ = F_spec_l02Plus (F_spec_l02Minus ⟨w64 qh.val, q⟩) (F_spec_l02Of (c64 (-1))) := by
        refine Wd.z_mod ?_
        obtain ⟨k1, e1⟩ := Minus_z ⟨w64 (wu64 (qh.val + (adc_hi q (cu64 1) (cu64 0)).val)).val, adc_lo q (cu64 1) (cu64 0)⟩
        obtain ⟨k2, e2⟩ := adc_z qh q
        obtain ⟨k3, e3⟩ := Plus_z (F_spec_l02Minus ⟨w64 qh.val, q⟩) (F_spec_l02Of (c64 (-1)))
        obtain ⟨k4, e4⟩ := Minus_z ⟨w64 qh.val, q⟩
        refine ⟨k1 - k2 - k3 - k4, ?_⟩
        rw [e1, e2, e3, e4, Of_minus]
        omega
      rw [e]

theorem WideDiv_neg (w : Wd) (d : I64) (hd : d.val ≤ 0) : F_impl_WideDiv w d = (⟨c64 0, cu64 0⟩, c64 0, false) := by
  unfold F_impl_WideDiv
  simp only [hd, decide_true, cond_true]

theorem eq_MulDivFloor (a b d : I64) : F_impl_MulDivFloor a b d = F_spec_MulDivFloor a b d := by
  unfold F_impl_MulDivFloor F_spec_MulDivFloor
  simp only [bindP_eq, eq_WideMul, eq_WideInt]
  by_cases h : d.val ≤ 0
  · rw [WideDiv_neg _ _ h]
    simp only [h, decide_true, cond_true]
    rfl
  · rw [eq_WideDiv _ _ (by omega)]
    simp only [h, decide_false, cond_false]
    rfl

/-- The reference's quotient of a product. -/
theorem sp_Div (w : Wd) (d : I64) (hd : 0 < d.val) (h1 : -85070591730234615865843651857942052864 ≤ w.z) (h2 : w.z ≤ 85070591730234615865843651857942052864) :
    (F_spec_l02Div w d).1.z * d.val + (F_spec_l02Div w d).2.val = w.z ∧ 0 ≤ (F_spec_l02Div w d).2.val ∧ (F_spec_l02Div w d).2.val < d.val := by
  have hdh := d.hi
  have hwd : (wu64 d.val).val = d.val := by rw [wu64_val]; omega
  have key : ∀ v : Wd, v.hi.val ≥ 0 → ∃ q r : U64, F_spec_l02Divide (wu64 v.hi.val) v.lo (wu64 d.val) = (wu64 (Int.tdiv (wu64 v.hi.val).val (wu64 d.val).val), q, r) ∧ Wd.z ⟨w64 (wu64 (Int.tdiv (wu64 v.hi.val).val (wu64 d.val).val)).val, q⟩ * d.val + r.val = v.z ∧ r.val < d.val ∧ 0 ≤ Wd.z ⟨w64 (wu64 (Int.tdiv (wu64 v.hi.val).val (wu64 d.val).val)).val, q⟩ := fun v hv => by
    have hvh := v.hi.hi
    obtain ⟨q, r, e1, e2, e3⟩ := sp_Divide (wu64 v.hi.val) v.lo (wu64 d.val) (by omega)
    have hvv : (wu64 v.hi.val).val = v.hi.val := by rw [wu64_val]; omega
    rw [hvv, hwd] at e2
    rw [hwd] at e3
    have e4 := Int.emod_add_mul_ediv v.hi.val d.val
    have q0 : 0 ≤ v.hi.val / d.val := Int.ediv_nonneg hv (by omega)
    have q1 : v.hi.val / d.val ≤ v.hi.val := Int.ediv_le_self _ hv
    have eq1 : (wu64 (Int.tdiv (wu64 v.hi.val).val (wu64 d.val).val)).val = v.hi.val / d.val := by
      rw [hvv, hwd, Int.tdiv_eq_ediv_of_nonneg hv, wu64_val]
      omega
    have eq2 : (w64 (wu64 (Int.tdiv (wu64 v.hi.val).val (wu64 d.val).val)).val).val = v.hi.val / d.val := by
      rw [eq1, w64_val]
      omega
    refine ⟨q, r, e1, ?_, e3, ?_⟩
    · simp only [Wd.z, eq2]
      rw [Int.add_mul]
      have : v.hi.val / d.val * 18446744073709551616 * d.val = d.val * (v.hi.val / d.val) * 18446744073709551616 := by rw [Int.mul_assoc, Int.mul_comm 18446744073709551616, ← Int.mul_assoc, Int.mul_comm (v.hi.val / d.val)]
      rw [this]
      omega
    · simp only [Wd.z, eq2]
      have := q.lo
      omega
  unfold F_spec_l02Div
  simp only [bindP_eq]
  by_cases h : w.hi.val ≥ 0
  · simp only [h, decide_true, cond_true]
    obtain ⟨q, r, e1, e2, e3, _⟩ := key w h
    rw [e1]
    have r0 := r.lo
    have er : (w64 r.val).val = r.val := by rw [w64_val]; omega
    rw [er]
    exact ⟨e2, r0, e3⟩
  · simp only [h, decide_false, cond_false]
    obtain ⟨k, hk⟩ := Minus_z w
    have mz : (F_spec_l02Minus w).z = -w.z ∧ (F_spec_l02Minus w).hi.val ≥ 0 := by
      have a1 := (F_spec_l02Minus w).lo.lo
      have a2 := (F_spec_l02Minus w).lo.hi
      have a3 := (F_spec_l02Minus w).hi.lo
      have a4 := (F_spec_l02Minus w).hi.hi
      have b1 := w.lo.lo
      have b2 := w.lo.hi
      simp only [Wd.z] at hk h1 h2 ⊢
      omega
    obtain ⟨q, r, e1, e2, e3, e4⟩ := key _ mz.2
    rw [e1]
    have r0 := r.lo
    have er : (w64 r.val).val = r.val := by rw [w64_val]; omega
    simp only [er]
    generalize hX : (⟨w64 (wu64 (Int.tdiv (wu64 (F_spec_l02Minus w).hi.val).val (wu64 d.val).val)).val, q⟩ : Wd) = X at *
    have Xle : X.z ≤ 85070591730234615865843651857942052864 := by
      have := Int.mul_le_mul_of_nonneg_left (by omega : (1 : Int) ≤ d.val) e4
      omega
    have nz : (F_spec_l02Minus X).z = -X.z := by
      obtain ⟨k2, hk2⟩ := Minus_z X
      have a1 := (F_spec_l02Minus X).lo.lo
      have a2 := (F_spec_l02Minus X).lo.hi
      have a3 := (F_spec_l02Minus X).hi.lo
      have a4 := (F_spec_l02Minus X).hi.hi
      generalize F_spec_l02Minus X = Y at *
      have : Y.z = Y.hi.val * 18446744073709551616 + Y.lo.val := rfl
      omega
    cases hr : (r.val == 0) with
    | true =>
      have hr' : r.val = 0 := by simpa using hr
      simp only [cond_true, c64_val]
      rw [nz, Int.neg_mul]
      omega
    | false =>
      have hr' : r.val ≠ 0 := by simpa using hr
      simp only [cond_false]
      have dz : (w64 (d.val - r.val)).val = d.val - r.val := by rw [w64_val]; omega
      have pz : (F_spec_l02Plus (F_spec_l02Minus X) (F_spec_l02Of (c64 (-1)))).z = -X.z - 1 := by
        obtain ⟨k3, hk3⟩ := Plus_z (F_spec_l02Minus X) (F_spec_l02Of (c64 (-1)))
        rw [nz, Of_minus] at hk3
        generalize F_spec_l02Plus (F_spec_l02Minus X) (F_spec_l02Of (c64 (-1))) = Y at *
        have a1 := Y.lo.lo
        have a2 := Y.lo.hi
        have a3 := Y.hi.lo
        have a4 := Y.hi.hi
        have : Y.z = Y.hi.val * 18446744073709551616 + Y.lo.val := rfl
        omega
      rw [dz, pz, Int.sub_mul, Int.neg_mul, Int.one_mul]
      omega

end Go.Proofs.YtgofhiehdpggkaaGreat.Abs
