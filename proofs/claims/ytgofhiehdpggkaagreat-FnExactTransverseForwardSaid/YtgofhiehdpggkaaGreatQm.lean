/- Plain laws of the functions on numbers: what the program computes is what the reference computes. -/
import Derived.Test.YtgofhiehdpggkaaGreatQl
import Derived.Test.YtgofhiehdpggkaaGreatF5
set_option linter.unusedVariables false
set_option linter.unusedSimpArgs false
namespace Go.Proofs.YtgofhiehdpggkaaGreat.Abs
open Go

theorem times_cmp (x : U64) (w : Wd) (h : 0 ≤ w.hi.val) : (decide ((F_spec_l02Times x x).1.val < (wu64 w.hi.val).val) = true → x.val * x.val ≤ w.z) ∧ (((F_spec_l02Times x x).1.val == (wu64 w.hi.val).val) = true → decide ((F_spec_l02Times x x).2.val ≤ w.lo.val) = true → x.val * x.val ≤ w.z) := by
  have e := sp_Times x x
  have a1 := (F_spec_l02Times x x).2.lo
  have a2 := (F_spec_l02Times x x).2.hi
  have a3 := w.lo.lo
  have a4 := w.lo.hi
  have a5 := w.hi.hi
  have eh : (wu64 w.hi.val).val = w.hi.val := by rw [wu64_val]; omega
  have hz : w.z = w.hi.val * 18446744073709551616 + w.lo.val := rfl
  generalize x.val * x.val = q at *
  rw [eh]
  simp only [decide_eq_true_eq, beq_iff_eq]
  omega

/-- The reference's root: its square is at most the number. -/
theorem root_sq (w : Wd) (h : 0 ≤ w.hi.val) : ∀ (fu : Nat) (x : U64) (i : I64), x.val * x.val ≤ w.z → (F_spec_l02Root_L0 fu w x i).val * (F_spec_l02Root_L0 fu w x i).val ≤ w.z := by
  have z0 : 0 ≤ w.z := by
    have := w.lo.lo
    show 0 ≤ w.hi.val * 18446744073709551616 + w.lo.val
    omega
  intro fu
  induction fu with
  | zero => intro x i _; exact z0
  | succ fu ih =>
    intro x i hx
    unfold F_spec_l02Root_L0
    simp only [bindP_e]
    generalize ior .u64 x.val (ishl .u64 1 (wu64 i.val).val).val = y
    obtain ⟨c1, c2⟩ := times_cmp y w h
    cases decide (i.val ≥ 0) with
    | false => rw [cond_f]; exact hx
    | true =>
      rw [cond_t]
      cases h1 : decide ((F_spec_l02Times y y).1.val < (wu64 w.hi.val).val) with
      | true => rw [cond_t]; exact ih _ _ (c1 h1)
      | false =>
        rw [cond_f]
        cases h2 : ((F_spec_l02Times y y).1.val == (wu64 w.hi.val).val) with
        | false => rw [cond_f]; exact ih _ _ hx
        | true =>
          rw [cond_t]
          cases h3 : decide ((F_spec_l02Times y y).2.val ≤ w.lo.val) with
          | false => rw [cond_f]; exact ih _ _ hx
          | true => rw [cond_t]; exact ih _ _ (c2 h2 h3)

theorem eq_sqrtLoop (w : Wd) : ∀ (fu : Nat) (x : U64) (i : I64), i.val ≤ 63 → (i.val + 1).toNat < fu → F_impl_WideSqrt_L0 fu w x i = (F_spec_l02Root_L0 fu w x i, true) := by
  intro fu
  induction fu with
  | zero => intro x i _ h; exact absurd h (Nat.not_lt_zero _)
  | succ fu ih =>
    intro x i hi hf
    unfold F_impl_WideSqrt_L0 F_spec_l02Root_L0
    simp only [bindP_e, eq_Mul64]
    by_cases h : i.val ≥ 0
    · have ei : (wu64 i.val).val = i.val := by rw [wu64_val]; omega
      have e2 : (w64 (i.val - 1)).val = i.val - 1 := by rw [w64_val]; omega
      have ih' := fun x => ih x (w64 (i.val - 1)) (by omega) (by omega)
      simp only [h, decide_true, cond_t, ei, ih']
      generalize ior .u64 x.val (ishl .u64 1 i.val).val = y
      cases decide ((F_spec_l02Times y y).1.val < (wu64 w.hi.val).val) with
      | true => rw [cond_t, cond_t]
      | false =>
        rw [cond_f, cond_f]
        cases ((F_spec_l02Times y y).1.val == (wu64 w.hi.val).val) with
        | false => rw [cond_f, cond_f]
        | true =>
          rw [cond_t, cond_t]
          cases decide ((F_spec_l02Times y y).2.val ≤ w.lo.val) with
          | false => rw [cond_f, cond_f]
          | true => rw [cond_t, cond_t]
    · simp only [h, decide_false, cond_f]

theorem eq_WideSqrt (w : Wd) (h : 0 ≤ w.hi.val) : F_impl_WideSqrt w = (F_spec_l02Root w, true) := by
  unfold F_impl_WideSqrt F_spec_l02Root
  have : decide (w.hi.val < 0) = false := decide_eq_false (by omega)
  rw [this, cond_f]
  exact eq_sqrtLoop w 65 _ _ (by decide) (by decide)

theorem mul_hi (a b : I64) (ha : 0 ≤ a.val) (hb : 0 ≤ b.val) : 0 ≤ (F_spec_l02Mul a b).hi.val := by
  have h := sp_Mul a b
  have h0 := Int.mul_nonneg ha hb
  have h1 := (F_spec_l02Mul a b).lo.hi
  have hz : (F_spec_l02Mul a b).z = (F_spec_l02Mul a b).hi.val * 18446744073709551616 + (F_spec_l02Mul a b).lo.val := rfl
  omega

theorem eq_SqrtFloor (a b : I64) : F_impl_SqrtFloor a b = F_spec_SqrtFloor a b := by
  unfold F_impl_SqrtFloor F_spec_SqrtFloor
  by_cases h1 : a.val < 0
  · simp only [h1, decide_true, cond_t]
  · by_cases h2 : b.val < 0
    · simp only [h1, h2, decide_true, decide_false, cond_t, cond_f]
    · simp only [h1, h2, decide_false, cond_f, bindP_e, eq_WideMul, eq_WideSqrt _ (mul_hi a b (by omega) (by omega))]

theorem sqrt_le {r : Int} (h : r * r ≤ 4951760157141521099596496896) : r ≤ 70368744177664 := by
  by_cases q : r ≤ 70368744177664
  · exact q
  · have : 70368744177665 * 70368744177665 ≤ r * r := Int.mul_le_mul (by omega) (by omega) (by decide) (by omega)
    omega

/-- The root of a fix, rounded down. -/
theorem SqrtFloor_val (a : I64) (h0 : 0 ≤ a.val) (h1 : a.val ≤ 1152921504606846976) : ∃ r : I64, F_spec_SqrtFloor a (c64 4294967296) = (r, true) ∧ 0 ≤ r.val ∧ r.val ≤ 70368744177664 ∧ r.val * r.val ≤ a.val * 4294967296 := by
  have hz := sp_Mul a (c64 4294967296)
  rw [c64_v] at hz
  have hq := root_sq (F_spec_l02Mul a (c64 4294967296)) (mul_hi a _ h0 (by decide)) 65 (cu64 0) (c64 63) (by rw [hz]; show (0 : Int) * 0 ≤ _; omega)
  rw [hz] at hq
  have hx0 := (F_spec_l02Root (F_spec_l02Mul a (c64 4294967296))).lo
  have hx1 : (F_spec_l02Root (F_spec_l02Mul a (c64 4294967296))).val ≤ 70368744177664 := sqrt_le (Int.le_trans hq (by omega))
  have e : (w64 (F_spec_l02Root (F_spec_l02Mul a (c64 4294967296))).val).val = (F_spec_l02Root (F_spec_l02Mul a (c64 4294967296))).val := by rw [w64_val]; omega
  refine ⟨w64 (F_spec_l02Root (F_spec_l02Mul a (c64 4294967296))).val, ?_, by omega, by omega, by rw [e]; exact hq⟩
  unfold F_spec_SqrtFloor
  have d1 : decide (a.val < 0) = false := decide_eq_false (by omega)
  have d2 : decide ((c64 4294967296).val < 0) = false := by decide
  simp only [d1, d2, cond_f, bindP_e]

theorem End_in {a : I64} (h : -1152921504606846976 ≤ a.val ∧ a.val ≤ 1152921504606846976) : F_spec_l03End a true = (a, true) := by
  unfold F_spec_l03End
  simp only [bindP_e, Ok3_of h.1 h.2, Bool.not_true, cond_f]

theorem SqrtDown_val (a : I64) (h0 : 0 ≤ a.val) (h1 : a.val ≤ 1152921504606846976) : ∃ r : I64, F_spec_l03SqrtDown a = (r, true) ∧ F_impl_SqrtDown a = (r, true) ∧ 0 ≤ r.val ∧ r.val ≤ 70368744177664 ∧ r.val * r.val ≤ a.val * 4294967296 := by
  obtain ⟨r, e, r0, r1, r2⟩ := SqrtFloor_val a h0 h1
  refine ⟨r, ?_, ?_, r0, r1, r2⟩
  · unfold F_spec_l03SqrtDown
    have : F_spec_l00In a (c64 0) (c64 1152921504606846976) = true := by
      rw [sp_in]
      simp only [Bool.and_eq_true, decide_eq_true_eq, c64_v]
      omega
    simp only [bindP_e, this, e, Bool.not_true, cond_f]
  · unfold F_impl_SqrtDown
    simp only [bindP_e, eq_ValidFix, eq_SqrtFloor, eq_fixed, e, Ok3_of (show -1152921504606846976 ≤ a.val by omega) h1, Bool.not_true, cond_f, End_in (show -1152921504606846976 ≤ r.val ∧ r.val ≤ 1152921504606846976 by omega)]

theorem and_low (x : Int) (h0 : 0 ≤ x) : (iand .i64 (w64 x).val 4294967295).val = x % 4294967296 := by
  have e : (BitVec.ofInt 64 (w64 x).val &&& BitVec.ofInt 64 4294967295).toNat = (x % 4294967296).toNat := by
    have e1 : BitVec.ofInt 64 (w64 x).val = BitVec.ofNat 64 x.toNat := by
      apply BitVec.eq_of_toNat_eq
      rw [BitVec.toNat_ofInt, BitVec.toNat_ofNat, w64_val]
      omega
    have e2 : BitVec.ofInt 64 4294967295 = BitVec.ofNat 64 4294967295 := by decide
    rw [e1, e2, BitVec.toNat_and, BitVec.toNat_ofNat, BitVec.toNat_ofNat]
    have e3 : (4294967295 : Nat) % 2 ^ 64 = 2 ^ 32 - 1 := by decide
    rw [e3, Nat.and_two_pow_sub_one_eq_mod]
    omega
  show IntKind.i64.wrap ((BitVec.ofInt 64 (w64 x).val &&& BitVec.ofInt 64 4294967295).toNat : Int) = _
  rw [e, IntKind.wrap_i64]
  omega

theorem eq_SqrtUp (a : I64) (h0 : 0 ≤ a.val) (h1 : a.val ≤ 1152921504606846976) : ∃ r : I64, F_spec_l03SqrtUp a = (r, true) ∧ F_impl_SqrtUp a = (r, true) := by
  obtain ⟨r, e1, e2, r0, r1, r2⟩ := SqrtDown_val a h0 h1
  unfold F_spec_l03SqrtUp F_impl_SqrtUp
  simp only [bindP_e, e1, e2, eq_WideMul, eq_fixed, Bool.not_true, cond_t, cond_f]
  have s0 : 0 ≤ r.val * r.val := Int.mul_nonneg r0 r0
  have s1 : r.val * r.val ≤ 4951760157141521099596496896 := Int.le_trans r2 (by omega)
  have p1 := sp_Mul r r
  have p2 := sp_Mul a (c64 4294967296)
  rw [c64_v] at p2
  have hc : ((F_spec_l02Mul r r).hi.val == (F_spec_l02Mul a (c64 4294967296)).hi.val && (F_spec_l02Mul r r).lo.val == (F_spec_l02Mul a (c64 4294967296)).lo.val) = decide (r.val * r.val = a.val * 4294967296) := by
    have z1 : (F_spec_l02Mul r r).z = (F_spec_l02Mul r r).hi.val * 18446744073709551616 + (F_spec_l02Mul r r).lo.val := rfl
    have z2 : (F_spec_l02Mul a (c64 4294967296)).z = (F_spec_l02Mul a (c64 4294967296)).hi.val * 18446744073709551616 + (F_spec_l02Mul a (c64 4294967296)).lo.val := rfl
    have l1 := (F_spec_l02Mul r r).lo.lo
    have l2 := (F_spec_l02Mul r r).lo.hi
    have l3 := (F_spec_l02Mul a (c64 4294967296)).lo.lo
    have l4 := (F_spec_l02Mul a (c64 4294967296)).lo.hi
    rw [Bool.eq_iff_iff]
    simp only [Bool.and_eq_true, beq_iff_eq, decide_eq_true_eq]
    generalize r.val * r.val = q at *
    omega
  have hm : ∃ n : I64, F_spec_MulFloor r r (c64 32) = (n, true) ∧ n.val = r.val * r.val / 4294967296 := by
    have hz : (F_spec_l02Shift (F_spec_l02Mul r r) (c64 32)).z = r.val * r.val / 4294967296 := by rw [Shift_z32, p1]
    obtain ⟨n, k1, k2⟩ := Int_in (F_spec_l02Shift (F_spec_l02Mul r r) (c64 32)) (by rw [hz]; omega) (by rw [hz]; omega)
    refine ⟨n, ?_, by rw [k1, hz]⟩
    unfold F_spec_MulFloor
    have e3 : F_spec_l00In (c64 32) (c64 0) (c64 126) = true := by decide
    simp only [bindP_e, k2, e3, Bool.not_true, cond_f]
  obtain ⟨n, hn, hnv⟩ := hm
  have hl := and_low (r.val * r.val) s0
  have er : (w64 (r.val + 1)).val = r.val + 1 := by rw [w64_val]; omega
  rw [hc, hn]
  simp only [hl, End_in (show -1152921504606846976 ≤ r.val ∧ r.val ≤ 1152921504606846976 by omega), End_in (show -1152921504606846976 ≤ (w64 (r.val + 1)).val ∧ (w64 (r.val + 1)).val ≤ 1152921504606846976 by omega)]
  generalize r.val * r.val = q at *
  by_cases hq : q = a.val * 4294967296
  · have b1 : (n.val != a.val) = false := by simp only [bne_eq_false_iff_eq]; omega
    have b2 : (q % 4294967296 != 0) = false := by simp only [bne_eq_false_iff_eq]; omega
    refine ⟨r, ?_, ?_⟩
    · simp only [b1, b2, cond_f]
    · rw [decide_eq_true hq]; simp only [Bool.not_true, cond_f]
  · refine ⟨w64 (r.val + 1), ?_, ?_⟩
    · by_cases b : n.val = a.val
      · have b1 : (n.val != a.val) = false := by simp only [bne_eq_false_iff_eq]; exact b
        have b2 : (q % 4294967296 != 0) = true := by simp only [bne_iff_ne, ne_eq]; omega
        simp only [b1, b2, cond_f, cond_t]
      · have b1 : (n.val != a.val) = true := by simp only [bne_iff_ne, ne_eq]; exact b
        simp only [b1, cond_t]
    · rw [decide_eq_false hq]; simp only [Bool.not_false, cond_t]

theorem eq_SqrtI (a : Iv) : F_impl_SqrtI a = F_spec_SqrtI a := by
  unfold F_impl_SqrtI F_spec_SqrtI
  simp only [bindP_e, eq_IsWhole, eq_Whole]
  cases ha : F_spec_l04Ok a with
  | false => simp only [Bool.not_false, cond_t]
  | true =>
    obtain ⟨a1, a2, a3⟩ := Ok4 ha
    simp only [Bool.not_true, cond_f]
    by_cases h : a.lo.val < 0
    · simp only [h, decide_true, cond_t]
    · obtain ⟨r, e1, e2, _⟩ := SqrtDown_val a.lo (by omega) (by omega)
      obtain ⟨s, f1, f2⟩ := eq_SqrtUp a.hi (by omega) (by omega)
      simp only [h, decide_false, cond_f, e1, e2, f1, f2, cond_t, eq_bounded]

theorem radians_pos (fu gu : Nat) (a : I64) (h0 : 0 < a.val) : F_impl_RadiansOf_r (fu + 1) a = F_spec_RadiansOf_r (gu + 1) a := by
  unfold F_impl_RadiansOf_r F_spec_RadiansOf_r F_spec_RadiansOf_b F_spec_Whole
  have d1 : decide (a.val < 0) = false := decide_eq_false (by omega)
  have d2 : (a.val == 0) = false := by simp only [beq_eq_false_iff_ne, ne_eq]; omega
  simp only [bindP_e, eq_in, eq_Whole, eq_MulDivFloor, d1, d2, cond_f]

theorem eq_RadiansOf (a : I64) : F_impl_RadiansOf a = F_spec_RadiansOf a := by
  unfold F_impl_RadiansOf F_spec_RadiansOf
  by_cases h : 0 < a.val
  · exact radians_pos 1 1 a h
  · unfold F_impl_RadiansOf_r F_spec_RadiansOf_r F_spec_RadiansOf_b F_spec_Whole
    simp only [bindP_e, eq_in, eq_Whole, eq_MulDivFloor]
    cases hi : F_spec_l00In a (c64 (-36000000000)) (c64 36000000000) with
    | false => simp only [Bool.not_false, cond_t]
    | true =>
      rw [sp_in] at hi
      simp only [Bool.and_eq_true, decide_eq_true_eq, c64_v] at hi
      simp only [Bool.not_true, cond_f]
      by_cases h2 : a.val = 0
      · have d1 : decide (a.val < 0) = false := decide_eq_false (by omega)
        have d2 : (a.val == 0) = true := by simp only [beq_iff_eq]; exact h2
        simp only [d1, d2, cond_f, cond_t]
      · have d1 : decide (a.val < 0) = true := decide_eq_true (by omega)
        have d2 : (a.val == 0) = false := by simp only [beq_eq_false_iff_ne, ne_eq]; exact h2
        have en : (w64 (0 - a.val)).val = -a.val := by rw [w64_val]; omega
        simp only [d1, d2, cond_f, cond_t, radians_pos 0 0 (w64 (0 - a.val)) (by omega), eq_NegI]

theorem eq_CosI (a : Iv) : F_impl_CosI a = F_spec_CosI a := by
  unfold F_impl_CosI F_spec_CosI
  simp only [bindP_e, eq_circleHull]

end Go.Proofs.YtgofhiehdpggkaaGreat.Abs
