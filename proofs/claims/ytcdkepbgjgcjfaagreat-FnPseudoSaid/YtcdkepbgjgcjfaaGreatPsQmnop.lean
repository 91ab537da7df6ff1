/- Plain laws of the functions on numbers: what the program computes is what the reference computes. -/
import Derived.Test.YtcdkepbgjgcjfaaGreatPsQjkl
import Derived.Test.YtcdkepbgjgcjfaaGreatPsFx
set_option linter.unusedVariables false
set_option linter.unusedSimpArgs false
namespace Go.Proofs.YtcdkepbgjgcjfaaGreat.Abs
open Go

theorem times_cmp (x : U64) (w : Wd) (h : 0 ≤ w.hi.val) : (decide ((F_spec_l02Times x x).1.val < (wu64 w.hi.val).val) = true → x.val * x.val ≤ w.z) ∧ (((F_spec_l02Times x x).1.val == (wu64 w.hi.val).val) = true → decide ((F_spec_l02Times x x).2.val ≤ w.lo.val) = true → x.val * x.val ≤ w.z) := by
  have e := sp_Times x x
  have a1 := (F_spec_l02Times x x).2.lo
  have a2 := (F_spec_l02Times x x).2.hi
  have a3 := w.lo.lo
  have a4 := w.lo.hi
  have a5 := w.hi.hi
  have eh : (wu64 w.hi.val).val = w.hi.val := by rw [wu64_val]; omega
  have hz : w.z = w.hi.val * 18446744073709551616 + w.lo.val := rfl
  generalize x.val * x.val = q at *
  rw [eh]
  simp only [decide_eq_true_eq, beq_iff_eq]
  omega

/-- The reference's root: its square is at most the number. -/
theorem root_sq (w : Wd) (h : 0 ≤ w.hi.val) : ∀ (fu : Nat) (x : U64) (i : I64), x.val * x.val ≤ w.z → (F_spec_l02Root_L0 fu w x i).val * (F_spec_l02Root_L0 fu w x i).val ≤ w.z := by
  have z0 : 0 ≤ w.z := by
    have := w.lo.lo
    show 0 ≤ w.hi.val * 18446744073709551616 + w.lo.val
    omega
  intro fu
  induction fu with
  | zero => intro x i _; exact z0
  | succ fu ih =>
    intro x i hx
    unfold F_spec_l02Root_L0
    simp only [bindP_e]
    generalize ior .u64 x.val (ishl .u64 1 (wu64 i.val).val).val = y
    obtain ⟨c1, c2⟩ := times_cmp y w h
    cases decide (i.val ≥ 0) with
    | false => rw [cond_f]; exact hx
    | true =>
      rw [cond_t]
      cases h1 : decide ((F_spec_l02Times y y).1.val < (wu64 w.hi.val).val) with
      | true => rw [cond_t]; exact ih _ _ (c1 h1)
      | false =>
        rw [cond_f]
        cases h2 : ((F_spec_l02Times y y).1.val == (wu64 w.hi.val).val) with
        | false => rw [cond_f]; exact ih _ _ hx
        | true =>
          rw [cond_t]
          cases h3 : decide ((F_spec_l02Times y y).2.val ≤ w.lo.val) with
          | false => rw [cond_f]; exact ih _ _ hx
          | true => rw [cond_t]; exact ih _ _ (c2 h2 h3)

theorem eq_sqrtLoop (w : Wd) : ∀ (fu : Nat) (x : U64) (i : I64), i.val ≤ 63 → (i.val + 1).toNat < fu → F_impl_WideSqrt_L0 fu w x i = (F_spec_l02Root_L0 fu w x i, true) := by
  intro fu
  induction fu with
  | zero => intro x i _ h; exact absurd h (Nat.not_lt_zero _)
  | succ fu ih =>
    intro x i hi hf
    unfold F_impl_WideSqrt_L0 F_spec_l02Root_L0
    simp only [bindP_e, eq_Mul64]
    by_cases h : i.val ≥ 0
    · have ei : (wu64 i.val).val = i.val := by rw [wu64_val]; omega
      have e2 : (w64 (i.val - 1)).val = i.val - 1 := by rw [w64_val]; omega
      have ih' := fun x => ih x (w64 (i.val - 1)) (by omega) (by omega)
      simp only [h, decide_true, cond_t, ei, ih']
      generalize ior .u64 x.val (ishl .u64 1 i.val).val = y
      cases decide ((F_spec_l02Times y y).1.val < (wu64 w.hi.val).val) with
      | true => rw [cond_t, cond_t]
      | false =>
        rw [cond_f, cond_f]
        cases ((F_spec_l02Times y y).1.val == (wu64 w.hi.val).val) with
        | false => rw [cond_f, cond_f]
        | true =>
          rw [cond_t, cond_t]
          cases decide ((F_spec_l02Times y y).2.val ≤ w.lo.val) with
          | false => rw [cond_f, cond_f]
          | true => rw [cond_t, cond_t]
    · simp only [h, decide_false, cond_f]

theorem eq_WideSqrt (w : Wd) (h : 0 ≤ w.hi.val) : F_impl_WideSqrt w = (F_spec_l02Root w, true) := by
  unfold F_impl_WideSqrt F_spec_l02Root
  have : decide (w.hi.val < 0) = false := decide_eq_false (by omega)
  rw [this, cond_f]
  exact eq_sqrtLoop w 65 _ _ (by decide) (by decide)

theorem mul_hi (a b : I64) (ha : 0 ≤ a.val) (hb : 0 ≤ b.val) : 0 ≤ (F_spec_l02Mul a b).hi.val := by
  have h := sp_Mul a b
  have h0 := Int.mul_nonneg ha hb
  have h1 := (F_spec_l02Mul a b).lo.hi
  have hz : (F_spec_l02Mul a b).z = (F_spec_l02Mul a b).hi.val * 18446744073709551616 + (F_spec_l02Mul a b).lo.val := rfl
  omega

theorem eq_SqrtFloor (a b : I64) : F_impl_SqrtFloor a b = F_spec_SqrtFloor a b := by
  unfold F_impl_SqrtFloor F_spec_SqrtFloor
  by_cases h1 : a.val < 0
  · simp only [h1, decide_true, cond_t]
  · by_cases h2 : b.val < 0
    · simp only [h1, h2, decide_true, decide_false, cond_t, cond_f]
    · simp only [h1, h2, decide_false, cond_f, bindP_e, eq_WideMul, eq_WideSqrt _ (mul_hi a b (by omega) (by omega))]

theorem sqrt_le {r : Int} (h : r * r ≤ 4951760157141521099596496896) : r ≤ 70368744177664 := by
  by_cases q : r ≤ 70368744177664
  · exact q
  · have : 70368744177665 * 70368744177665 ≤ r * r := Int.mul_le_mul (by omega) (by omega) (by decide) (by omega)
    omega

/-- The root of a fix, rounded down. -/
theorem SqrtFloor_val (a : I64) (h0 : 0 ≤ a.val) (h1 : a.val ≤ 1152921504606846976) : ∃ r : I64, F_spec_SqrtFloor a (c64 4294967296) = (r, true) ∧ 0 ≤ r.val ∧ r.val ≤ 70368744177664 ∧ r.val * r.val ≤ a.val * 4294967296 := by
  have hz := sp_Mul a (c64 4294967296)
  rw [c64_v] at hz
  have hq := root_sq (F_spec_l02Mul a (c64 4294967296)) (mul_hi a _ h0 (by decide)) 65 (cu64 0) (c64 63) (by rw [hz]; show (0 : Int) * 0 ≤ _; omega)
  rw [hz] at hq
  have hx0 := (F_spec_l02Root (F_spec_l02Mul a (c64 4294967296))).lo
  have hx1 : (F_spec_l02Root (F_spec_l02Mul a (c64 4294967296))).val ≤ 70368744177664 := sqrt_le (Int.le_trans hq (by omega))
  have e : (w64 (F_spec_l02Root (F_spec_l02Mul a (c64 4294967296))).val).val = (F_spec_l02Root (F_spec_l02Mul a (c64 4294967296))).val := by rw [w64_val]; omega
  refine ⟨w64 (F_spec_l02Root (F_spec_l02Mul a (c64 4294967296))).val, ?_, by omega, by omega, by rw [e]; exact hq⟩
  unfold F_spec_SqrtFloor
  have d1 : decide (a.val < 0) = false := decide_eq_false (by omega)
  have d2 : decide ((c64 4294967296).val < 0) = false := by decide
  simp only [d1, d2, cond_f, bindP_e]

theorem End_in {a : I64} (h : -1152921504606846976 ≤ a.val ∧ a.val ≤ 1152921504606846976) : F_spec_l03End a true = (a, true) := by
  unfold F_spec_l03End
  simp only [bindP_e, Ok3_of h.1 h.2, Bool.not_true, cond_f]

theorem SqrtDown_val (a : I64) (h0 : 0 ≤ a.val) (h1 : a.val ≤ 1152921504606846976) : ∃ r : I64, F_spec_l03SqrtDown a = (r, true) ∧ F_impl_SqrtDown a = (r, true) ∧ 0 ≤ r.val ∧ r.val ≤ 70368744177664 ∧ r.val * r.val ≤ a.val * 4294967296 := by
  obtain ⟨r, e, r0, r1, r2⟩ := SqrtFloor_val a h0 h1
  refine ⟨r, ?_, ?_, r0, r1, r2⟩
  · unfold F_spec_l03SqrtDown
    have : F_spec_l00In a (c64 0) (c64 1152921504606846976) = true := by
      rw [sp_in]
      simp only [Bool.and_eq_true, decide_eq_true_eq, c64_v]
      omega
    simp only [bindP_e, this, e, Bool.not_true, cond_f]
  · unfold F_impl_SqrtDown
    simp only [bindP_e, eq_ValidFix, eq_SqrtFloor, eq_fixed, e, Ok3_of (show -1152921504606846976 ≤ a.val by omega) h1, Bool.not_true, cond_f, End_in (show -1152921504606846976 ≤ r.val ∧ r.val ≤ 1152921504606846976 by omega)]

theorem and_low (x : Int) (h0 : 0 ≤ x) : (iand .i64 (w64 x).val 4294967295).val = x % 4294967296 := by
  have e : (BitVec.ofInt 64 (w64 x).val &&& BitVec.ofInt 64 4294967295).toNat = (x % 4294967296).toNat := by
    have e1 : BitVec.ofInt 64 (w64 x).val = BitVec.ofNat 64 x.toNat := by
      apply BitVec.eq_of_toNat_eq
      rw [BitVec.toNat_ofInt, BitVec.toNat_ofNat, w64_val]
      omega
    have e2 : BitVec.ofInt 64 4294967295 = BitVec.ofNat 64 4294967295 := by decide
    rw [e1, e2, BitVec.toNat_and, BitVec.toNat_ofNat, BitVec.toNat_ofNat]
    have e3 : (4294967295 : Nat) % 2 ^ 64 = 2 ^ 32 - 1 := by decide
    rw [e3, Nat.and_two_pow_sub_one_eq_mod]
    omega
  show IntKind.i64.wrap ((BitVec.ofInt 64 (w64 x).val &&& BitVec.ofInt 64 4294967295).toNat : Int) = _
  rw [e, IntKind.wrap_i64]
  omega

theorem eq_SqrtUp (a : I64) (h0 : 0 ≤ a.val) (h1 : a.val ≤ 1152921504606846976) : ∃ r : I64, F_spec_l03SqrtUp a = (r, true) ∧ F_impl_SqrtUp a = (r, true) := by
  obtain ⟨r, e1, e2, r0, r1, r2⟩ := SqrtDown_val a h0 h1
  unfold F_spec_l03SqrtUp F_impl_SqrtUp
  simp only [bindP_e, e1, e2, eq_WideMul, eq_fixed, Bool.not_true, cond_t, cond_f]
  have s0 : 0 ≤ r.val * r.val := Int.mul_nonneg r0 r0
  have s1 : r.val * r.val ≤ 4951760157141521099596496896 := Int.le_trans r2 (by omega)
  have p1 := sp_Mul r r
  have p2 := sp_Mul a (c64 4294967296)
  rw [c64_v] at p2
  have hc : ((F_spec_l02Mul r r).hi.val == (F_spec_l02Mul a (c64 4294967296)).hi.val && (F_spec_l02Mul r r).lo.val == (F_spec_l02Mul a (c64 4294967296)).lo.val) = decide (r.val * r.val = a.val * 4294967296) := by
    have z1 : (F_spec_l02Mul r r).z = (F_spec_l02Mul r r).hi.val * 18446744073709551616 + (F_spec_l02Mul r r).lo.val := rfl
    have z2 : (F_spec_l02Mul a (c64 4294967296)).z = (F_spec_l02Mul a (c64 4294967296)).hi.val * 18446744073709551616 + (F_spec_l02Mul a (c64 4294967296)).lo.val := rfl
    have l1 := (F_spec_l02Mul r r).lo.lo
    have l2 := (F_spec_l02Mul r r).lo.hi
    have l3 := (F_spec_l02Mul a (c64 4294967296)).lo.lo
    have l4 := (F_spec_l02Mul a (c64 4294967296)).lo.hi
    rw [Bool.eq_iff_iff]
    simp only [Bool.and_eq_true, beq_iff_eq, decide_eq_true_eq]
    generalize r.val * r.val = q at *
    omega
  have hm : ∃ n : I64, F_spec_MulFloor r r (c64 32) = (n, true) ∧ n.val = r.val * r.val / 4294967296 := by
    have hz : (F_spec_l02Shift (F_spec_l02Mul r r) (c64 32)).z = r.val * r.val / 4294967296 := by rw [Shift_z32, p1]
    obtain ⟨n, k1, k2⟩ := Int_in (F_spec_l02Shift (F_spec_l02Mul r r) (c64 32)) (by rw [hz]; omega) (by rw [hz]; omega)
    refine ⟨n, ?_, by rw [k1, hz]⟩
    unfold F_spec_MulFloor
    have e3 : F_spec_l00In (c64 32) (c64 0) (c64 126) = true := by decide
    simp only [bindP_e, k2, e3, Bool.not_true, cond_f]
  obtain ⟨n, hn, hnv⟩ := hm
  have hl := and_low (r.val * r.val) s0
  have er : (w64 (r.val + 1)).val = r.val + 1 := by rw [w64_val]; omega
  rw [hc, hn]
  simp only [hl, End_in (show -1152921504606846976 ≤ r.val ∧ r.val ≤ 1152921504606846976 by omega), End_in (show -1152921504606846976 ≤ (w64 (r.val + 1)).val ∧ (w64 (r.val + 1)).val ≤ 1152921504606846976 by omega)]
  generalize r.val * r.val = q at *
  by_cases hq : q = a.val * 4294967296
  · have b1 : (n.val != a.val) = false := by simp only [bne_eq_false_iff_eq]; omega
    have b2 : (q % 4294967296 != 0) = false := by simp only [bne_eq_false_iff_eq]; omega
    refine ⟨r, ?_, ?_⟩
    · simp only [b1, b2, cond_f]
    · rw [decide_eq_true hq]; simp only [Bool.not_true, cond_f]
  · refine ⟨w64 (r.val + 1), ?_, ?_⟩
    · by_cases b : n.val = a.val
      · have b1 : (n.val != a.val) = false := by simp only [bne_eq_false_iff_eq]; exact b
        have b2 : (q % 4294967296 != 0) = true := by simp only [bne_iff_ne, ne_eq]; omega
        simp only [b1, b2, cond_f, cond_t]
      · have b1 : (n.val != a.val) = true := by simp only [bne_iff_ne, ne_eq]; exact b
        simp only [b1, cond_t]
    · rw [decide_eq_false hq]; simp only [Bool.not_false, cond_t]

theorem eq_SqrtI (a : Iv) : F_impl_SqrtI a = F_spec_SqrtI a := by
  unfold F_impl_SqrtI F_spec_SqrtI
  simp only [bindP_e, eq_IsWhole, eq_Whole]
  cases ha : F_spec_l04Ok a with
  | false => simp only [Bool.not_false, cond_t]
  | true =>
    obtain ⟨a1, a2, a3⟩ := Ok4 ha
    simp only [Bool.not_true, cond_f]
    by_cases h : a.lo.val < 0
    · simp only [h, decide_true, cond_t]
    · obtain ⟨r, e1, e2, _⟩ := SqrtDown_val a.lo (by omega) (by omega)
      obtain ⟨s, f1, f2⟩ := eq_SqrtUp a.hi (by omega) (by omega)
      simp only [h, decide_false, cond_f, e1, e2, f1, f2, cond_t, eq_bounded]

theorem radians_pos (fu gu : Nat) (a : I64) (h0 : 0 < a.val) : F_impl_RadiansOf_r (fu + 1) a = F_spec_RadiansOf_r (gu + 1) a := by
  unfold F_impl_RadiansOf_r F_spec_RadiansOf_r F_spec_RadiansOf_b F_spec_Whole
  have d1 : decide (a.val < 0) = false := decide_eq_false (by omega)
  have d2 : (a.val == 0) = false := by simp only [beq_eq_false_iff_ne, ne_eq]; omega
  simp only [bindP_e, eq_in, eq_Whole, eq_MulDivFloor, d1, d2, cond_f]

theorem eq_RadiansOf (a : I64) : F_impl_RadiansOf a = F_spec_RadiansOf a := by
  unfold F_impl_RadiansOf F_spec_RadiansOf
  by_cases h : 0 < a.val
  · exact radians_pos 1 1 a h
  · unfold F_impl_RadiansOf_r F_spec_RadiansOf_r F_spec_RadiansOf_b F_spec_Whole
    simp only [bindP_e, eq_in, eq_Whole, eq_MulDivFloor]
    cases hi : F_spec_l00In a (c64 (-36000000000)) (c64 36000000000) with
    | false => simp only [Bool.not_false, cond_t]
    | true =>
      rw [sp_in] at hi
      simp only [Bool.and_eq_true, decide_eq_true_eq, c64_v] at hi
      simp only [Bool.not_true, cond_f]
      by_cases h2 : a.val = 0
      · have d1 : decide (a.val < 0) = false := decide_eq_false (by omega)
        have d2 : (a.val == 0) = true := by simp only [beq_iff_eq]; exact h2
        simp only [d1, d2, cond_f, cond_t]
      · have d1 : decide (a.val < 0) = true := decide_eq_true (by omega)
        have d2 : (a.val == 0) = false := by simp only [beq_eq_false_iff_ne, ne_eq]; exact h2
        have en : (w64 (0 - a.val)).val = -a.val := by rw [w64_val]; omega
        simp only [d1, d2, cond_f, cond_t, radians_pos 0 0 (w64 (0 - a.val)) (by omega), eq_NegI]

theorem eq_CosI (a : Iv) : F_impl_CosI a = F_spec_CosI a := by
  unfold F_impl_CosI F_spec_CosI
  simp only [bindP_e, eq_circleHull]

/-- The same test of a conic's standard parallels. -/
theorem eq_sumCheck (x y : I64) (hx : -890000000 ≤ x.val ∧ x.val ≤ 890000000) (hy : -890000000 ≤ y.val ∧ y.val ≤ 890000000) : decide ((F_impl_abs (w64 (x.val + y.val))).val ≥ 10000000) = (bif decide ((w64 (x.val + y.val)).val ≥ 10000000) then true else decide ((w64 (x.val + y.val)).val ≤ -10000000)) := by
  have e : (w64 (x.val + y.val)).val = x.val + y.val := by rw [w64_val]; omega
  generalize w64 (x.val + y.val) = s at *
  unfold F_impl_abs
  have en : (w64 (0 - s.val)).val = -s.val := by rw [w64_val]; omega
  have m := mx_spec s (w64 (0 - s.val))
  rw [en] at m
  generalize mx s (w64 (0 - s.val)) = a at *
  by_cases h : s.val ≥ 10000000
  · rw [decide_eq_true h, cond_t]
    exact decide_eq_true (by omega)
  · rw [decide_eq_false h, cond_f]
    rw [Bool.eq_iff_iff]
    simp only [decide_eq_true_eq]
    omega

theorem eq_isStandard (a : I64) : F_impl_isStandard a = F_spec_l17Standard a := rfl

theorem std_val {a : I64} (h : F_spec_l17Standard a = true) : -890000000 ≤ a.val ∧ a.val ≤ 890000000 := by
  unfold F_spec_l17Standard at h
  rw [bindP_e, sp_in] at h
  simp only [Bool.and_eq_true, decide_eq_true_eq, c64_v] at h
  exact h

theorem eq_l17Ok (p : Pj) : F_impl_ValidProjection p = F_spec_l17Ok p := by
  unfold F_impl_ValidProjection F_spec_l17Ok
  simp only [bindP_e, eq_ValidPoint, eq_isStandard]
  cases h1 : F_spec_l11Ok ⟨p.lat0, p.lon0⟩ with
  | false => simp only [Bool.not_false, cond_t]; cases F_impl_within p.kind (c64 1) (c64 16) <;> simp only [Bool.not_false, Bool.not_true, cond_t, cond_f]
  | true =>
    cases h2 : F_spec_l17Standard p.lat1 with
    | false => simp only [Bool.not_false, Bool.not_true, cond_t, cond_f]; cases F_impl_within p.kind (c64 1) (c64 16) <;> simp only [Bool.not_false, Bool.not_true, cond_t, cond_f]
    | true =>
      cases h3 : F_spec_l17Standard p.lat2 with
      | false => simp only [Bool.not_false, Bool.not_true, cond_t, cond_f]; cases F_impl_within p.kind (c64 1) (c64 16) <;> simp only [Bool.not_false, Bool.not_true, cond_t, cond_f]
      | true =>
        simp only [Bool.not_true, cond_f, eq_sumCheck p.lat1 p.lat2 (std_val h2) (std_val h3)]
        unfold F_impl_isAzimuthal F_impl_isConic
        simp only [bindP_e, sp_within, c64_v]
        generalize p.kind.val = k
        by_cases hk : 1 ≤ k ∧ k ≤ 16
        · obtain rfl | rfl | rfl | rfl | rfl | rfl | rfl | rfl | rfl | rfl | rfl | rfl | rfl | rfl | rfl | rfl : k = 1 ∨ k = 2 ∨ k = 3 ∨ k = 4 ∨ k = 5 ∨ k = 6 ∨ k = 7 ∨ k = 8 ∨ k = 9 ∨ k = 10 ∨ k = 11 ∨ k = 12 ∨ k = 13 ∨ k = 14 ∨ k = 15 ∨ k = 16 := by omega
          all_goals simp [bne]
          all_goals grind
        · have e0 : (decide (1 ≤ k) && decide (k ≤ 16)) = false := by
            rw [Bool.and_eq_false_iff]
            simp only [decide_eq_false_iff_not]
            omega
          have ne : ∀ n : Int, 1 ≤ n → n ≤ 16 → (k == n) = false := fun n a b => by
            simp only [beq_eq_false_iff_ne, ne_eq]
            omega
          simp only [e0, Bool.not_false, cond_t, ne 1 (by decide) (by decide), ne 2 (by decide) (by decide), ne 3 (by decide) (by decide), ne 4 (by decide) (by decide), ne 5 (by decide) (by decide), ne 6 (by decide) (by decide), ne 7 (by decide) (by decide), ne 8 (by decide) (by decide), ne 9 (by decide) (by decide), ne 10 (by decide) (by decide), ne 11 (by decide) (by decide), ne 12 (by decide) (by decide), ne 13 (by decide) (by decide), ne 14 (by decide) (by decide), ne 15 (by decide) (by decide), ne 16 (by decide) (by decide), cond_f]

theorem eq_ValidProjection (p : Pj) : F_impl_ValidProjection p = F_spec_ValidProjection p := by
  unfold F_spec_ValidProjection
  rw [bindP_e, eq_l17Ok]

theorem eq_WrapLon (a : I64) : F_impl_WrapLon a = F_spec_l11Wrap a := by
  unfold F_impl_WrapLon F_spec_l11Wrap
  have b : -3600000000 < (imod a 3600000000).val ∧ (imod a 3600000000).val < 3600000000 := by
    rw [imod_val]
    by_cases hs : 0 ≤ a.val
    · rw [Int.tmod_eq_emod_of_nonneg hs]; omega
    · have : Int.tmod a.val 3600000000 = -((-a.val) % 3600000000) := by
        rw [← Int.tmod_eq_emod_of_nonneg (by omega), Int.neg_tmod, Int.neg_neg]
      rw [this]; omega
  generalize imod a 3600000000 = m at *
  by_cases h : m.val > 1800000000
  · have e : decide ((w64 (m.val - 3600000000)).val ≤ -1800000000) = false := decide_eq_false (by rw [w64_val]; omega)
    simp only [h, decide_true, cond_t, e, cond_f]
  · simp only [h, decide_false, cond_f]

theorem wrap_in64 (a : I64) : -1800000000 < (F_spec_l11Wrap a).val ∧ (F_spec_l11Wrap a).val ≤ 1800000000 := by
  rw [← eq_WrapLon]
  unfold F_impl_WrapLon
  have b : -3600000000 < (imod a 3600000000).val ∧ (imod a 3600000000).val < 3600000000 := by
    rw [imod_val]
    by_cases hs : 0 ≤ a.val
    · rw [Int.tmod_eq_emod_of_nonneg hs]; omega
    · have : Int.tmod a.val 3600000000 = -((-a.val) % 3600000000) := by
        rw [← Int.tmod_eq_emod_of_nonneg (by omega), Int.neg_tmod, Int.neg_neg]
      rw [this]; omega
  generalize imod a 3600000000 = m at *
  by_cases h : m.val > 1800000000
  · simp only [h, decide_true, cond_t, w64_val]; omega
  · simp only [h, decide_false, cond_f]
    by_cases h2 : m.val ≤ -1800000000
    · simp only [h2, decide_true, cond_t, w64_val]; omega
    · simp only [h2, decide_false, cond_f]; omega

theorem eq_LatOf {p : Pt} (h : F_spec_l11Ok p = true) : F_impl_LatOf p = F_spec_RadiansOf p.lat := by
  unfold F_impl_LatOf
  simp only [bindP_e, eq_ValidPoint, h, Bool.not_true, cond_f, eq_RadiansOf]

theorem eq_LonFrom {p : Pj} {q : Pt} (hp : F_spec_ValidProjection p = true) (h : F_spec_l11Ok q = true) : F_impl_LonFrom p q = F_spec_RadiansOf (F_spec_l11Wrap (w64 (q.lon.val - p.lon0.val))) := by
  unfold F_impl_LonFrom
  simp only [bindP_e, eq_ValidProjection, hp, eq_ValidPoint, h, Bool.not_true, cond_f, eq_WrapLon, eq_RadiansOf]

theorem eq_isPseudo (k : I64) : F_impl_isPseudo k = F_spec_l20Kind k := rfl

theorem eq_pseudoRadius (k : I64) : F_impl_pseudoRadius k = F_spec_l20Root k := by
  unfold F_impl_pseudoRadius F_spec_l20Root
  simp only [bindP_e, eq_Integer, eq_SqrtI, eq_PiI, eq_AddI]

theorem eq_times (k : I64) (x : Iv) : F_impl_times k x = F_spec_MulI (F_spec_Integer k) x := by
  unfold F_impl_times
  simp only [bindP_e, eq_Integer, eq_MulI]

theorem eq_Parallel (k : I64) (x : Iv) : (F_impl_parallelLength k x, F_impl_parallelHeight k x) = F_spec_l20Parallel k x := by
  unfold F_impl_parallelLength F_impl_parallelHeight F_spec_l20Parallel
  simp only [bindP_e, eq_pseudoRadius, eq_CosI, eq_SinI, eq_times, eq_MulI, eq_DivI, eq_PiI, eq_Integer, eq_AddI]
  cases (k.val == 13) with
  | true => simp only [cond_t]
  | false =>
    cases (k.val == 14) with
    | true => simp only [cond_t, cond_f]
    | false => simp only [cond_f]

theorem eq_ParallelOf (k : I64) (x : Iv) : F_impl_ParallelOf k x = F_spec_ParallelOf k x := by
  unfold F_impl_ParallelOf F_spec_ParallelOf F_spec_Whole
  simp only [bindP_e, eq_isPseudo, eq_Whole, eq_ThetaOf, ← eq_Parallel]

theorem eq_isPseudoOne (p : Pj) : F_impl_isPseudoOne p = F_spec_l20Ok__pPj p := by
  unfold F_impl_isPseudoOne F_spec_l20Ok__pPj
  simp only [bindP_e, eq_ValidProjection, eq_isPseudo]
  cases F_spec_ValidProjection p <;> cases F_spec_l20Kind p.kind <;> rfl

theorem ok20_proj {p : Pj} (h : F_spec_l20Ok__pPj p = true) : F_spec_ValidProjection p = true := by
  unfold F_spec_l20Ok__pPj at h
  simp only [bindP_e] at h
  cases hk : F_spec_l20Kind p.kind with
  | false => rw [hk, cond_f] at h; cases h
  | true => rw [hk, cond_t] at h; exact h

theorem eq_planar (x y : Iv) : F_impl_planar x y = (bif F_spec_IsWhole x then ((⟨(⟨(c64 0), (c64 0)⟩ : Iv), (⟨(c64 0), (c64 0)⟩ : Iv)⟩ : Pn), (c64 9)) else (bif F_spec_IsWhole y then ((⟨(⟨(c64 0), (c64 0)⟩ : Iv), (⟨(c64 0), (c64 0)⟩ : Iv)⟩ : Pn), (c64 9)) else ((⟨x, y⟩ : Pn), (c64 0)))) := by
  unfold F_impl_planar F_spec_IsWhole
  simp only [bindP_e, eq_areBounded]
  cases F_spec_l04Ok x <;> cases F_spec_l04Ok y <;> rfl

theorem eq_PseudoForward (p : Pj) (q : Pt) : F_impl_PseudoForward p q = F_spec_PseudoForward p q := by
  unfold F_impl_PseudoForward F_spec_PseudoForward
  simp only [bindP_e, eq_isPseudoOne, eq_ValidPoint]
  cases h1 : F_spec_l20Ok__pPj p with
  | false => rfl
  | true =>
    cases h2 : F_spec_l11Ok q with
    | false => rfl
    | true =>
      simp only [Bool.not_true, cond_f, eq_LatOf h2, eq_LonFrom (ok20_proj h1) h2, eq_ParallelOf, eq_MulI, eq_planar]

theorem eq_DoubleI (a : Iv) : F_impl_DoubleI a = F_spec_DoubleI a := by
  unfold F_impl_DoubleI F_spec_DoubleI
  rw [bindP_e, eq_AddI]
  unfold F_spec_AddI
  simp only [bindP_e]
  have e1 : a.lo.val + a.lo.val = 2 * a.lo.val := by omega
  have e2 : a.hi.val + a.hi.val = 2 * a.hi.val := by omega
  rw [e1, e2]
  cases F_spec_l04Ok a
  · simp only [Bool.not_false, cond_t]
  · simp only [Bool.not_true, cond_f]

theorem eq_HalfI (a : Iv) : F_impl_HalfI a = F_spec_HalfI a := by
  unfold F_impl_HalfI F_spec_HalfI
  simp only [bindP_e, eq_IsWhole, eq_Whole]
  cases h : F_spec_l04Ok a with
  | false => simp only [Bool.not_false, cond_t]
  | true =>
    obtain ⟨h1, h2, h3⟩ := Ok4 h
    simp only [Bool.not_true, cond_f]
    rw [Make_ok (by rw [shr1_val, shr1_val, w64_val]; omega)]

theorem Ends_val {a : Iv} (h : F_spec_l04Ok a = true) : 0 ≤ (F_spec_l04Ends a).1.val ∧ (F_spec_l04Ends a).1.val ≤ (F_spec_l04Ends a).2.val ∧ (F_spec_l04Ends a).2.val < 1152921504606846976 := by
  obtain ⟨h1, h2, h3⟩ := Ok4 h
  unfold F_spec_l04Ends F_spec_l04Has
  simp only [bindP_e, eq_mn, eq_mx, sp_in, c64_v]
  have e1 : (w64 (0 - a.lo.val)).val = -a.lo.val := by rw [w64_val]; omega
  have e2 : (w64 (0 - a.hi.val)).val = -a.hi.val := by rw [w64_val]; omega
  have m1 := mx_spec a.lo (w64 (0 - a.lo.val))
  have m2 := mx_spec a.hi (w64 (0 - a.hi.val))
  rw [e1] at m1
  rw [e2] at m2
  generalize mx a.lo (w64 (0 - a.lo.val)) = p at *
  generalize mx a.hi (w64 (0 - a.hi.val)) = q at *
  have n1 := mx_spec p q
  have n2 := mn_spec p q
  cases (decide (a.lo.val ≤ 0) && decide (0 ≤ a.hi.val)) with
  | true => simp only [cond_t, c64_v]; omega
  | false => simp only [cond_f]; omega

theorem eq_AbsI2 (a : Iv) : F_impl_AbsI a = F_spec_AbsI a := by
  unfold F_spec_AbsI
  simp only [bindP_e]
  cases h : F_spec_l04Ok a with
  | false =>
    unfold F_impl_AbsI
    simp only [bindP_e, eq_IsWhole, h, Bool.not_false, cond_t, eq_Whole]
  | true =>
    obtain ⟨h1, h2, h3⟩ := Ends_val h
    simp only [Bool.not_true, cond_f]
    rw [eq_AbsI h, Make_ok (by omega)]

theorem AbsI_val {a : Iv} (h : F_spec_l04Ok a = true) : F_spec_AbsI a = ⟨(F_spec_l04Ends a).1, (F_spec_l04Ends a).2⟩ := by rw [← eq_AbsI2, eq_AbsI h]

theorem eq_LessI (a b : Iv) : F_impl_LessI a b = F_spec_LessI a b := by
  unfold F_impl_LessI F_spec_LessI
  simp only [bindP_e, eq_areBounded]
  cases F_spec_l04Ok a
  · simp only [Bool.false_and, Bool.not_false, cond_t]
  · cases F_spec_l04Ok b
    · simp only [Bool.and_false, Bool.not_false, Bool.not_true, cond_t, cond_f]
    · simp only [Bool.and_self, Bool.not_true, cond_f]

theorem LessI_val (a b : Iv) : (F_spec_LessI a b).val = 0 ∨ (F_spec_LessI a b).val = 1 ∨ (F_spec_LessI a b).val = 2 := by
  unfold F_spec_LessI
  simp only [bindP_e]
  cases F_spec_l04Ok a
  · exact .inr (.inr rfl)
  · cases F_spec_l04Ok b
    · exact .inr (.inr rfl)
    · cases decide (a.hi.val < b.lo.val)
      · cases decide (a.lo.val ≥ b.hi.val)
        · exact .inr (.inr rfl)
        · exact .inl rfl
      · exact .inr (.inl rfl)

theorem eq_CircleAt (n : I64) : F_impl_CircleAt n = F_spec_CircleAt n := by
  unfold F_impl_CircleAt F_spec_CircleAt F_spec_WideMul F_impl_at F_spec_Whole
  simp only [bindP_e, eq_in, eq_Whole, eq_SqrtFloor, eq_WideMul]
  cases F_spec_l00In n (c64 (-4294967296)) (c64 4294967296)
  · simp only [Bool.not_false, cond_t]
  · simp only [Bool.not_true, cond_f]
    generalize F_spec_SqrtFloor (w64 (4294967296 - n.val)) (w64 (4294967296 + n.val)) = p
    generalize F_spec_l02Mul p.1 p.1 = a
    generalize F_spec_l02Mul (w64 (4294967296 - n.val)) (w64 (4294967296 + n.val)) = b
    cases (a.hi.val == b.hi.val && a.lo.val == b.lo.val)
    · simp only [Bool.not_false, cond_t, cond_f]
    · simp only [Bool.not_true, cond_t, cond_f]

theorem eq_ArcSeries (x : Iv) : F_impl_ArcSeries x = F_spec_ArcSeries x := by
  unfold F_impl_ArcSeries F_spec_ArcSeries F_spec_Whole
  have e : F_impl_tiny = F_spec_l06Tiny := Eq.trans rfl rfl
  simp only [bindP_e, eq_InsideI, eq_Whole, eq_SqrI, eq_Quotient, eq_MulI, eq_SubI, eq_AddI, e]

theorem eq_halved (x : Iv) : F_impl_halved x = F_spec_l07Halve x := by
  unfold F_impl_halved F_spec_l07Halve
  simp only [bindP_e, eq_Integer, eq_SqrI, eq_AddI, eq_SqrtI, eq_DivI]

theorem eq_fourfold (x : Iv) : F_impl_fourfold x = F_spec_l07Core x := by
  unfold F_impl_fourfold F_spec_l07Core
  simp only [bindP_e, eq_halved, eq_ArcSeries, eq_DoubleI]

theorem eq_isOpen (n : I64) : F_impl_isOpen n = F_spec_l07Fix n := rfl

theorem open_val {n : I64} (h : F_spec_l07Fix n = true) : -1152921504606846976 < n.val ∧ n.val < 1152921504606846976 := by
  unfold F_spec_l07Fix at h
  by_cases q : -1152921504606846976 < n.val
  · simp only [q, decide_true, cond_t, decide_eq_true_eq] at h
    exact ⟨q, h⟩
  · simp only [q, decide_false, cond_f] at h
    cases h

theorem eq_at (n : I64) : F_impl_at n = F_spec_l05At n := Eq.trans rfl rfl

theorem atan_body (n : I64) (f g : I64 → Iv) (h : f (w64 (0 - n.val)) = g (w64 (0 - n.val)) ∨ ¬ n.val < 0 ∨ F_spec_l07Fix n = false) : F_impl_AtanAt_b f n = F_spec_AtanAt_b g n := by
  unfold F_impl_AtanAt_b F_spec_AtanAt_b
  simp only [bindP_e, eq_isOpen, eq_halfCircle, eq_NegI, eq_TurnI, eq_Integer, eq_at, eq_DivI, eq_fourfold, eq_SubI]
  rcases h with h | h | h
  · rw [h]
  · rw [decide_eq_false h]; simp only [cond_f]
  · rw [h]; simp only [Bool.not_false, cond_t]

theorem eq_AtanAt (n : I64) : F_impl_AtanAt n = F_spec_AtanAt n := by
  unfold F_impl_AtanAt F_spec_AtanAt F_impl_AtanAt_r F_spec_AtanAt_r
  refine atan_body n _ _ ?_
  by_cases h : n.val < 0
  · cases ho : F_spec_l07Fix n with
    | false => exact .inr (.inr rfl)
    | true =>
      left
      obtain ⟨h1, h2⟩ := open_val ho
      unfold F_impl_AtanAt_r F_spec_AtanAt_r
      exact atan_body _ _ _ (.inr (.inl (by rw [w64_val]; omega)))
  · exact .inr (.inl h)

theorem eq_AtanI (x : Iv) : F_impl_AtanI x = F_spec_AtanI x := by
  unfold F_impl_AtanI F_spec_AtanI F_spec_IsWhole
  simp only [bindP_e, eq_IsWhole, eq_halfCircle, eq_AtanAt, eq_HullI]

theorem eq_AsinAt (n : I64) : F_impl_AsinAt n = F_spec_AsinAt n := by
  unfold F_impl_AsinAt F_spec_AsinAt F_spec_Whole
  simp only [bindP_e, eq_in, eq_Whole, eq_at, eq_Integer, eq_CircleAt, eq_AddI, eq_DivI, eq_AtanI, eq_DoubleI, eq_halfCircle, eq_MeetI]

theorem eq_AsinI (x : Iv) : F_impl_AsinI x = F_spec_AsinI x := by
  unfold F_impl_AsinI F_spec_AsinI F_spec_Whole
  have e : F_impl_ring = F_spec_l06Ring := Eq.trans rfl rfl
  simp only [bindP_e, e, eq_MeetI, eq_Whole, eq_AsinAt, eq_HullI]

theorem known_if (x : Iv) : F_impl_knownI x = bif F_spec_IsWhole x then ((⟨(c64 0), (c64 0)⟩ : Iv), (c64 9)) else (x, (c64 0)) := by
  unfold F_impl_knownI F_spec_IsWhole
  simp only [bindP_e, eq_IsWhole]

theorem eq_poleHeight (k : I64) : F_impl_poleHeight k = F_spec_l20High k := by
  unfold F_impl_poleHeight F_spec_l20High
  simp only [bindP_e, eq_TurnI, eq_pseudoRadius, eq_PiI, eq_DivI]

theorem normal_ok {x : Iv} (h : F_spec_l04Ok x = true) : F_impl_normalI x = x := by
  unfold F_impl_normalI
  rw [bindP_e, eq_bounded, Make_ok (Ok4 h)]

theorem normal_bad {x : Iv} (h : F_spec_l04Ok x = false) : F_impl_normalI x = F_spec_l04Whole := by
  unfold F_impl_normalI
  rw [bindP_e, eq_bounded]
  unfold F_spec_l04Make
  simp only [bindP_e]
  show (bif !F_spec_l04Ok x then F_spec_l04Whole else x) = F_spec_l04Whole
  rw [h, Bool.not_false, cond_t]

theorem cos_bad {x : Iv} (h : F_spec_l04Ok x = false) : F_spec_CosI x = F_spec_l06Ring := by
  unfold F_spec_CosI F_spec_l06Over F_spec_l06Fits F_spec_ValidInterval
  simp only [bindP_e, h, cond_f, Bool.not_false, cond_t]

theorem whole_bad : F_spec_l04Ok F_spec_l04Whole = false := by decide

/-- The parameter for a height is the reference's, or neither is bounded. -/
theorem param_or (k : I64) (y : Iv) : F_impl_inverseParameter k y = F_spec_l20Back k y ∨ (k.val = 13 ∧ F_spec_l04Ok y = false ∧ F_impl_inverseParameter k y = F_spec_l04Whole ∧ F_spec_l20Back k y = y) := by
  unfold F_impl_inverseParameter F_spec_l20Back
  simp only [bindP_e, eq_pseudoRadius, eq_DivI, eq_AsinI, eq_MulI, eq_HalfI]
  by_cases h : k.val = 13
  · have e : (k.val == 13) = true := by simp only [beq_iff_eq]; exact h
    simp only [e, cond_t]
    cases hy : F_spec_l04Ok y with
    | true => exact .inl (normal_ok hy)
    | false => exact .inr ⟨h, by first | rfl | trivial | exact hy, normal_bad hy, by first | rfl | trivial⟩
  · have e : (k.val == 13) = false := by simp only [beq_eq_false_iff_ne, ne_eq]; exact h
    simp only [e, cond_f]
    exact .inl trivial

theorem length_fst (k : I64) (x : Iv) : F_impl_parallelLength k x = (F_spec_l20Parallel k x).1 := by
  unfold F_impl_parallelLength F_spec_l20Parallel
  simp only [bindP_e, eq_pseudoRadius, eq_CosI, eq_times, eq_MulI, eq_DivI, eq_PiI, eq_Integer, eq_AddI]
  cases (k.val == 13) with
  | true => simp only [cond_t]
  | false =>
    cases (k.val == 14) with
    | true => simp only [cond_t, cond_f]
    | false => simp only [cond_f]

theorem length_param (k : I64) (y : Iv) : F_impl_parallelLength k (F_impl_inverseParameter k y) = (F_spec_l20Parallel k (F_spec_l20Back k y)).1 := by
  rcases param_or k y with h | ⟨hk, hy, h1, h2⟩
  · rw [h, length_fst]
  · rw [h1, h2, length_fst]
    unfold F_spec_l20Parallel
    have e : (k.val == 13) = true := by simp only [beq_iff_eq]; exact hk
    simp only [bindP_e, e, cond_t, cos_bad hy, cos_bad whole_bad]

theorem answers (a b : I64) (ha : a.val = 0 ∨ a.val = 1 ∨ a.val = 2) (hb : b.val = 0 ∨ b.val = 1 ∨ b.val = 2) : F_impl_NotAnswer (F_impl_OrAnswer a b) = (bif (a.val == 1) then c64 0 else (bif (b.val == 1) then c64 0 else (bif (b.val == 0) then (bif (a.val == 0) then c64 1 else c64 2) else c64 2))) := by
  have k : ∀ x : I64, x.val = 0 ∨ x.val = 1 ∨ x.val = 2 → x = c64 0 ∨ x = c64 1 ∨ x = c64 2 := fun x hx => by
    rcases hx with h | h | h
    · exact .inl (IK.eq h)
    · exact .inr (.inl (IK.eq h))
    · exact .inr (.inr (IK.eq h))
  rcases k a ha with rfl | rfl | rfl <;> rcases k b hb with rfl | rfl | rfl <;> rfl

theorem eq_OnMap (p : Pj) (q : Pn) : F_impl_OnMap p q = F_spec_OnMap p q := by
  unfold F_impl_OnMap F_spec_OnMap
  simp only [bindP_e, eq_isPseudoOne, length_param, eq_poleHeight, eq_AbsI2, eq_LessI, eq_PiI, eq_MulI]
  cases F_spec_l20Ok__pPj p with
  | false => simp only [Bool.not_false, cond_t]
  | true =>
    simp only [Bool.not_true, cond_f]
    rw [answers _ _ (LessI_val _ _) (LessI_val _ _)]
    generalize F_spec_LessI (F_spec_l20High p.kind) (F_spec_AbsI q.y) = a
    generalize F_spec_LessI (F_spec_MulI F_spec_PiI (F_spec_l20Parallel p.kind (F_spec_l20Back p.kind q.y)).1) (F_spec_AbsI q.x) = b
    cases (a.val == 1)
    · simp only [cond_f]
      cases (b.val == 1)
      · simp only [cond_f]
        cases (b.val == 0)
        · simp only [cond_f]
        · simp only [cond_t]
          cases (a.val == 0)
          · simp only [cond_f]
          · simp only [cond_t]
      · simp only [cond_t]
    · simp only [cond_t]

theorem eq_latitudeFor (k : I64) (x : Iv) : F_impl_latitudeFor k x = F_spec_l20Lat k x := by
  unfold F_impl_latitudeFor F_spec_l20Lat
  simp only [bindP_e, eq_DoubleI, eq_SinI, eq_AddI, eq_leftFactor, eq_DivI, eq_AsinI]

theorem lat_param (k : I64) (y : Iv) : F_impl_knownI (F_impl_latitudeFor k (F_impl_inverseParameter k y)) = bif F_spec_IsWhole (F_spec_l20Lat k (F_spec_l20Back k y)) then ((⟨(c64 0), (c64 0)⟩ : Iv), (c64 9)) else (F_spec_l20Lat k (F_spec_l20Back k y), (c64 0)) := by
  rw [known_if, eq_latitudeFor]
  rcases param_or k y with h | ⟨hk, hy, h1, h2⟩
  · rw [h]
  · rw [h1, h2]
    unfold F_spec_l20Lat
    have e : (k.val == 13) = true := by simp only [beq_iff_eq]; exact hk
    have w1 : F_spec_IsWhole F_spec_l04Whole = true := by decide
    have w2 : F_spec_IsWhole y = true := by unfold F_spec_IsWhole; rw [bindP_e, hy]; rfl
    simp only [e, cond_t, w1, w2]

theorem eq_PseudoInverse (p : Pj) (q : Pn) : F_impl_PseudoInverse p q = F_spec_PseudoInverse p q := by
  unfold F_impl_PseudoInverse F_spec_PseudoInverse
  simp only [bindP_e, eq_isPseudoOne, length_param, lat_param, eq_poleHeight, eq_AbsI2, eq_LessI, eq_PiI, eq_DivI, eq_RadiansOf, eq_AddI]
  have e9 : ((c64 9).val != 0) = true := by decide
  have e0 : ((c64 0).val != 0) = false := by decide
  cases F_spec_l20Ok__pPj p with
  | false => simp only [Bool.not_false, cond_t]
  | true =>
    simp only [Bool.not_true, cond_f]
    cases ((F_spec_LessI (F_spec_l20High p.kind) (F_spec_AbsI q.y)).val == 1)
    · simp only [cond_f]
      cases F_spec_IsWhole (F_spec_l20Lat p.kind (F_spec_l20Back p.kind q.y))
      · simp only [cond_f, e0]
      · simp only [cond_t, e9]
    · simp only [cond_t]

end Go.Proofs.YtcdkepbgjgcjfaaGreat.Abs
