/- Plain laws of the functions on numbers: what the program computes is what the reference computes. -/
import Derived.Test.YtgofhiehdpggkaaGreatQn
import Derived.Test.YtgofhiehdpggkaaGreatF5
set_option linter.unusedVariables false
set_option linter.unusedSimpArgs false
namespace Go.Proofs.YtgofhiehdpggkaaGreat.Abs
open Go

theorem eq_DoubleI (a : Iv) : F_impl_DoubleI a = F_spec_DoubleI a := by
  unfold F_impl_DoubleI F_spec_DoubleI
  rw [bindP_e, eq_AddI]
  unfold F_spec_AddI
  simp only [bindP_e]
  have e1 : a.lo.val + a.lo.val = 2 * a.lo.val := by omega
  have e2 : a.hi.val + a.hi.val = 2 * a.hi.val := by omega
  rw [e1, e2]
  cases F_spec_l04Ok a
  · simp only [Bool.not_false, cond_t]
  · simp only [Bool.not_true, cond_f]

theorem eq_HalfI (a : Iv) : F_impl_HalfI a = F_spec_HalfI a := by
  unfold F_impl_HalfI F_spec_HalfI
  simp only [bindP_e, eq_IsWhole, eq_Whole]
  cases h : F_spec_l04Ok a with
  | false => simp only [Bool.not_false, cond_t]
  | true =>
    obtain ⟨h1, h2, h3⟩ := Ok4 h
    simp only [Bool.not_true, cond_f]
    rw [Make_ok (by rw [shr1_val, shr1_val, w64_val]; omega)]

theorem Ends_val {a : Iv} (h : F_spec_l04Ok a = true) : 0 ≤ (F_spec_l04Ends a).1.val ∧ (F_spec_l04Ends a).1.val ≤ (F_spec_l04Ends a).2.val ∧ (F_spec_l04Ends a).2.val < 1152921504606846976 := by
  obtain ⟨h1, h2, h3⟩ := Ok4 h
  unfold F_spec_l04Ends F_spec_l04Has
  simp only [bindP_e, eq_mn, eq_mx, sp_in, c64_v]
  have e1 : (w64 (0 - a.lo.val)).val = -a.lo.val := by rw [w64_val]; omega
  have e2 : (w64 (0 - a.hi.val)).val = -a.hi.val := by rw [w64_val]; omega
  have m1 := mx_spec a.lo (w64 (0 - a.lo.val))
  have m2 := mx_spec a.hi (w64 (0 - a.hi.val))
  rw [e1] at m1
  rw [e2] at m2
  generalize mx a.lo (w64 (0 - a.lo.val)) = p at *
  generalize mx a.hi (w64 (0 - a.hi.val)) = q at *
  have n1 := mx_spec p q
  have n2 := mn_spec p q
  cases (decide (a.lo.val ≤ 0) && decide (0 ≤ a.hi.val)) with
  | true => simp only [cond_t, c64_v]; omega
  | false => simp only [cond_f]; omega

theorem eq_AbsI2 (a : Iv) : F_impl_AbsI a = F_spec_AbsI a := by
  unfold F_spec_AbsI
  simp only [bindP_e]
  cases h : F_spec_l04Ok a with
  | false =>
    unfold F_impl_AbsI
    simp only [bindP_e, eq_IsWhole, h, Bool.not_false, cond_t, eq_Whole]
  | true =>
    obtain ⟨h1, h2, h3⟩ := Ends_val h
    simp only [Bool.not_true, cond_f]
    rw [eq_AbsI h, Make_ok (by omega)]

theorem AbsI_val {a : Iv} (h : F_spec_l04Ok a = true) : F_spec_AbsI a = ⟨(F_spec_l04Ends a).1, (F_spec_l04Ends a).2⟩ := by rw [← eq_AbsI2, eq_AbsI h]

theorem eq_LessI (a b : Iv) : F_impl_LessI a b = F_spec_LessI a b := by
  unfold F_impl_LessI F_spec_LessI
  simp only [bindP_e, eq_areBounded]
  cases F_spec_l04Ok a
  · simp only [Bool.false_and, Bool.not_false, cond_t]
  · cases F_spec_l04Ok b
    · simp only [Bool.and_false, Bool.not_false, Bool.not_true, cond_t, cond_f]
    · simp only [Bool.and_self, Bool.not_true, cond_f]

theorem LessI_val (a b : Iv) : (F_spec_LessI a b).val = 0 ∨ (F_spec_LessI a b).val = 1 ∨ (F_spec_LessI a b).val = 2 := by
  unfold F_spec_LessI
  simp only [bindP_e]
  cases F_spec_l04Ok a
  · exact .inr (.inr rfl)
  · cases F_spec_l04Ok b
    · exact .inr (.inr rfl)
    · cases decide (a.hi.val < b.lo.val)
      · cases decide (a.lo.val ≥ b.hi.val)
        · exact .inr (.inr rfl)
        · exact .inl rfl
      · exact .inr (.inl rfl)

theorem eq_CircleAt (n : I64) : F_impl_CircleAt n = F_spec_CircleAt n := by
  unfold F_impl_CircleAt F_spec_CircleAt F_spec_WideMul F_impl_at F_spec_Whole
  simp only [bindP_e, eq_in, eq_Whole, eq_SqrtFloor, eq_WideMul]
  cases F_spec_l00In n (c64 (-4294967296)) (c64 4294967296)
  · simp only [Bool.not_false, cond_t]
  · simp only [Bool.not_true, cond_f]
    generalize F_spec_SqrtFloor (w64 (4294967296 - n.val)) (w64 (4294967296 + n.val)) = p
    generalize F_spec_l02Mul p.1 p.1 = a
    generalize F_spec_l02Mul (w64 (4294967296 - n.val)) (w64 (4294967296 + n.val)) = b
    cases (a.hi.val == b.hi.val && a.lo.val == b.lo.val)
    · simp only [Bool.not_false, cond_t, cond_f]
    · simp only [Bool.not_true, cond_t, cond_f]

theorem eq_ArcSeries (x : Iv) : F_impl_ArcSeries x = F_spec_ArcSeries x := by
  unfold F_impl_ArcSeries F_spec_ArcSeries F_spec_Whole
  have e : F_impl_tiny = F_spec_l06Tiny := Eq.trans rfl rfl
  simp only [bindP_e, eq_InsideI, eq_Whole, eq_SqrI, eq_Quotient, eq_MulI, eq_SubI, eq_AddI, e]

theorem eq_halved (x : Iv) : F_impl_halved x = F_spec_l07Halve x := by
  unfold F_impl_halved F_spec_l07Halve
  simp only [bindP_e, eq_Integer, eq_SqrI, eq_AddI, eq_SqrtI, eq_DivI]

theorem eq_fourfold (x : Iv) : F_impl_fourfold x = F_spec_l07Core x := by
  unfold F_impl_fourfold F_spec_l07Core
  simp only [bindP_e, eq_halved, eq_ArcSeries, eq_DoubleI]

theorem eq_isOpen (n : I64) : F_impl_isOpen n = F_spec_l07Fix n := rfl

theorem open_val {n : I64} (h : F_spec_l07Fix n = true) : -1152921504606846976 < n.val ∧ n.val < 1152921504606846976 := by
  unfold F_spec_l07Fix at h
  by_cases q : -1152921504606846976 < n.val
  · simp only [q, decide_true, cond_t, decide_eq_true_eq] at h
    exact ⟨q, h⟩
  · simp only [q, decide_false, cond_f] at h
    cases h

theorem eq_at (n : I64) : F_impl_at n = F_spec_l05At n := Eq.trans rfl rfl

theorem atan_body (n : I64) (f g : I64 → Iv) (h : f (w64 (0 - n.val)) = g (w64 (0 - n.val)) ∨ ¬ n.val < 0 ∨ F_spec_l07Fix n = false) : F_impl_AtanAt_b f n = F_spec_AtanAt_b g n := by
  unfold F_impl_AtanAt_b F_spec_AtanAt_b
  simp only [bindP_e, eq_isOpen, eq_halfCircle, eq_NegI, eq_TurnI, eq_Integer, eq_at, eq_DivI, eq_fourfold, eq_SubI]
  rcases h with h | h | h
  · rw [h]
  · rw [decide_eq_false h]; simp only [cond_f]
  · rw [h]; simp only [Bool.not_false, cond_t]

theorem eq_AtanAt (n : I64) : F_impl_AtanAt n = F_spec_AtanAt n := by
  unfold F_impl_AtanAt F_spec_AtanAt F_impl_AtanAt_r F_spec_AtanAt_r
  refine atan_body n _ _ ?_
  by_cases h : n.val < 0
  · cases ho : F_spec_l07Fix n with
    | false => exact .inr (.inr rfl)
    | true =>
      left
      obtain ⟨h1, h2⟩ := open_val ho
      unfold F_impl_AtanAt_r F_spec_AtanAt_r
      exact atan_body _ _ _ (.inr (.inl (by rw [w64_val]; omega)))
  · exact .inr (.inl h)

theorem eq_AtanI (x : Iv) : F_impl_AtanI x = F_spec_AtanI x := by
  unfold F_impl_AtanI F_spec_AtanI F_spec_IsWhole
  simp only [bindP_e, eq_IsWhole, eq_halfCircle, eq_AtanAt, eq_HullI]

theorem eq_AsinAt (n : I64) : F_impl_AsinAt n = F_spec_AsinAt n := by
  unfold F_impl_AsinAt F_spec_AsinAt F_spec_Whole
  simp only [bindP_e, eq_in, eq_Whole, eq_at, eq_Integer, eq_CircleAt, eq_AddI, eq_DivI, eq_AtanI, eq_DoubleI, eq_halfCircle, eq_MeetI]

theorem eq_AsinI (x : Iv) : F_impl_AsinI x = F_spec_AsinI x := by
  unfold F_impl_AsinI F_spec_AsinI F_spec_Whole
  have e : F_impl_ring = F_spec_l06Ring := Eq.trans rfl rfl
  simp only [bindP_e, e, eq_MeetI, eq_Whole, eq_AsinAt, eq_HullI]

theorem bif_if {α : Type} (p : Prop) [Decidable p] (x y : α) : (bif decide p then x else y) = if p then x else y := by
  by_cases h : p <;> simp [h]

theorem bif_eq {α : Type} (a b : Int) (x y : α) : (bif (a == b) then x else y) = if a = b then x else y := by
  by_cases h : a = b
  · subst h; simp
  · have e : (a == b) = false := by simp only [beq_eq_false_iff_ne, ne_eq]; exact h
    rw [e, if_neg h, cond_f]

theorem abs_pos {a : I64} (h : -1152921504606846976 < a.val ∧ a.val < 1152921504606846976) : (F_impl_abs a).val = if a.val < 0 then -a.val else a.val := by
  unfold F_impl_abs
  have en : (w64 (0 - a.val)).val = -a.val := by rw [w64_val]; omega
  have m := mx_spec a (w64 (0 - a.val))
  rw [en] at m
  split <;> omega

theorem direction_cases {y x : Int} {α : Type} (A1 A2 B C D W : α) :
    (bif (y == 0) then (bif (x == 0) then W else (bif decide ((if y < 0 then -y else y) > (if x < 0 then -x else x)) then (bif decide (y < 0) then A1 else A2) else (bif decide (x > 0) then B else (bif decide (y < 0) then C else D)))) else (bif decide ((if y < 0 then -y else y) > (if x < 0 then -x else x)) then (bif decide (y < 0) then A1 else A2) else (bif decide (x > 0) then B else (bif decide (y < 0) then C else D)))) =
    if x = 0 ∧ y = 0 then W else if (if y < 0 then -y else y) > x ∧ (if y < 0 then -y else y) > -x then (if y < 0 then A1 else A2) else if x > 0 then B else if y < 0 then C else D := by
  simp only [bif_if, bif_eq]
  grind

theorem eq_DirectionAt (y x : I64) : F_impl_DirectionAt y x = F_spec_DirectionAt y x := by
  unfold F_impl_DirectionAt F_spec_DirectionAt F_spec_Whole
  simp only [bindP_e, eq_isOpen, eq_Whole, eq_at, eq_TurnI, eq_DivI, eq_AtanI, eq_SubI, eq_AddI]
  cases hy : F_spec_l07Fix y with
  | false => simp only [Bool.not_false, cond_t]
  | true =>
    cases hx : F_spec_l07Fix x with
    | false => simp only [Bool.not_false, Bool.not_true, cond_t, cond_f]
    | true =>
      have yb := open_val hy
      have xb := open_val hx
      have ey : (w64 (0 - y.val)).val = -y.val := by rw [w64_val]; omega
      have ex : (w64 (0 - x.val)).val = -x.val := by rw [w64_val]; omega
      simp only [Bool.not_true, cond_f, abs_pos yb, abs_pos xb, ey, ex]
      rw [direction_cases]
      generalize F_spec_SubI (F_spec_TurnI (c64 (-1))) (F_spec_AtanI (F_spec_DivI (F_spec_l05At x) (F_spec_l05At y))) = A1
      generalize F_spec_SubI (F_spec_TurnI (c64 1)) (F_spec_AtanI (F_spec_DivI (F_spec_l05At x) (F_spec_l05At y))) = A2
      generalize F_spec_AtanI (F_spec_DivI (F_spec_l05At y) (F_spec_l05At x)) = B
      generalize F_spec_AddI B (F_spec_TurnI (c64 (-2))) = C
      generalize F_spec_AddI B (F_spec_TurnI (c64 2)) = D
      generalize F_spec_l04Whole = W
      generalize y.val = y
      generalize x.val = x
      simp only [bif_if, bif_eq]
      grind

theorem eq_DirectionI (y x : Iv) : F_impl_DirectionI y x = F_spec_DirectionI y x := by
  unfold F_impl_DirectionI F_spec_DirectionI F_spec_Whole F_spec_IsWhole
  simp only [bindP_e, eq_areBounded, eq_Whole, eq_HasI, eq_DirectionAt, eq_HullI]
  cases F_spec_l04Ok y
  · simp only [Bool.false_and, Bool.not_false, cond_t]
  · cases F_spec_l04Ok x
    · simp only [Bool.and_false, Bool.not_false, Bool.not_true, cond_t, cond_f]
    · simp only [Bool.and_self, Bool.not_true, cond_f]

end Go.Proofs.YtgofhiehdpggkaaGreat.Abs
