/- Plain laws of the functions on numbers: what the program computes is what the reference computes. -/
import Derived.Test.YtebaobmmnkebaaaGreatQn
import Derived.Test.YtebaobmmnkebaaaGreatF3
set_option linter.unusedVariables false
set_option linter.unusedSimpArgs false
namespace Go.Proofs.YtebaobmmnkebaaaGreat.Abs
open Go

theorem eq_HalfI (a : Iv) : F_impl_HalfI a = F_spec_HalfI a := by
  unfold F_impl_HalfI F_spec_HalfI
  simp only [bindP_e, eq_IsWhole, eq_Whole]
  cases h : F_spec_l04Ok a with
  | false => simp only [Bool.not_false, cond_t]
  | true =>
    obtain ⟨h1, h2, h3⟩ := Ok4 h
    simp only [Bool.not_true, cond_f]
    rw [Make_ok (by rw [shr1_val, shr1_val, w64_val]; omega)]

theorem Ends_val {a : Iv} (h : F_spec_l04Ok a = true) : 0 ≤ (F_spec_l04Ends a).1.val ∧ (F_spec_l04Ends a).1.val ≤ (F_spec_l04Ends a).2.val ∧ (F_spec_l04Ends a).2.val < 1152921504606846976 := by
  obtain ⟨h1, h2, h3⟩ := Ok4 h
  unfold F_spec_l04Ends F_spec_l04Has
  simp only [bindP_e, eq_mn, eq_mx, sp_in, c64_v]
  have e1 : (w64 (0 - a.lo.val)).val = -a.lo.val := by rw [w64_val]; omega
  have e2 : (w64 (0 - a.hi.val)).val = -a.hi.val := by rw [w64_val]; omega
  have m1 := mx_spec a.lo (w64 (0 - a.lo.val))
  have m2 := mx_spec a.hi (w64 (0 - a.hi.val))
  rw [e1] at m1
  rw [e2] at m2
  generalize mx a.lo (w64 (0 - a.lo.val)) = p at *
  generalize mx a.hi (w64 (0 - a.hi.val)) = q at *
  have n1 := mx_spec p q
  have n2 := mn_spec p q
  cases (decide (a.lo.val ≤ 0) && decide (0 ≤ a.hi.val)) with
  | true => simp only [cond_t, c64_v]; omega
  | false => simp only [cond_f]; omega

theorem eq_at (n : I64) : F_impl_at n = F_spec_l05At n := Eq.trans rfl rfl

theorem bif_if {α : Type} (p : Prop) [Decidable p] (x y : α) : (bif decide p then x else y) = if p then x else y := by
  by_cases h : p <;> simp [h]

theorem bif_eq {α : Type} (a b : Int) (x y : α) : (bif (a == b) then x else y) = if a = b then x else y := by
  by_cases h : a = b
  · subst h; simp
  · have e : (a == b) = false := by simp only [beq_eq_false_iff_ne, ne_eq]; exact h
    rw [e, if_neg h, cond_f]

theorem abs_pos {a : I64} (h : -1152921504606846976 < a.val ∧ a.val < 1152921504606846976) : (F_impl_abs a).val = if a.val < 0 then -a.val else a.val := by
  unfold F_impl_abs
  have en : (w64 (0 - a.val)).val = -a.val := by rw [w64_val]; omega
  have m := mx_spec a (w64 (0 - a.val))
  rw [en] at m
  split <;> omega

theorem direction_cases {y x : Int} {α : Type} (A1 A2 B C D W : α) :
    (bif (y == 0) then (bif (x == 0) then W else (bif decide ((if y < 0 then -y else y) > (if x < 0 then -x else x)) then (bif decide (y < 0) then A1 else A2) else (bif decide (x > 0) then B else (bif decide (y < 0) then C else D)))) else (bif decide ((if y < 0 then -y else y) > (if x < 0 then -x else x)) then (bif decide (y < 0) then A1 else A2) else (bif decide (x > 0) then B else (bif decide (y < 0) then C else D)))) =
    if x = 0 ∧ y = 0 then W else if (if y < 0 then -y else y) > x ∧ (if y < 0 then -y else y) > -x then (if y < 0 then A1 else A2) else if x > 0 then B else if y < 0 then C else D := by
  simp only [bif_if, bif_eq]
  grind

end Go.Proofs.YtebaobmmnkebaaaGreat.Abs
