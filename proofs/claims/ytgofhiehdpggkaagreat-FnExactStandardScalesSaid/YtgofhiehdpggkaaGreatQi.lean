/- Plain laws of the functions on numbers: what the program computes is what the reference computes. -/
import Derived.Test.YtgofhiehdpggkaaGreatQh
import Derived.Test.YtgofhiehdpggkaaGreatF5
set_option linter.unusedVariables false
set_option linter.unusedSimpArgs false
namespace Go.Proofs.YtgofhiehdpggkaaGreat.Abs
open Go

theorem neg_fix (a : I64) (h : F_spec_l04Ok ⟨a, a⟩ = true) : True := trivial

theorem eq_SubI (a b : Iv) : F_impl_SubI a b = F_spec_SubI a b := by
  unfold F_impl_SubI F_spec_SubI
  simp only [bindP_eq, eq_NegI, eq_AddI]
  unfold F_spec_AddI F_spec_NegI
  simp only [bindP_eq]
  cases ha : F_spec_l04Ok a with
  | false => rfl
  | true =>
    cases hb : F_spec_l04Ok b with
    | false => rfl
    | true =>
      obtain ⟨h1, h2, h3⟩ := Ok4 hb
      simp only [Bool.not_true, cond_false]
      rw [Make_ok (by simp only [w64_val]; omega)]
      have ho : F_spec_l04Ok ⟨w64 (0 - b.hi.val), w64 (0 - b.lo.val)⟩ = true := Ok4_of (by simp only [w64_val]; omega)
      simp only [ho, Bool.not_true, cond_false]
      have e1 : w64 (a.lo.val + (w64 (0 - b.hi.val)).val) = w64 (a.lo.val - b.hi.val) := IK.eq (by simp only [w64_val]; omega)
      have e2 : w64 (a.hi.val + (w64 (0 - b.lo.val)).val) = w64 (a.hi.val - b.lo.val) := IK.eq (by simp only [w64_val]; omega)
      rw [e1, e2]

theorem eq_HasI (a : Iv) (n : I64) : F_impl_HasI a n = F_spec_HasI a n := by
  unfold F_impl_HasI F_spec_HasI F_impl_IsWhole F_spec_l04Has
  simp only [bindP_eq, eq_Valid, eq_in]

theorem eq_DivDown (a b : I64) : F_impl_DivDown a b = F_spec_l03DivDown a b := by
  unfold F_impl_DivDown F_spec_l03DivDown
  simp only [bindP_eq, eq_ValidFix, eq_MulDivFloor, eq_fixed]
  by_cases h : b.val = 0
  · have hb : (b.val == 0) = true := by simpa using h
    have hn : decide (b.val < 0) = false := by simp [h]
    simp only [hb, hn, cond_true, cond_false]
    rw [MulDivFloor_neg _ _ _ (by omega)]
    rfl
  · have hb : (b.val == 0) = false := by simpa using h
    simp only [hb, cond_false]

theorem zero_neg : w64 (0 - (c64 0).val) = c64 0 := IK.eq (by decide)

theorem End_ok (a : I64) (b : Bool) : ((F_spec_l03End a b).2 = true ∧ -1152921504606846976 ≤ (F_spec_l03End a b).1.val ∧ (F_spec_l03End a b).1.val ≤ 1152921504606846976) ∨ F_spec_l03End a b = (c64 0, false) := by
  unfold F_spec_l03End
  simp only [bindP_eq]
  cases b with
  | false => exact .inr rfl
  | true =>
    cases h : F_spec_l03Ok a with
    | false => exact .inr rfl
    | true =>
      left
      rw [sp_Ok3, Bool.and_eq_true] at h
      exact ⟨rfl, of_decide_eq_true h.1, of_decide_eq_true h.2⟩

theorem DivDown_ok (a b : I64) : ((F_spec_l03DivDown a b).2 = true ∧ -1152921504606846976 ≤ (F_spec_l03DivDown a b).1.val ∧ (F_spec_l03DivDown a b).1.val ≤ 1152921504606846976) ∨ F_spec_l03DivDown a b = (c64 0, false) := by
  unfold F_spec_l03DivDown
  simp only [bindP_eq]
  cases F_spec_l03Ok a with
  | false => exact .inr rfl
  | true =>
    cases F_spec_l03Ok b with
    | false => exact .inr rfl
    | true =>
      cases (b.val == 0) with
      | true => exact .inr rfl
      | false =>
        cases decide (b.val < 0) with
        | true => exact End_ok _ _
        | false => exact End_ok _ _

theorem DivDown_bad {a b : I64} (h : F_spec_l03Ok b = false) : F_spec_l03DivDown a b = (c64 0, false) := by
  unfold F_spec_l03DivDown
  simp only [bindP_eq, h]
  cases F_spec_l03Ok a <;> rfl

theorem eq_DivUp (a b : I64) : F_impl_DivUp a b = F_spec_l03DivUp a b := by
  unfold F_impl_DivUp F_spec_l03DivUp
  simp only [bindP_eq, eq_ValidFix, eq_DivDown]
  cases F_spec_l03Ok a with
  | false => rfl
  | true =>
    cases hb : F_spec_l03Ok b with
    | false =>
      rw [DivDown_bad hb]
      simp only [zero_neg]
      rfl
    | true => rfl

theorem DivUp_ok (a b : I64) : ((F_spec_l03DivUp a b).2 = true ∧ -1152921504606846976 ≤ (F_spec_l03DivUp a b).1.val ∧ (F_spec_l03DivUp a b).1.val ≤ 1152921504606846976) ∨ F_spec_l03DivUp a b = (c64 0, false) := by
  unfold F_spec_l03DivUp
  simp only [bindP_eq]
  cases F_spec_l03Ok a with
  | false => exact .inr rfl
  | true =>
    rcases DivDown_ok (w64 (0 - a.val)) b with ⟨h, h1, h2⟩ | h
    · left
      simp only [Bool.not_true, cond_false, w64_val] at *
      refine ⟨h, ?_⟩
      omega
    · right
      rw [h]
      simp only [zero_neg]
      rfl

theorem eq_DivI (a b : Iv) : F_impl_DivI a b = F_spec_DivI a b := by
  unfold F_impl_DivI F_spec_DivI F_impl_combine__impl_DivDown__impl_DivUp F_impl_HasI F_impl_IsWhole
  simp only [bindP_eq, eq_areBounded, eq_Whole, eq_DivDown, eq_DivUp, eq_bounded, eq_mn, eq_mx, eq_Valid]
  cases F_spec_l04Ok a with
  | false => rfl
  | true =>
    cases F_spec_l04Ok b with
    | false => rfl
    | true =>
      unfold F_spec_l04Has
      simp only [bindP_eq, eq_in, Bool.and_self, Bool.not_true, cond_false]
      cases F_spec_l00In (c64 0) b.lo b.hi with
      | true => rfl
      | false =>
        simp only [cond_false]
        rcases DivDown_ok a.lo b.lo with ⟨h1, h2, h3⟩ | h1
        · rcases DivUp_ok a.lo b.lo with ⟨k1, k2, k3⟩ | k1
          · simp only [mn_top _ h3, mx_low _ k2, mn_self, mx_self]
          · simp [k1]
        · simp [h1]

end Go.Proofs.YtgofhiehdpggkaaGreat.Abs
