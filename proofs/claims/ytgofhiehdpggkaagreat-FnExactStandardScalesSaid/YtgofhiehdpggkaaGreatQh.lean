/- Plain laws of the functions on numbers: what the program computes is what the reference computes. -/
import Derived.Test.YtgofhiehdpggkaaGreatQg
import Derived.Test.YtgofhiehdpggkaaGreatF5
set_option linter.unusedVariables false
set_option linter.unusedSimpArgs false
namespace Go.Proofs.YtgofhiehdpggkaaGreat.Abs
open Go

theorem sp_Int (w : Wd) : (∃ n : I64, n.val = w.z ∧ F_spec_l02Int w = (n, true)) ∨ F_spec_l02Int w = (c64 0, false) := by
  have h1 := w.lo.lo
  have h2 := w.lo.hi
  unfold F_spec_l02Int
  simp only [bindP_eq]
  by_cases h : ((F_spec_l02Of (w64 w.lo.val)).hi.val == w.hi.val && (F_spec_l02Of (w64 w.lo.val)).lo.val == w.lo.val) = true
  · left
    refine ⟨w64 w.lo.val, ?_, by rw [h]; rfl⟩
    simp only [Bool.and_eq_true, beq_iff_eq] at h
    have e := h.1
    unfold F_spec_l02Of at e
    simp only [Wd.z, w64_val]
    by_cases hn : (w64 w.lo.val).val < 0
    · simp only [hn, decide_true, cond_true, c64_val] at e
      rw [w64_val] at hn
      omega
    · simp only [hn, decide_false, cond_false, c64_val] at e
      rw [w64_val] at hn
      omega
  · right
    have : ((F_spec_l02Of (w64 w.lo.val)).hi.val == w.hi.val && (F_spec_l02Of (w64 w.lo.val)).lo.val == w.lo.val) = false := by simpa using h
    rw [this]
    rfl

theorem End_false (a : I64) : F_spec_l03End a false = (c64 0, false) := rfl

theorem End_out (a : I64) (h : a.val < -1152921504606846976 ∨ 1152921504606846976 < a.val) : F_spec_l03End a true = (c64 0, false) := by
  unfold F_spec_l03End
  have : F_spec_l03Ok a = false := by
    rw [sp_Ok3]
    simp
    omega
  simp [bindP_eq, this]

theorem MulDivFloor_neg (a b d : I64) (h : d.val ≤ 0) : F_spec_MulDivFloor a b d = (c64 0, false) := by
  unfold F_spec_MulDivFloor
  simp only [h, decide_true, cond_true]

theorem eq_FixFloor (a d : I64) : F_impl_FixFloor a d = F_spec_l03Floor a d := by
  unfold F_impl_FixFloor F_spec_l03Floor
  simp only [bindP_eq, eq_MulDivFloor, eq_fixed]
  by_cases h : d.val ≤ 0
  · simp only [h, decide_true, cond_true]
    rw [MulDivFloor_neg _ _ _ h]
    rfl
  · simp only [h, decide_false, cond_false]

theorem eq_FixCeil (a d : I64) : F_impl_FixCeil a d = F_spec_l03Ceil a d := by
  unfold F_impl_FixCeil F_spec_l03Ceil F_impl_mulDivCeil
  simp only [bindP_eq, eq_fixed, eq_WideMul, eq_WideInt]
  by_cases h : d.val ≤ 0
  · rw [WideDiv_neg _ _ h]
    simp only [h, decide_true, cond_true]
    rfl
  · have hd : 0 < d.val := by omega
    have dh := d.hi
    have ah := a.hi
    have al := a.lo
    rw [eq_WideDiv _ _ hd]
    simp only [h, decide_false, cond_false, Bool.not_true]
    unfold F_spec_MulDivFloor
    simp only [h, decide_false, cond_false, bindP_eq]
    have hz := sp_Mul a (c64 4294967296)
    rw [c64_val] at hz
    obtain ⟨e1, e2, e3⟩ := sp_Div (F_spec_l02Mul a (c64 4294967296)) d hd (by rw [hz]; omega) (by rw [hz]; omega)
    rw [hz] at e1
    generalize F_spec_l02Div (F_spec_l02Mul a (c64 4294967296)) d = p at *
    obtain ⟨q, r⟩ := p
    simp only at *
    rcases sp_Int q with ⟨n, hn, hq⟩ | hq
    · rw [hq]
      rw [← hn] at e1
      simp only [Bool.not_true, cond_false]
      have nl := n.lo
      have nh := n.hi
      by_cases hr : r.val = 0
      · have hb : decide (r.val > 0) = false := by simp [hr]
        have hne : ((w64 (n.val * d.val)).val != (w64 (a.val * 4294967296)).val) = false := by
          have : n.val * d.val = a.val * 4294967296 := by omega
          simp [this]
        simp only [hb, hne, cond_false]
      · have hb : decide (r.val > 0) = true := by simp; omega
        have hne : ((w64 (n.val * d.val)).val != (w64 (a.val * 4294967296)).val) = true := by
          have : n.val * d.val = a.val * 4294967296 - r.val := by omega
          rw [this]
          simp only [w64_val, bne_iff_ne, ne_eq]
          omega
        simp only [hb, hne, cond_true]
        by_cases hx : n.val = 9223372036854775807
        · have hx' : (n.val == 9223372036854775807) = true := by simpa using hx
          rw [hx', cond_true]
          have ev : (w64 (n.val + 1)).val = -9223372036854775808 := by rw [w64_val]; omega
          rw [End_out (w64 (n.val + 1)) (by rw [ev]; omega)]
          rfl
        · have hx' : (n.val == 9223372036854775807) = false := by simpa using hx
          rw [hx', cond_false]
    · rw [hq]
      rfl

theorem make_pair (p q : I64 × Bool) : (bif p.2 then F_impl_bounded p.1 q.1 q.2 else F_impl_bounded p.1 q.1 false) = (bif (!p.2) then F_spec_l04Whole else (bif (!q.2) then F_spec_l04Whole else F_spec_l04Make p.1 q.1)) := by
  obtain ⟨a, b⟩ := p
  obtain ⟨c, d⟩ := q
  cases b with
  | false => rfl
  | true =>
    cases d with
    | false => rfl
    | true => exact eq_bounded a c

theorem eq_Quotient (a b : I64) : F_impl_Quotient a b = F_spec_Quotient a b := by
  unfold F_impl_Quotient F_spec_Quotient
  simp only [bindP_eq, eq_FixFloor, eq_FixCeil, make_pair, eq_Whole]
  have al := a.lo
  have ah := a.hi
  have bl := b.lo
  have bh := b.hi
  by_cases h : b.val < 0
  · simp only [h, decide_true, cond_true]
    by_cases h1 : a.val = -9223372036854775808
    · have e1 : (a.val == -9223372036854775808) = true := by simpa using h1
      have e2 : ((w64 (0 - a.val)).val == -9223372036854775808) = true := by
        have : (w64 (0 - a.val)).val = -9223372036854775808 := by rw [w64_val]; omega
        simpa using this
      rw [e1, e2]
      simp only [cond_true]
      cases decide ((w64 (0 - b.val)).val < 0) <;> rfl
    · have e1 : (a.val == -9223372036854775808) = false := by simpa using h1
      have e2 : ((w64 (0 - a.val)).val == -9223372036854775808) = false := by
        have : (w64 (0 - a.val)).val ≠ -9223372036854775808 := by rw [w64_val]; omega
        simpa using this
      rw [e1, e2]
      simp only [cond_false]
      by_cases h2 : b.val = -9223372036854775808
      · have e3 : (b.val == -9223372036854775808) = true := by simpa using h2
        have e4 : decide ((w64 (0 - b.val)).val < 0) = true := by
          have : (w64 (0 - b.val)).val < 0 := by rw [w64_val]; omega
          simpa using this
        simp only [e3, e4, cond_true, cond_false]
      · have e3 : (b.val == -9223372036854775808) = false := by simpa using h2
        have e4 : decide ((w64 (0 - b.val)).val < 0) = false := by
          have : ¬ (w64 (0 - b.val)).val < 0 := by rw [w64_val]; omega
          simpa using this
        simp only [e3, e4, cond_true, cond_false]
  · simp only [h, decide_false, cond_false]

theorem Ok4 {a : Iv} (h : F_spec_l04Ok a = true) : -1152921504606846976 < a.lo.val ∧ a.lo.val ≤ a.hi.val ∧ a.hi.val < 1152921504606846976 := by
  unfold F_spec_l04Ok at h
  by_cases q : -1152921504606846976 < a.lo.val
  · by_cases q2 : a.lo.val ≤ a.hi.val
    · by_cases q3 : a.hi.val < 1152921504606846976
      · exact ⟨q, q2, q3⟩
      · simp [q3] at h
    · simp [q2] at h
  · simp [q] at h

theorem Ok4_of {a : Iv} (h : -1152921504606846976 < a.lo.val ∧ a.lo.val ≤ a.hi.val ∧ a.hi.val < 1152921504606846976) : F_spec_l04Ok a = true := by
  unfold F_spec_l04Ok
  simp only [h.1, h.2.1, h.2.2, decide_true, cond_true]

theorem Make_ok {a b : I64} (h : -1152921504606846976 < a.val ∧ a.val ≤ b.val ∧ b.val < 1152921504606846976) : F_spec_l04Make a b = ⟨a, b⟩ := by
  unfold F_spec_l04Make
  have : F_spec_l04Ok ⟨a, b⟩ = true := Ok4_of h
  simp only [bindP_eq, this, Bool.not_true, cond_false]

theorem eq_NegI (a : Iv) : F_impl_NegI a = F_spec_NegI a := by
  unfold F_impl_NegI F_spec_NegI F_impl_IsWhole
  simp only [bindP_eq, eq_Valid, eq_Whole]
  cases h : F_spec_l04Ok a with
  | false => rfl
  | true =>
    obtain ⟨h1, h2, h3⟩ := Ok4 h
    simp only [Bool.not_true, cond_false]
    rw [Make_ok (by simp only [w64_val]; omega)]

theorem eq_One : F_impl_Integer (c64 1) = F_spec_Integer (c64 1) := by
  unfold F_impl_Integer F_spec_Integer
  simp only [bindP_eq, eq_bounded, eq_Whole]
  rfl

end Go.Proofs.YtgofhiehdpggkaaGreat.Abs
