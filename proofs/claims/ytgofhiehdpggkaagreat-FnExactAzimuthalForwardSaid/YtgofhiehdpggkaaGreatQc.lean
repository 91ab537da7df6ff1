/- Plain laws of the functions on numbers: what the program computes is what the reference computes. -/
import Derived.Test.YtgofhiehdpggkaaGreatQb
import Derived.Test.YtgofhiehdpggkaaGreatF5
set_option linter.unusedVariables false
set_option linter.unusedSimpArgs false
namespace Go.Proofs.YtgofhiehdpggkaaGreat.Abs
open Go

theorem eq_WideInt (w : Wd) : F_impl_WideInt w = F_spec_l02Int w := by
  have e : ∀ n : I64, F_impl_WideOf n = F_spec_l02Of n := fun n => by
    have h1 := n.lo
    have h2 := n.hi
    unfold F_impl_WideOf F_spec_l02Of
    have h : (ishr n 63).val = if n.val < 0 then -1 else 0 := by
      rw [ishr_val, Int.fdiv_eq_ediv_of_nonneg _ (by decide)]
      show n.val / 9223372036854775808 = _
      split <;> omega
    by_cases hn : n.val < 0
    · have e2 : ishr n 63 = c64 (-1) := IK.eq (by rw [h, if_pos hn]; rfl)
      simp [hn, e2]
    · have e2 : ishr n 63 = c64 0 := IK.eq (by rw [h, if_neg hn]; rfl)
      simp [hn, e2]
  unfold F_impl_WideInt F_spec_l02Int
  rw [e]

theorem shr0 {k : IntKind} (x : IK k) : ishr x 0 = x := IK.eq (by simp [ishr_val, Int.fdiv_one])

theorem eq_Shift (w : Wd) (n : I64) (h0 : 0 ≤ n.val) (h1 : n.val ≤ 127) : F_impl_WideShift w n = F_spec_l02Shift w n := by
  have e1 : (F_impl_within n (c64 0) (c64 127)) = true := by
    rw [sp_within]
    simp [c64_val, h0, h1]
  have eu : (wu64 n.val).val = n.val := by rw [wu64_val]; omega
  unfold F_impl_WideShift F_spec_l02Shift
  simp only [bindP_eq, e1, eu]
  by_cases hz : n.val = 0
  · have hl : (ior .u64 w.lo.val (ishl .u64 (wu64 w.hi.val).val 64).val) = w.lo := by
      have : (ishl .u64 (wu64 w.hi.val).val 64).val = 0 := by
        show IntKind.u64.wrap ((wu64 w.hi.val).val * 2 ^ 64) = 0
        rw [IntKind.wrap_u64]
        omega
      rw [this]
      refine IK.eq ?_
      have b1 := w.lo.lo
      have b2 := w.lo.hi
      show IntKind.u64.wrap ((BitVec.ofInt 64 w.lo.val ||| BitVec.ofInt 64 0).toNat : Int) = w.lo.val
      have : BitVec.ofInt 64 0 = 0#64 := by decide
      rw [this, BitVec.or_zero, BitVec.toNat_ofInt, IntKind.wrap_u64]
      omega
    have e64 : (w64 (64 - n.val)).val = 64 := by rw [w64_val]; omega
    rw [e64]
    simp only [hz, shr0, hl]
    simp
  · have hb : (n.val == 0) = false := by simpa using hz
    rw [hb]
    by_cases hs : n.val < 64
    · have e2 : (wu64 (w64 (64 - n.val)).val).val = (w64 (64 - n.val)).val := by simp only [wu64_val, w64_val]; omega
      have : ¬ (n.val ≥ 64) := by omega
      simp [hs, this, e2]
    · have e2 : (wu64 (w64 (n.val - 64)).val).val = (w64 (n.val - 64)).val := by simp only [wu64_val, w64_val]; omega
      have : n.val ≥ 64 := by omega
      simp [hs, this, e2]

theorem eq_in (a b c : I64) : F_impl_within a b c = F_spec_l00In a b c := rfl

theorem eq_MulFloor (a b n : I64) : F_impl_MulFloor a b n = F_spec_MulFloor a b n := by
  unfold F_impl_MulFloor F_spec_MulFloor
  simp only [bindP_eq, eq_in, eq_WideMul, eq_WideInt]
  cases h : F_spec_l00In n (c64 0) (c64 126) with
  | false => rfl
  | true =>
    rw [sp_in, Bool.and_eq_true] at h
    have h1 : 0 ≤ n.val := of_decide_eq_true h.1
    have h2 : n.val ≤ 126 := of_decide_eq_true h.2
    rw [eq_Shift _ _ h1 (Int.le_trans h2 (by decide))]

theorem eq_ValidFix (a : I64) : F_impl_ValidFix a = F_spec_l03Ok a := rfl

theorem sp_Ok3 (a : I64) : F_spec_l03Ok a = (decide (-1152921504606846976 ≤ a.val) && decide (a.val ≤ 1152921504606846976)) := by
  unfold F_spec_l03Ok
  rw [bindP_eq, sp_in]
  rfl

theorem eq_fixed (a : I64) (b : Bool) : F_impl_fixed a b = F_spec_l03End a b := rfl

theorem eq_MulDown (a b : I64) : F_impl_MulDown a b = F_spec_l03MulDown a b := by
  unfold F_impl_MulDown F_spec_l03MulDown
  simp only [eq_ValidFix, eq_MulFloor, eq_fixed]

theorem w64_id (x : I64) : w64 x.val = x := IK.eq (by rw [w64_val]; have := x.lo; have := x.hi; omega)

/-- What is well is a fix; what is not is zero. -/
theorem MulDown_ok (a b : I64) : ((F_spec_l03MulDown a b).2 = true ∧ -1152921504606846976 ≤ (F_spec_l03MulDown a b).1.val ∧ (F_spec_l03MulDown a b).1.val ≤ 1152921504606846976) ∨ F_spec_l03MulDown a b = (c64 0, false) := by
  unfold F_spec_l03MulDown F_spec_l03End
  simp only [bindP_eq]
  cases F_spec_l03Ok a with
  | false => exact .inr rfl
  | true =>
    cases F_spec_l03Ok b with
    | false => exact .inr rfl
    | true =>
      generalize F_spec_MulFloor a b (c64 32) = p
      obtain ⟨x, q⟩ := p
      cases q with
      | false => exact .inr rfl
      | true =>
        cases h : F_spec_l03Ok x with
        | false => right; simp [h]
        | true =>
          left
          have h' := h
          rw [sp_Ok3] at h'
          simp at h'
          simp [h, h']

theorem MulDown_ok2 {a b : I64} (h : (F_spec_l03MulDown a b).2 = true) : F_spec_l03Ok b = true := by
  unfold F_spec_l03MulDown at h
  simp only [bindP_eq] at h
  cases ha : F_spec_l03Ok a with
  | false => simp [ha] at h
  | true =>
    cases hb : F_spec_l03Ok b with
    | false => simp [ha, hb] at h
    | true => rfl

theorem eq_MulUp (a b : I64) : F_impl_MulUp a b = F_spec_l03MulUp a b := by
  unfold F_impl_MulUp F_spec_l03MulUp
  simp only [bindP_eq, eq_ValidFix, eq_MulDown]
  have hn : w64 (0 - (c64 0).val) = c64 0 := IK.eq (by decide)
  cases ha : F_spec_l03Ok a with
  | false => rfl
  | true =>
    cases hb : F_spec_l03Ok b with
    | false =>
      rcases MulDown_ok (w64 (0 - a.val)) b with ⟨h, _⟩ | h
      · rw [MulDown_ok2 h] at hb; cases hb
      · rw [h]; rfl
    | true =>
      rcases MulDown_ok (w64 (0 - a.val)) b with ⟨h, _⟩ | h
      · rw [h]
      · rw [h]; simp only [hn]; rfl

theorem MulUp_ok (a b : I64) : ((F_spec_l03MulUp a b).2 = true ∧ -1152921504606846976 ≤ (F_spec_l03MulUp a b).1.val ∧ (F_spec_l03MulUp a b).1.val ≤ 1152921504606846976) ∨ F_spec_l03MulUp a b = (c64 0, false) := by
  unfold F_spec_l03MulUp
  simp only [bindP_eq]
  cases F_spec_l03Ok a with
  | false => exact .inr rfl
  | true =>
    rcases MulDown_ok (w64 (0 - a.val)) b with ⟨h, h1, h2⟩ | h
    · left
      rw [h]
      simp only [Bool.not_true, cond_false, w64_val]
      refine ⟨trivial, ?_⟩
      omega
    · right
      rw [h]; rfl

theorem eq_Valid (a : Iv) : F_impl_ValidInterval a = F_spec_l04Ok a := rfl

theorem eq_Whole : F_impl_Whole = F_spec_l04Whole := rfl

theorem eq_bounded (a b : I64) : F_impl_bounded a b true = F_spec_l04Make a b := by
  unfold F_impl_bounded F_spec_l04Make
  simp only [bindP_eq, eq_Valid, eq_Whole]
  cases F_spec_l04Ok ⟨a, b⟩ <;> rfl

theorem bounded_false (a b : I64) : F_impl_bounded a b false = F_spec_l04Whole := rfl

theorem eq_areBounded (a b : Iv) : F_impl_areBounded a b = (F_spec_l04Ok a && F_spec_l04Ok b) := by
  unfold F_impl_areBounded
  simp only [bindP_eq, eq_Valid]
  cases F_spec_l04Ok a <;> rfl

theorem sp_Min (a b : I64) : F_spec_l00Min a b = if a.val < b.val then a else b := by
  unfold F_spec_l00Min
  by_cases h : a.val < b.val <;> simp [h]

theorem sp_Max (a b : I64) : F_spec_l00Max a b = if a.val > b.val then a else b := by
  unfold F_spec_l00Max
  by_cases h : b.val < a.val <;> simp [h]

theorem eq_mn (a b : I64) : F_spec_l00Min a b = mn a b := by
  rw [sp_Min]
  refine IK.eq ?_
  rw [mn_val]
  split <;> split <;> omega

theorem eq_mx (a b : I64) : F_spec_l00Max a b = mx a b := by
  rw [sp_Max]
  refine IK.eq ?_
  rw [mx_val]
  split <;> split <;> omega

theorem mn_self (a : I64) : mn a a = a := IK.eq (by rw [mn_val]; split <;> rfl)

theorem mx_self (a : I64) : mx a a = a := IK.eq (by rw [mx_val]; split <;> rfl)

theorem mn_top (a : I64) (h : a.val ≤ 1152921504606846976) : mn (c64 1152921504606846976) a = a := IK.eq (by rw [mn_val, c64_val]; split <;> omega)

theorem mx_low (a : I64) (h : -1152921504606846976 ≤ a.val) : mx (c64 (-1152921504606846976)) a = a := IK.eq (by rw [mx_val, c64_val]; split <;> omega)

theorem eq_MulI (a b : Iv) : F_impl_MulI a b = F_spec_MulI a b := by
  unfold F_impl_MulI F_spec_MulI F_impl_combine__impl_MulDown__impl_MulUp
  simp only [bindP_eq, eq_areBounded, eq_Whole, eq_MulDown, eq_MulUp, eq_bounded, eq_mn, eq_mx]
  cases F_spec_l04Ok a with
  | false => rfl
  | true =>
    cases F_spec_l04Ok b with
    | false => rfl
    | true =>
      simp only [Bool.and_self, Bool.not_true, cond_false]
      rcases MulDown_ok a.lo b.lo with ⟨h1, h2, h3⟩ | h1
      · rcases MulUp_ok a.lo b.lo with ⟨k1, k2, k3⟩ | k1
        · simp only [mn_top _ h3, mx_low _ k2, mn_self, mx_self]
        · simp [k1]
      · simp [h1]

theorem eq_AddI (a b : Iv) : F_impl_AddI a b = F_spec_AddI a b := by
  unfold F_impl_AddI F_spec_AddI
  simp only [bindP_eq, eq_areBounded, eq_Whole, eq_bounded]
  cases F_spec_l04Ok a with
  | false => rfl
  | true => cases F_spec_l04Ok b <;> rfl

theorem rf_Interval (a : Iv) : F_laws_eqInterval a a = true := by simp [F_laws_eqInterval]

end Go.Proofs.YtgofhiehdpggkaaGreat.Abs
