/- Plain laws of the functions on numbers: what the program computes is what the reference computes. -/
import Derived.Test.YtbpkpmmmeneagaaGreatQvwxyz
import Derived.Test.YtbpkpmmmeneagaaGreatF5
set_option linter.unusedVariables false
set_option linter.unusedSimpArgs false
namespace Go.Proofs.YtbpkpmmmeneagaaGreat.Abs
open Go

theorem Int_true (w : Wd) (h : (F_spec_l02Int w).2 = true) : (F_spec_l02Int w).1.val = w.z := by
  have a1 := w.lo.lo
  have a2 := w.lo.hi
  have hz : w.z = w.hi.val * 18446744073709551616 + w.lo.val := rfl
  rw [hz]
  unfold F_spec_l02Int F_spec_l02Of at h ⊢
  simp only [bindP_e] at h ⊢
  have e := w64_val w.lo.val
  generalize w64 w.lo.val = x at *
  by_cases hn : x.val < 0
  · simp only [hn, decide_true, cond_t, c64_v, wu64_val] at h ⊢
    cases q : (((-1 : Int) == w.hi.val) && (x.val % 18446744073709551616 == w.lo.val)) with
    | false => rw [q] at h; simp only [Bool.not_false, cond_t] at h; cases h
    | true =>
      simp only [Bool.not_true, cond_f]
      simp only [Bool.and_eq_true, beq_iff_eq] at q
      omega
  · simp only [hn, decide_false, cond_f, c64_v, wu64_val] at h ⊢
    cases q : (((0 : Int) == w.hi.val) && (x.val % 18446744073709551616 == w.lo.val)) with
    | false => rw [q] at h; simp only [Bool.not_false, cond_t] at h; cases h
    | true =>
      simp only [Bool.not_true, cond_f]
      simp only [Bool.and_eq_true, beq_iff_eq] at q
      omega

theorem End_true {a : I64} {c : Bool} (h : (F_spec_l03End a c).2 = true) : c = true ∧ F_spec_l03Ok a = true ∧ (F_spec_l03End a c).1 = a := by
  unfold F_spec_l03End at h ⊢
  simp only [bindP_e] at h ⊢
  cases c with
  | false => simp only [Bool.not_false, cond_t] at h; cases h
  | true =>
    simp only [Bool.not_true, cond_f] at h ⊢
    cases q : F_spec_l03Ok a with
    | false => rw [q] at h; simp only [Bool.not_false, cond_t] at h; cases h
    | true => rw [q] at h; simp only [Bool.not_true, cond_f] at h ⊢; exact ⟨trivial, trivial, trivial⟩

theorem Ok3_p {a : I64} (h : F_spec_l03Ok a = true) : -1152921504606846976 ≤ a.val ∧ a.val ≤ 1152921504606846976 := by
  rw [sp_Ok3] at h
  simp only [Bool.and_eq_true, decide_eq_true_eq] at h
  exact h

theorem MulDown_true {a b : I64} (h : (F_spec_l03MulDown a b).2 = true) : F_spec_l03Ok a = true ∧ F_spec_l03Ok b = true ∧ F_spec_l03Ok (F_spec_l03MulDown a b).1 = true ∧ (F_spec_l03MulDown a b).1.val = a.val * b.val / 4294967296 := by
  unfold F_spec_l03MulDown F_spec_MulFloor at h ⊢
  simp only [bindP_e] at h ⊢
  cases ha : F_spec_l03Ok a with
  | false => rw [ha] at h; simp only [Bool.not_false, cond_t] at h; cases h
  | true =>
    cases hb : F_spec_l03Ok b with
    | false => rw [ha, hb] at h; simp only [Bool.not_true, Bool.not_false, cond_t, cond_f] at h; cases h
    | true =>
      have e3 : F_spec_l00In (c64 32) (c64 0) (c64 126) = true := by decide
      simp only [ha, hb, e3, Bool.not_true, cond_f] at h ⊢
      obtain ⟨k1, k2, k3⟩ := End_true h
      have hv := Int_true _ k1
      rw [Shift_z32, sp_Mul] at hv
      rw [k3]
      exact ⟨trivial, trivial, k2, hv⟩

theorem MulUp_true {a b : I64} (h : (F_spec_l03MulUp a b).2 = true) : F_spec_l03Ok a = true ∧ F_spec_l03Ok b = true ∧ F_spec_l03Ok (F_spec_l03MulUp a b).1 = true ∧ (F_spec_l03MulUp a b).1.val = -(-(a.val * b.val) / 4294967296) := by
  unfold F_spec_l03MulUp at h ⊢
  simp only [bindP_e] at h ⊢
  cases ha : F_spec_l03Ok a with
  | false => rw [ha] at h; simp only [Bool.not_false, cond_t] at h; cases h
  | true =>
    cases hd : (F_spec_l03MulDown (w64 (0 - a.val)) b).2 with
    | false => rw [ha, hd] at h; simp only [Bool.not_true, Bool.not_false, cond_t, cond_f] at h; cases h
    | true =>
      obtain ⟨_, k2, k3, k4⟩ := MulDown_true hd
      have pa := Ok3_p ha
      have pr := Ok3_p k3
      have en : (w64 (0 - a.val)).val = -a.val := by rw [w64_val]; omega
      rw [en, Int.neg_mul] at k4
      simp only [ha, hd, Bool.not_true, cond_f]
      have er : (w64 (0 - (F_spec_l03MulDown (w64 (0 - a.val)) b).1.val)).val = -(F_spec_l03MulDown (w64 (0 - a.val)) b).1.val := by rw [w64_val]; omega
      exact ⟨trivial, k2, Ok3_of (by rw [er]; omega) (by rw [er]; omega), by rw [er, k4]⟩

theorem MulDivFloor_true {a b : I64} (ha : F_spec_l03Ok a = true) (hb : 0 < b.val) (h : (F_spec_MulDivFloor a (c64 4294967296) b).2 = true) : (F_spec_MulDivFloor a (c64 4294967296) b).1.val = a.val * 4294967296 / b.val := by
  have ha' := Ok3_p ha
  have hm : (F_spec_l02Mul a (c64 4294967296)).z = a.val * 4294967296 := by rw [sp_Mul, c64_v]
  obtain ⟨s1, s2, s3⟩ := sp_Div (F_spec_l02Mul a (c64 4294967296)) b hb (by rw [hm]; omega) (by rw [hm]; omega)
  rw [hm] at s1
  have hq : (F_spec_l02Div (F_spec_l02Mul a (c64 4294967296)) b).1.z = a.val * 4294967296 / b.val := by
    generalize (F_spec_l02Div (F_spec_l02Mul a (c64 4294967296)) b).1.z = q at *
    generalize (F_spec_l02Div (F_spec_l02Mul a (c64 4294967296)) b).2.val = r at *
    rw [← s1, Int.mul_comm q, Int.add_comm, Int.add_mul_ediv_left _ _ (by omega), Int.ediv_eq_zero_of_lt s2 s3, Int.zero_add]
  unfold F_spec_MulDivFloor at h ⊢
  have e5 : decide (b.val ≤ 0) = false := decide_eq_false (by omega)
  simp only [bindP_e, e5, cond_f] at h ⊢
  rw [Int_true _ h, hq]

theorem DivDown_true {a b : I64} (h : (F_spec_l03DivDown a b).2 = true) : F_spec_l03Ok a = true ∧ F_spec_l03Ok b = true ∧ b.val ≠ 0 ∧ F_spec_l03Ok (F_spec_l03DivDown a b).1 = true ∧
    (0 < b.val → (F_spec_l03DivDown a b).1.val = a.val * 4294967296 / b.val) ∧ (b.val < 0 → (F_spec_l03DivDown a b).1.val = -a.val * 4294967296 / -b.val) := by
  unfold F_spec_l03DivDown at h ⊢
  simp only [bindP_e] at h ⊢
  cases ha : F_spec_l03Ok a with
  | false => rw [ha] at h; simp only [Bool.not_false, cond_t] at h; cases h
  | true =>
    cases hb : F_spec_l03Ok b with
    | false => rw [ha, hb] at h; simp only [Bool.not_true, Bool.not_false, cond_t, cond_f] at h; cases h
    | true =>
      have pa := Ok3_p ha
      have pb := Ok3_p hb
      have ea : (w64 (0 - a.val)).val = -a.val := by rw [w64_val]; omega
      have eb : (w64 (0 - b.val)).val = -b.val := by rw [w64_val]; omega
      by_cases hz : b.val = 0
      · have e : (b.val == 0) = true := by simp [hz]
        simp only [ha, hb, e, Bool.not_true, cond_f, cond_t] at h
        cases h
      · have e : (b.val == 0) = false := by simp [hz]
        by_cases hn : b.val < 0
        · have d : decide (b.val < 0) = true := decide_eq_true hn
          simp only [ha, hb, e, d, Bool.not_true, cond_f, cond_t] at h ⊢
          obtain ⟨k1, k2, k3⟩ := End_true h
          have hv := MulDivFloor_true (a := w64 (0 - a.val)) (b := w64 (0 - b.val)) (Ok3_of (by rw [ea]; omega) (by rw [ea]; omega)) (by rw [eb]; omega) k1
          rw [ea, eb] at hv
          rw [k3]
          exact ⟨trivial, trivial, hz, k2, fun h => by omega, fun _ => hv⟩
        · have d : decide (b.val < 0) = false := decide_eq_false hn
          simp only [ha, hb, e, d, Bool.not_true, cond_f] at h ⊢
          obtain ⟨k1, k2, k3⟩ := End_true h
          have hv := MulDivFloor_true ha (by omega) k1
          rw [k3]
          exact ⟨trivial, trivial, hz, k2, fun _ => hv, fun h => by omega⟩

theorem DivUp_true {a b : I64} (h : (F_spec_l03DivUp a b).2 = true) : F_spec_l03Ok (F_spec_l03DivUp a b).1 = true ∧
    (0 < b.val → (F_spec_l03DivUp a b).1.val = -(-a.val * 4294967296 / b.val)) ∧ (b.val < 0 → (F_spec_l03DivUp a b).1.val = -(a.val * 4294967296 / -b.val)) := by
  unfold F_spec_l03DivUp at h ⊢
  simp only [bindP_e] at h ⊢
  cases ha : F_spec_l03Ok a with
  | false => rw [ha] at h; simp only [Bool.not_false, cond_t] at h; cases h
  | true =>
    simp only [ha, Bool.not_true, cond_f] at h ⊢
    have pa := Ok3_p ha
    have ea : (w64 (0 - a.val)).val = -a.val := by rw [w64_val]; omega
    obtain ⟨_, _, _, k4, k5, k6⟩ := DivDown_true h
    have pr := Ok3_p k4
    have er : (w64 (0 - (F_spec_l03DivDown (w64 (0 - a.val)) b).1.val)).val = -(F_spec_l03DivDown (w64 (0 - a.val)) b).1.val := by rw [w64_val]; omega
    refine ⟨Ok3_of (by rw [er]; omega) (by rw [er]; omega), fun hb => ?_, fun hb => ?_⟩
    · rw [er, k5 hb, ea]
    · rw [er, k6 hb, ea, Int.neg_neg]

/-- Floor and ceiling of a quotient, as bounds. -/
theorem div_bounds {q b : Int} (hb : 0 < b) : q / b * b ≤ q ∧ q ≤ -(-q / b) * b := by
  have a2 : -q / b * b ≤ -q := Int.ediv_mul_le _ (by omega)
  have a3 : q / b * b ≤ q := Int.ediv_mul_le _ (by omega)
  exact ⟨a3, by rw [Int.neg_mul]; omega⟩

theorem Make_out {a b : I64} (h : F_spec_l04Ok (F_spec_l04Make a b) = true) : F_spec_l04Make a b = ⟨a, b⟩ := by
  unfold F_spec_l04Make at h ⊢
  simp only [bindP_e] at h ⊢
  cases q : F_spec_l04Ok ⟨a, b⟩ with
  | false => rw [q] at h; simp only [Bool.not_false, cond_t, whole_bad] at h; cases h
  | true => simp only [Bool.not_true, cond_f]

theorem min_out (a b : I64) : (F_spec_l00Min a b).val ≤ a.val ∧ (F_spec_l00Min a b).val ≤ b.val := by
  unfold F_spec_l00Min
  by_cases h : a.val < b.val
  · rw [decide_eq_true h, cond_t]; omega
  · rw [decide_eq_false h, cond_f]; omega

theorem max_out (a b : I64) : a.val ≤ (F_spec_l00Max a b).val ∧ b.val ≤ (F_spec_l00Max a b).val := by
  unfold F_spec_l00Max
  by_cases h : a.val > b.val
  · rw [decide_eq_true h, cond_t]; omega
  · rw [decide_eq_false h, cond_f]; omega

theorem max_is (a b : I64) : (F_spec_l00Max a b).val = a.val ∨ (F_spec_l00Max a b).val = b.val := by
  unfold F_spec_l00Max
  by_cases h : a.val > b.val
  · rw [decide_eq_true h, cond_t]; exact .inl rfl
  · rw [decide_eq_false h, cond_f]; exact .inr rfl

theorem min_is (a b : I64) : (F_spec_l00Min a b).val = a.val ∨ (F_spec_l00Min a b).val = b.val := by
  unfold F_spec_l00Min
  by_cases h : a.val < b.val
  · rw [decide_eq_true h, cond_t]; exact .inl rfl
  · rw [decide_eq_false h, cond_f]; exact .inr rfl

theorem AddI_out {a b : Iv} (h : F_spec_l04Ok (F_spec_AddI a b) = true) : F_spec_l04Ok a = true ∧ F_spec_l04Ok b = true ∧ (F_spec_AddI a b).lo.val = a.lo.val + b.lo.val ∧ (F_spec_AddI a b).hi.val = a.hi.val + b.hi.val := by
  unfold F_spec_AddI at h ⊢
  simp only [bindP_e] at h ⊢
  cases ha : F_spec_l04Ok a with
  | false => rw [ha] at h; simp only [Bool.not_false, cond_t, whole_bad] at h; cases h
  | true =>
    cases hb : F_spec_l04Ok b with
    | false => rw [ha, hb] at h; simp only [Bool.not_true, Bool.not_false, cond_t, cond_f, whole_bad] at h; cases h
    | true =>
      simp only [ha, hb, Bool.not_true, cond_f] at h ⊢
      have pa := Ok4p ha
      have pb := Ok4p hb
      rw [Make_out h]
      refine ⟨trivial, trivial, ?_, ?_⟩
      · show (w64 (a.lo.val + b.lo.val)).val = _; rw [w64_val]; omega
      · show (w64 (a.hi.val + b.hi.val)).val = _; rw [w64_val]; omega

theorem SubI_out {a b : Iv} (h : F_spec_l04Ok (F_spec_SubI a b) = true) : F_spec_l04Ok a = true ∧ F_spec_l04Ok b = true ∧ (F_spec_SubI a b).lo.val = a.lo.val - b.hi.val ∧ (F_spec_SubI a b).hi.val = a.hi.val - b.lo.val := by
  unfold F_spec_SubI at h ⊢
  simp only [bindP_e] at h ⊢
  cases ha : F_spec_l04Ok a with
  | false => rw [ha] at h; simp only [Bool.not_false, cond_t, whole_bad] at h; cases h
  | true =>
    cases hb : F_spec_l04Ok b with
    | false => rw [ha, hb] at h; simp only [Bool.not_true, Bool.not_false, cond_t, cond_f, whole_bad] at h; cases h
    | true =>
      simp only [ha, hb, Bool.not_true, cond_f] at h ⊢
      have pa := Ok4p ha
      have pb := Ok4p hb
      rw [Make_out h]
      refine ⟨trivial, trivial, ?_, ?_⟩
      · show (w64 (a.lo.val - b.hi.val)).val = _; rw [w64_val]; omega
      · show (w64 (a.hi.val - b.lo.val)).val = _; rw [w64_val]; omega

theorem MulI_out {a b : Iv} (h : F_spec_l04Ok (F_spec_MulI a b) = true) : F_spec_l04Ok a = true ∧ F_spec_l04Ok b = true ∧
    (F_spec_MulI a b).lo.val * 4294967296 ≤ a.lo.val * b.lo.val ∧ a.lo.val * b.lo.val ≤ (F_spec_MulI a b).hi.val * 4294967296 ∧ (F_spec_MulI a b).lo.val * 4294967296 ≤ a.lo.val * b.hi.val ∧ a.lo.val * b.hi.val ≤ (F_spec_MulI a b).hi.val * 4294967296 ∧
    (F_spec_MulI a b).lo.val * 4294967296 ≤ a.hi.val * b.lo.val ∧ a.hi.val * b.lo.val ≤ (F_spec_MulI a b).hi.val * 4294967296 ∧ (F_spec_MulI a b).lo.val * 4294967296 ≤ a.hi.val * b.hi.val ∧ a.hi.val * b.hi.val ≤ (F_spec_MulI a b).hi.val * 4294967296 := by
  unfold F_spec_MulI at h ⊢
  simp only [bindP_e] at h ⊢
  cases ha : F_spec_l04Ok a with
  | false => rw [ha] at h; simp only [Bool.not_false, cond_t, whole_bad] at h; cases h
  | true =>
  cases hb : F_spec_l04Ok b with
  | false => rw [ha, hb] at h; simp only [Bool.not_true, Bool.not_false, cond_t, cond_f, whole_bad] at h; cases h
  | true =>
  simp only [ha, hb, Bool.not_true, cond_f] at h ⊢
  cases d1 : (F_spec_l03MulDown a.lo b.lo).2 with
  | false => rw [d1] at h; simp only [Bool.not_false, cond_t, whole_bad] at h; cases h
  | true =>
  cases u1 : (F_spec_l03MulUp a.lo b.lo).2 with
  | false => rw [d1, u1] at h; simp only [Bool.not_true, Bool.not_false, cond_t, cond_f, whole_bad] at h; cases h
  | true =>
  simp only [d1, u1, Bool.not_true, cond_f] at h ⊢
  cases d2 : (F_spec_l03MulDown a.lo b.hi).2 with
  | false => rw [d2] at h; simp only [Bool.not_false, cond_t, whole_bad] at h; cases h
  | true =>
  cases u2 : (F_spec_l03MulUp a.lo b.hi).2 with
  | false => rw [d2, u2] at h; simp only [Bool.not_true, Bool.not_false, cond_t, cond_f, whole_bad] at h; cases h
  | true =>
  simp only [d2, u2, Bool.not_true, cond_f] at h ⊢
  cases d3 : (F_spec_l03MulDown a.hi b.lo).2 with
  | false => rw [d3] at h; simp only [Bool.not_false, cond_t, whole_bad] at h; cases h
  | true =>
  cases u3 : (F_spec_l03MulUp a.hi b.lo).2 with
  | false => rw [d3, u3] at h; simp only [Bool.not_true, Bool.not_false, cond_t, cond_f, whole_bad] at h; cases h
  | true =>
  simp only [d3, u3, Bool.not_true, cond_f] at h ⊢
  cases d4 : (F_spec_l03MulDown a.hi b.hi).2 with
  | false => rw [d4] at h; simp only [Bool.not_false, cond_t, whole_bad] at h; cases h
  | true =>
  cases u4 : (F_spec_l03MulUp a.hi b.hi).2 with
  | false => rw [d4, u4] at h; simp only [Bool.not_true, Bool.not_false, cond_t, cond_f, whole_bad] at h; cases h
  | true =>
  simp only [d4, u4, Bool.not_true, cond_f] at h ⊢
  rw [Make_out h]
  obtain ⟨_, _, _, v1⟩ := MulDown_true d1
  obtain ⟨_, _, _, v2⟩ := MulDown_true d2
  obtain ⟨_, _, _, v3⟩ := MulDown_true d3
  obtain ⟨_, _, _, v4⟩ := MulDown_true d4
  obtain ⟨_, _, _, w1⟩ := MulUp_true u1
  obtain ⟨_, _, _, w2⟩ := MulUp_true u2
  obtain ⟨_, _, _, w3⟩ := MulUp_true u3
  obtain ⟨_, _, _, w4⟩ := MulUp_true u4
  have m4 := min_out (F_spec_l00Min (F_spec_l00Min (F_spec_l00Min (c64 1152921504606846976) (F_spec_l03MulDown a.lo b.lo).1) (F_spec_l03MulDown a.lo b.hi).1) (F_spec_l03MulDown a.hi b.lo).1) (F_spec_l03MulDown a.hi b.hi).1
  have m3 := min_out (F_spec_l00Min (F_spec_l00Min (c64 1152921504606846976) (F_spec_l03MulDown a.lo b.lo).1) (F_spec_l03MulDown a.lo b.hi).1) (F_spec_l03MulDown a.hi b.lo).1
  have m2 := min_out (F_spec_l00Min (c64 1152921504606846976) (F_spec_l03MulDown a.lo b.lo).1) (F_spec_l03MulDown a.lo b.hi).1
  have m1 := min_out (c64 1152921504606846976) (F_spec_l03MulDown a.lo b.lo).1
  have n4 := max_out (F_spec_l00Max (F_spec_l00Max (F_spec_l00Max (c64 (-1152921504606846976)) (F_spec_l03MulUp a.lo b.lo).1) (F_spec_l03MulUp a.lo b.hi).1) (F_spec_l03MulUp a.hi b.lo).1) (F_spec_l03MulUp a.hi b.hi).1
  have n3 := max_out (F_spec_l00Max (F_spec_l00Max (c64 (-1152921504606846976)) (F_spec_l03MulUp a.lo b.lo).1) (F_spec_l03MulUp a.lo b.hi).1) (F_spec_l03MulUp a.hi b.lo).1
  have n2 := max_out (F_spec_l00Max (c64 (-1152921504606846976)) (F_spec_l03MulUp a.lo b.lo).1) (F_spec_l03MulUp a.lo b.hi).1
  have n1 := max_out (c64 (-1152921504606846976)) (F_spec_l03MulUp a.lo b.lo).1
  refine ⟨trivial, trivial, ?_⟩
  dsimp only
  generalize a.lo.val * b.lo.val = q1 at *
  generalize a.lo.val * b.hi.val = q2 at *
  generalize a.hi.val * b.lo.val = q3 at *
  generalize a.hi.val * b.hi.val = q4 at *
  generalize F_spec_l00Min (F_spec_l00Min (F_spec_l00Min (F_spec_l00Min (c64 1152921504606846976) (F_spec_l03MulDown a.lo b.lo).1) (F_spec_l03MulDown a.lo b.hi).1) (F_spec_l03MulDown a.hi b.lo).1) (F_spec_l03MulDown a.hi b.hi).1 = lo at *
  generalize F_spec_l00Max (F_spec_l00Max (F_spec_l00Max (F_spec_l00Max (c64 (-1152921504606846976)) (F_spec_l03MulUp a.lo b.lo).1) (F_spec_l03MulUp a.lo b.hi).1) (F_spec_l03MulUp a.hi b.lo).1) (F_spec_l03MulUp a.hi b.hi).1 = hi at *
  refine ⟨?_, ?_, ?_, ?_, ?_, ?_, ?_, ?_⟩ <;> omega

theorem DivI_out {a b : Iv} (h : F_spec_l04Ok (F_spec_DivI a b) = true) : F_spec_l04Ok a = true ∧ F_spec_l04Ok b = true ∧ (0 < b.lo.val ∨ b.hi.val < 0) ∧
    (∀ x y : Int, (x = a.lo.val ∨ x = a.hi.val) → (y = b.lo.val ∨ y = b.hi.val) → (0 < y → (F_spec_DivI a b).lo.val * y ≤ x * 4294967296 ∧ x * 4294967296 ≤ (F_spec_DivI a b).hi.val * y) ∧ (y < 0 → (F_spec_DivI a b).hi.val * y ≤ x * 4294967296 ∧ x * 4294967296 ≤ (F_spec_DivI a b).lo.val * y)) := by
  unfold F_spec_DivI at h ⊢
  simp only [bindP_e] at h ⊢
  cases ha : F_spec_l04Ok a with
  | false => rw [ha] at h; simp only [Bool.not_false, cond_t, whole_bad] at h; cases h
  | true =>
  cases hb : F_spec_l04Ok b with
  | false => rw [ha, hb] at h; simp only [Bool.not_true, Bool.not_false, cond_t, cond_f, whole_bad] at h; cases h
  | true =>
  cases hz : F_spec_l04Has b (c64 0) with
  | true => rw [ha, hb, hz] at h; simp only [Bool.not_true, cond_t, cond_f, whole_bad] at h; cases h
  | false =>
  simp only [ha, hb, hz, Bool.not_true, cond_f] at h ⊢
  cases d1 : (F_spec_l03DivDown a.lo b.lo).2 with
  | false => rw [d1] at h; simp only [Bool.not_false, cond_t, whole_bad] at h; cases h
  | true =>
  cases u1 : (F_spec_l03DivUp a.lo b.lo).2 with
  | false => rw [d1, u1] at h; simp only [Bool.not_true, Bool.not_false, cond_t, cond_f, whole_bad] at h; cases h
  | true =>
  simp only [d1, u1, Bool.not_true, cond_f] at h ⊢
  cases d2 : (F_spec_l03DivDown a.lo b.hi).2 with
  | false => rw [d2] at h; simp only [Bool.not_false, cond_t, whole_bad] at h; cases h
  | true =>
  cases u2 : (F_spec_l03DivUp a.lo b.hi).2 with
  | false => rw [d2, u2] at h; simp only [Bool.not_true, Bool.not_false, cond_t, cond_f, whole_bad] at h; cases h
  | true =>
  simp only [d2, u2, Bool.not_true, cond_f] at h ⊢
  cases d3 : (F_spec_l03DivDown a.hi b.lo).2 with
  | false => rw [d3] at h; simp only [Bool.not_false, cond_t, whole_bad] at h; cases h
  | true =>
  cases u3 : (F_spec_l03DivUp a.hi b.lo).2 with
  | false => rw [d3, u3] at h; simp only [Bool.not_true, Bool.not_false, cond_t, cond_f, whole_bad] at h; cases h
  | true =>
  simp only [d3, u3, Bool.not_true, cond_f] at h ⊢
  cases d4 : (F_spec_l03DivDown a.hi b.hi).2 with
  | false => rw [d4] at h; simp only [Bool.not_false, cond_t, whole_bad] at h; cases h
  | true =>
  cases u4 : (F_spec_l03DivUp a.hi b.hi).2 with
  | false => rw [d4, u4] at h; simp only [Bool.not_true, Bool.not_false, cond_t, cond_f, whole_bad] at h; cases h
  | true =>
  simp only [d4, u4, Bool.not_true, cond_f] at h ⊢
  rw [Make_out h]
  have hb4 := Ok4p hb
  have sgn : 0 < b.lo.val ∨ b.hi.val < 0 := by
    unfold F_spec_l04Has at hz
    rw [bindP_e, sp_in, c64_v] at hz
    by_cases q1 : b.lo.val ≤ 0
    · by_cases q2 : 0 ≤ b.hi.val
      · rw [decide_eq_true q1, decide_eq_true q2] at hz; cases hz
      · omega
    · omega
  refine ⟨trivial, trivial, sgn, ?_⟩
  have m4 := min_out (F_spec_l00Min (F_spec_l00Min (F_spec_l00Min (c64 1152921504606846976) (F_spec_l03DivDown a.lo b.lo).1) (F_spec_l03DivDown a.lo b.hi).1) (F_spec_l03DivDown a.hi b.lo).1) (F_spec_l03DivDown a.hi b.hi).1
  have m3 := min_out (F_spec_l00Min (F_spec_l00Min (c64 1152921504606846976) (F_spec_l03DivDown a.lo b.lo).1) (F_spec_l03DivDown a.lo b.hi).1) (F_spec_l03DivDown a.hi b.lo).1
  have m2 := min_out (F_spec_l00Min (c64 1152921504606846976) (F_spec_l03DivDown a.lo b.lo).1) (F_spec_l03DivDown a.lo b.hi).1
  have m1 := min_out (c64 1152921504606846976) (F_spec_l03DivDown a.lo b.lo).1
  have n4 := max_out (F_spec_l00Max (F_spec_l00Max (F_spec_l00Max (c64 (-1152921504606846976)) (F_spec_l03DivUp a.lo b.lo).1) (F_spec_l03DivUp a.lo b.hi).1) (F_spec_l03DivUp a.hi b.lo).1) (F_spec_l03DivUp a.hi b.hi).1
  have n3 := max_out (F_spec_l00Max (F_spec_l00Max (c64 (-1152921504606846976)) (F_spec_l03DivUp a.lo b.lo).1) (F_spec_l03DivUp a.lo b.hi).1) (F_spec_l03DivUp a.hi b.lo).1
  have n2 := max_out (F_spec_l00Max (c64 (-1152921504606846976)) (F_spec_l03DivUp a.lo b.lo).1) (F_spec_l03DivUp a.lo b.hi).1
  have n1 := max_out (c64 (-1152921504606846976)) (F_spec_l03DivUp a.lo b.lo).1
  generalize (F_spec_l00Min (F_spec_l00Min (F_spec_l00Min (F_spec_l00Min (c64 1152921504606846976) (F_spec_l03DivDown a.lo b.lo).1) (F_spec_l03DivDown a.lo b.hi).1) (F_spec_l03DivDown a.hi b.lo).1) (F_spec_l03DivDown a.hi b.hi).1) = lo at *
  generalize (F_spec_l00Max (F_spec_l00Max (F_spec_l00Max (F_spec_l00Max (c64 (-1152921504606846976)) (F_spec_l03DivUp a.lo b.lo).1) (F_spec_l03DivUp a.lo b.hi).1) (F_spec_l03DivUp a.hi b.lo).1) (F_spec_l03DivUp a.hi b.hi).1) = hi at *
  -- one end by one end
  have one : ∀ x y : I64, (F_spec_l03DivDown x y).2 = true → (F_spec_l03DivUp x y).2 = true → lo.val ≤ (F_spec_l03DivDown x y).1.val → (F_spec_l03DivUp x y).1.val ≤ hi.val →
      (0 < y.val → lo.val * y.val ≤ x.val * 4294967296 ∧ x.val * 4294967296 ≤ hi.val * y.val) ∧ (y.val < 0 → hi.val * y.val ≤ x.val * 4294967296 ∧ x.val * 4294967296 ≤ lo.val * y.val) := fun x y hd hu hl hh => by
    obtain ⟨_, _, _, _, v1, v2⟩ := DivDown_true hd
    obtain ⟨_, w1, w2⟩ := DivUp_true hu
    refine ⟨fun hy => ?_, fun hy => ?_⟩
    · have e1 := v1 hy
      have e2 := w1 hy
      rw [Int.neg_mul] at e2
      obtain ⟨g1, g2⟩ := div_bounds (q := x.val * 4294967296) hy
      rw [← e1] at g1
      rw [← e2] at g2
      exact ⟨Int.le_trans (Int.mul_le_mul_of_nonneg_right hl (by omega)) g1, Int.le_trans g2 (Int.mul_le_mul_of_nonneg_right hh (by omega))⟩
    · have e1 := v2 hy
      have e2 := w2 hy
      obtain ⟨g1, g2⟩ := div_bounds (q := -x.val * 4294967296) (b := -y.val) (by omega)
      rw [← e1] at g1
      have e3 : -(-x.val * 4294967296) = x.val * 4294967296 := by omega
      rw [e3, ← e2] at g2
      have k1 : lo.val * -y.val ≤ (F_spec_l03DivDown x y).1.val * -y.val := Int.mul_le_mul_of_nonneg_right hl (by omega)
      have k2 : (F_spec_l03DivUp x y).1.val * -y.val ≤ hi.val * -y.val := Int.mul_le_mul_of_nonneg_right hh (by omega)
      rw [Int.mul_neg lo.val] at k1
      rw [Int.mul_neg hi.val] at k2
      have k3 : lo.val * y.val ≥ x.val * 4294967296 := by omega
      have k4 : hi.val * y.val ≤ x.val * 4294967296 := by omega
      exact ⟨k4, k3⟩
  intro x y hx hy
  rcases hx with rfl | rfl <;> rcases hy with rfl | rfl
  · exact one _ _ d1 u1 (by omega) (by omega)
  · exact one _ _ d2 u2 (by omega) (by omega)
  · exact one _ _ d3 u3 (by omega) (by omega)
  · exact one _ _ d4 u4 (by omega) (by omega)

/-- A square lies between those of the ends. -/
theorem Ends_out {a : Iv} (ha : F_spec_l04Ok a = true) : 0 ≤ (F_spec_l04Ends a).1.val ∧ 0 ≤ (F_spec_l04Ends a).2.val ∧ ∀ u : Int, a.lo.val ≤ u → u ≤ a.hi.val → (F_spec_l04Ends a).1.val * (F_spec_l04Ends a).1.val ≤ u * u ∧ u * u ≤ (F_spec_l04Ends a).2.val * (F_spec_l04Ends a).2.val := by
  have pa := Ok4p ha
  unfold F_spec_l04Ends F_spec_l04Has
  simp only [bindP_e]
  have el : (w64 (0 - a.lo.val)).val = -a.lo.val := by rw [w64_val]; omega
  have eh : (w64 (0 - a.hi.val)).val = -a.hi.val := by rw [w64_val]; omega
  have p1 := max_out a.lo (w64 (0 - a.lo.val))
  have p2 := max_is a.lo (w64 (0 - a.lo.val))
  have q1 := max_out a.hi (w64 (0 - a.hi.val))
  have q2 := max_is a.hi (w64 (0 - a.hi.val))
  rw [el] at p1 p2
  rw [eh] at q1 q2
  generalize F_spec_l00Max a.lo (w64 (0 - a.lo.val)) = p at *
  generalize F_spec_l00Max a.hi (w64 (0 - a.hi.val)) = q at *
  have far := max_out p q
  have fari := max_is p q
  have sq : ∀ u v : Int, 0 ≤ u → u ≤ v → u * u ≤ v * v := fun u v h1 h2 => Int.mul_le_mul h2 h2 h1 (by omega)
  have ab : ∀ u v : Int, -v ≤ u → u ≤ v → u * u ≤ v * v := fun u v h1 h2 => by
    by_cases h : 0 ≤ u
    · exact sq u v h h2
    · have := sq (-u) v (by omega) (by omega)
      rw [Int.neg_mul_neg] at this
      exact this
  have lb : ∀ u v : Int, 0 ≤ v → (v ≤ u ∨ u ≤ -v) → v * v ≤ u * u := fun u v h0 h => by
    rcases h with h | h
    · exact sq v u h0 h
    · have := sq v (-u) h0 (by omega)
      rw [Int.neg_mul_neg] at this
      exact this
  rw [sp_in, c64_v]
  by_cases h0 : a.lo.val ≤ 0 ∧ 0 ≤ a.hi.val
  · rw [decide_eq_true h0.1, decide_eq_true h0.2, Bool.and_self, cond_t]
    simp only [c64_v]
    refine ⟨by omega, by omega, fun u h1 h2 => ⟨?_, ab _ _ (by omega) (by omega)⟩⟩
    rw [Int.mul_zero]
    exact lb u 0 (by omega) (by omega)
  · have e : (decide (a.lo.val ≤ 0) && decide (0 ≤ a.hi.val)) = false := by
      by_cases h1 : a.lo.val ≤ 0
      · rw [decide_eq_true h1, decide_eq_false (by omega)]; rfl
      · rw [decide_eq_false h1]; rfl
    rw [e, cond_f]
    have nr := min_out p q
    have nri := min_is p q
    dsimp only
    refine ⟨by omega, by omega, fun u h1 h2 => ⟨lb u _ (by omega) (by omega), ab _ _ (by omega) (by omega)⟩⟩

theorem SqrI_out {a : Iv} (h : F_spec_l04Ok (F_spec_SqrI a) = true) : F_spec_l04Ok a = true ∧ 0 ≤ (F_spec_SqrI a).lo.val ∧ ∀ u : Int, a.lo.val ≤ u → u ≤ a.hi.val → (F_spec_SqrI a).lo.val * 4294967296 ≤ u * u ∧ u * u ≤ (F_spec_SqrI a).hi.val * 4294967296 := by
  unfold F_spec_SqrI at h ⊢
  simp only [bindP_e] at h ⊢
  cases ha : F_spec_l04Ok a with
  | false => rw [ha] at h; simp only [Bool.not_false, cond_t, whole_bad] at h; cases h
  | true =>
  simp only [ha, Bool.not_true, cond_f] at h ⊢
  cases d1 : (F_spec_l03MulDown (F_spec_l04Ends a).1 (F_spec_l04Ends a).1).2 with
  | false => rw [d1] at h; simp only [Bool.not_false, cond_t, whole_bad] at h; cases h
  | true =>
  cases u1 : (F_spec_l03MulUp (F_spec_l04Ends a).2 (F_spec_l04Ends a).2).2 with
  | false => rw [d1, u1] at h; simp only [Bool.not_true, Bool.not_false, cond_t, cond_f, whole_bad] at h; cases h
  | true =>
  simp only [d1, u1, Bool.not_true, cond_f] at h ⊢
  rw [Make_out h]
  obtain ⟨_, _, _, v1⟩ := MulDown_true d1
  obtain ⟨_, _, _, w1⟩ := MulUp_true u1
  obtain ⟨e0, e1, e2⟩ := Ends_out ha
  have n0 := Int.mul_nonneg e0 e0
  refine ⟨trivial, ?_, fun u h1 h2 => ?_⟩
  · show 0 ≤ (F_spec_l03MulDown (F_spec_l04Ends a).1 (F_spec_l04Ends a).1).1.val
    rw [v1]
    omega
  · obtain ⟨g1, g2⟩ := e2 u h1 h2
    show (F_spec_l03MulDown (F_spec_l04Ends a).1 (F_spec_l04Ends a).1).1.val * 4294967296 ≤ u * u ∧ u * u ≤ (F_spec_l03MulUp (F_spec_l04Ends a).2 (F_spec_l04Ends a).2).1.val * 4294967296
    rw [v1, w1]
    generalize (F_spec_l04Ends a).1.val * (F_spec_l04Ends a).1.val = r1 at *
    generalize (F_spec_l04Ends a).2.val * (F_spec_l04Ends a).2.val = r2 at *
    generalize u * u = r3 at *
    omega

theorem times_no (x : U64) (w : Wd) (h : 0 ≤ w.hi.val) (h1 : decide ((F_spec_l02Times x x).1.val < (wu64 w.hi.val).val) = false) (h2 : ((F_spec_l02Times x x).1.val == (wu64 w.hi.val).val) = false ∨ decide ((F_spec_l02Times x x).2.val ≤ w.lo.val) = false) : w.z < x.val * x.val := by
  have e := sp_Times x x
  have a1 := (F_spec_l02Times x x).2.lo
  have a2 := (F_spec_l02Times x x).2.hi
  have a3 := w.lo.lo
  have a4 := w.lo.hi
  have a5 := w.hi.hi
  have eh : (wu64 w.hi.val).val = w.hi.val := by rw [wu64_val]; omega
  have hz : w.z = w.hi.val * 18446744073709551616 + w.lo.val := rfl
  generalize x.val * x.val = q at *
  rw [eh] at h1 h2
  simp only [decide_eq_false_iff_not, beq_eq_false_iff_ne, ne_eq] at h1 h2
  rcases h2 with h2 | h2 <;> omega

/-- The root, rounded down: its square is at most the number, the next one's is more. -/
theorem root_max (w : Wd) (h : 0 ≤ w.hi.val) : ∀ (N fu : Nat) (x : U64) (i : I64), i.val = (N : Int) - 1 → N < fu → N ≤ 64 → (∃ k : Int, x.val = 2 ^ N * k) → x.val * x.val ≤ w.z → w.z < (x.val + 2 ^ N) * (x.val + 2 ^ N) →
    (F_spec_l02Root_L0 fu w x i).val * (F_spec_l02Root_L0 fu w x i).val ≤ w.z ∧ w.z < ((F_spec_l02Root_L0 fu w x i).val + 1) * ((F_spec_l02Root_L0 fu w x i).val + 1) := by
  intro N
  induction N with
  | zero =>
    intro fu x i hi hf _ _ h1 h2
    obtain ⟨fu, rfl⟩ := Nat.exists_eq_succ_of_ne_zero (by omega : fu ≠ 0)
    unfold F_spec_l02Root_L0
    have d : decide (i.val ≥ 0) = false := decide_eq_false (by omega)
    rw [d, cond_f]
    exact ⟨h1, by simpa using h2⟩
  | succ N ih =>
    intro fu x i hi hf hN hk h1 h2
    obtain ⟨fu, rfl⟩ := Nat.exists_eq_succ_of_ne_zero (by omega : fu ≠ 0)
    obtain ⟨k, hk⟩ := hk
    have hp : (2 : Int) ^ (N + 1) = 2 ^ N * 2 := Int.pow_succ ..
    have hP : (0 : Int) < 2 ^ N := Int.pow_pos (by omega)
    have d : decide (i.val ≥ 0) = true := decide_eq_true (by omega)
    have ei : (wu64 i.val).val = (N : Int) := by rw [wu64_val]; omega
    have e2 : (w64 (i.val - 1)).val = (N : Int) - 1 := by rw [w64_val]; omega
    have hlt : (2 : Int) ^ N < 18446744073709551616 := by
      have : (2 : Nat) ^ N ≤ 2 ^ 63 := Nat.pow_le_pow_right (by omega) (by omega)
      have e : ((2 : Int) ^ N) = ((2 ^ N : Nat) : Int) := by rw [Int.natCast_pow]; rfl
      rw [e]
      have : (2 : Nat) ^ 63 = 9223372036854775808 := by decide
      omega
    have eb : (ishl .u64 1 (N : Int)).val = 2 ^ N := by
      show IntKind.u64.wrap (1 * 2 ^ (min ((N : Int)).toNat 64)) = _
      rw [IntKind.wrap_u64, Int.toNat_natCast, Nat.min_eq_left (by omega), Int.one_mul, Int.emod_eq_of_lt (by omega) hlt]
    have ey : (ior .u64 x.val (ishl .u64 1 (wu64 i.val).val).val).val = x.val + 2 ^ N := by
      rw [ei, eb]
      have x1 := x.hi
      exact or_add (N + 1) _ _ x.lo (by omega) (by rw [hk, Int.mul_emod_right]) (by omega) (by rw [hp]; omega) hN
    unfold F_spec_l02Root_L0
    simp only [bindP_e, d, cond_t]
    generalize ior .u64 x.val (ishl .u64 1 (wu64 i.val).val).val = y at *
    obtain ⟨c1, c2⟩ := times_cmp y w h
    have yes : y.val * y.val ≤ w.z → (F_spec_l02Root_L0 fu w y (w64 (i.val - 1))).val * (F_spec_l02Root_L0 fu w y (w64 (i.val - 1))).val ≤ w.z ∧ w.z < ((F_spec_l02Root_L0 fu w y (w64 (i.val - 1))).val + 1) * ((F_spec_l02Root_L0 fu w y (w64 (i.val - 1))).val + 1) := fun hy =>
      ih fu y (w64 (i.val - 1)) e2 (by omega) (by omega) ⟨k * 2 + 1, by rw [ey, hk, hp, Int.mul_add, Int.mul_one, Int.mul_assoc, Int.mul_comm 2 k]⟩ hy (by
        have : y.val + 2 ^ N = x.val + 2 ^ (N + 1) := by rw [ey, hp]; omega
        rw [this]; exact h2)
    have no : w.z < y.val * y.val → (F_spec_l02Root_L0 fu w x (w64 (i.val - 1))).val * (F_spec_l02Root_L0 fu w x (w64 (i.val - 1))).val ≤ w.z ∧ w.z < ((F_spec_l02Root_L0 fu w x (w64 (i.val - 1))).val + 1) * ((F_spec_l02Root_L0 fu w x (w64 (i.val - 1))).val + 1) := fun hy =>
      ih fu x (w64 (i.val - 1)) e2 (by omega) (by omega) ⟨2 * k, by rw [hk, hp, Int.mul_assoc]⟩ h1 (by rw [← ey]; exact hy)
    cases q1 : decide ((F_spec_l02Times y y).1.val < (wu64 w.hi.val).val) with
    | true => rw [cond_t]; exact yes (c1 q1)
    | false =>
      rw [cond_f]
      cases q2 : ((F_spec_l02Times y y).1.val == (wu64 w.hi.val).val) with
      | false => rw [cond_f]; exact no (times_no y w h q1 (.inl q2))
      | true =>
        rw [cond_t]
        cases q3 : decide ((F_spec_l02Times y y).2.val ≤ w.lo.val) with
        | false => rw [cond_f]; exact no (times_no y w h q1 (.inr q3))
        | true => rw [cond_t]; exact yes (c2 q2 q3)

/-- The root of a fix, rounded down; the next one's square is more. -/
theorem SqrtDown_max (a : I64) (h0 : 0 ≤ a.val) (h1 : a.val ≤ 1152921504606846976) : ∃ r : I64, F_spec_l03SqrtDown a = (r, true) ∧ 0 ≤ r.val ∧ r.val ≤ 70368744177664 ∧ r.val * r.val ≤ a.val * 4294967296 ∧ a.val * 4294967296 < (r.val + 1) * (r.val + 1) := by
  have hz := sp_Mul a (c64 4294967296)
  rw [c64_v] at hz
  have hq := root_max (F_spec_l02Mul a (c64 4294967296)) (mul_hi a _ h0 (by decide)) 64 65 (cu64 0) (c64 63) (by rw [c64_v]; rfl) (by omega) (by omega) ⟨0, by decide⟩ (by rw [hz]; show (0 : Int) * 0 ≤ _; omega) (by
    rw [hz]
    show _ < ((0 : Int) + 2 ^ 64) * (0 + 2 ^ 64)
    rw [show ((0 : Int) + 2 ^ 64) * (0 + 2 ^ 64) = 340282366920938463463374607431768211456 by decide]
    omega)
  rw [hz] at hq
  have hx0 := (F_spec_l02Root (F_spec_l02Mul a (c64 4294967296))).lo
  have hx1 : (F_spec_l02Root (F_spec_l02Mul a (c64 4294967296))).val ≤ 70368744177664 := sqrt_le (Int.le_trans hq.1 (by omega))
  have e : (w64 (F_spec_l02Root (F_spec_l02Mul a (c64 4294967296))).val).val = (F_spec_l02Root (F_spec_l02Mul a (c64 4294967296))).val := by rw [w64_val]; omega
  refine ⟨w64 (F_spec_l02Root (F_spec_l02Mul a (c64 4294967296))).val, ?_, by omega, by omega, by rw [e]; exact hq.1, by rw [e]; exact hq.2⟩
  unfold F_spec_l03SqrtDown F_spec_SqrtFloor
  have d1 : decide (a.val < 0) = false := decide_eq_false (by omega)
  have d2 : decide ((c64 4294967296).val < 0) = false := by decide
  have d3 : F_spec_l00In a (c64 0) (c64 1152921504606846976) = true := by
    rw [sp_in]
    simp only [Bool.and_eq_true, decide_eq_true_eq, c64_v]
    omega
  simp only [bindP_e, d1, d2, d3, Bool.not_true, cond_f]

theorem SqrtUp_max (a : I64) (h0 : 0 ≤ a.val) (h1 : a.val ≤ 1152921504606846976) : ∃ r : I64, F_spec_l03SqrtUp a = (r, true) ∧ 0 ≤ r.val ∧ a.val * 4294967296 ≤ r.val * r.val := by
  obtain ⟨r, e1, r0, r1, r2, r3⟩ := SqrtDown_max a h0 h1
  unfold F_spec_l03SqrtUp
  simp only [bindP_e, e1, Bool.not_true, cond_f]
  have s0 : 0 ≤ r.val * r.val := Int.mul_nonneg r0 r0
  have s1 : r.val * r.val ≤ 4951760157141521099596496896 := Int.le_trans r2 (by omega)
  have p1 := sp_Mul r r
  have hm : ∃ n : I64, F_spec_MulFloor r r (c64 32) = (n, true) ∧ n.val = r.val * r.val / 4294967296 := by
    have hz : (F_spec_l02Shift (F_spec_l02Mul r r) (c64 32)).z = r.val * r.val / 4294967296 := by rw [Shift_z32, p1]
    obtain ⟨n, k1, k2⟩ := Int_in (F_spec_l02Shift (F_spec_l02Mul r r) (c64 32)) (by rw [hz]; omega) (by rw [hz]; omega)
    refine ⟨n, ?_, by rw [k1, hz]⟩
    unfold F_spec_MulFloor
    have e3 : F_spec_l00In (c64 32) (c64 0) (c64 126) = true := by decide
    simp only [bindP_e, k2, e3, Bool.not_true, cond_f]
  obtain ⟨n, hn, hnv⟩ := hm
  have hl := and_low (r.val * r.val) s0
  have er : (w64 (r.val + 1)).val = r.val + 1 := by rw [w64_val]; omega
  rw [hn]
  simp only [hl]
  by_cases b : n.val = a.val
  · have b1 : (n.val != a.val) = false := by simp only [bne_eq_false_iff_eq]; exact b
    by_cases c : r.val * r.val % 4294967296 = 0
    · have b2 : (r.val * r.val % 4294967296 != 0) = false := by simp only [bne_eq_false_iff_eq]; exact c
      refine ⟨r, by simp only [b1, b2, cond_f], r0, ?_⟩
      generalize r.val * r.val = q at *
      omega
    · have b2 : (r.val * r.val % 4294967296 != 0) = true := by simp only [bne_iff_ne, ne_eq]; exact c
      refine ⟨w64 (r.val + 1), by simp only [b1, b2, cond_f, cond_t], by omega, ?_⟩
      rw [er]; omega
  · have b1 : (n.val != a.val) = true := by simp only [bne_iff_ne, ne_eq]; exact b
    refine ⟨w64 (r.val + 1), by simp only [b1, cond_t], by omega, ?_⟩
    rw [er]; omega

theorem SqrtI_out {a : Iv} (h : F_spec_l04Ok (F_spec_SqrtI a) = true) : F_spec_l04Ok a = true ∧ 0 ≤ a.lo.val ∧ 0 ≤ (F_spec_SqrtI a).lo.val ∧ (F_spec_SqrtI a).lo.val * (F_spec_SqrtI a).lo.val ≤ a.lo.val * 4294967296 ∧ a.hi.val * 4294967296 ≤ (F_spec_SqrtI a).hi.val * (F_spec_SqrtI a).hi.val := by
  unfold F_spec_SqrtI at h ⊢
  simp only [bindP_e] at h ⊢
  cases ha : F_spec_l04Ok a with
  | false => rw [ha] at h; simp only [Bool.not_false, cond_t, whole_bad] at h; cases h
  | true =>
  have pa := Ok4p ha
  by_cases hn : a.lo.val < 0
  · simp only [ha, decide_eq_true hn, Bool.not_true, cond_f, cond_t, whole_bad] at h
    cases h
  · obtain ⟨r, e1, k1, _, k2, _⟩ := SqrtDown_max a.lo (by omega) (by omega)
    obtain ⟨s, e2, _, k3⟩ := SqrtUp_max a.hi (by omega) (by omega)
    simp only [ha, decide_eq_false hn, e1, e2, Bool.not_true, cond_f] at h ⊢
    rw [Make_out h]
    exact ⟨trivial, by omega, k1, k2, k3⟩

/-- The triangle's law, in whole numbers. -/
theorem lagrange (p1 p2 q1 q2 : Int) : (p1 * p1 + p2 * p2) * (q1 * q1 + q2 * q2) = (p1 * q1 + p2 * q2) * (p1 * q1 + p2 * q2) + (p1 * q2 - p2 * q1) * (p1 * q2 - p2 * q1) := by grind

theorem sq_sum (p1 p2 q1 q2 : Int) : (p1 + q1) * (p1 + q1) + (p2 + q2) * (p2 + q2) = (p1 * p1 + p2 * p2) + (q1 * q1 + q2 * q2) + 2 * (p1 * q1 + p2 * q2) := by grind

theorem sq_nonneg (x : Int) : 0 ≤ x * x := by
  by_cases h : 0 ≤ x
  · exact Int.mul_nonneg h h
  · have := Int.mul_nonneg (a := -x) (b := -x) (by omega) (by omega)
    rwa [Int.neg_mul_neg] at this

theorem triangle (p1 p2 q1 q2 U V W : Int) (hU : 0 ≤ U) (hV : 0 ≤ V) (h1 : p1 * p1 + p2 * p2 ≤ U * U) (h2 : q1 * q1 + q2 * q2 ≤ V * V) (h3 : W * W ≤ (p1 + q1) * (p1 + q1) + (p2 + q2) * (p2 + q2)) : W ≤ U + V := by
  by_cases hW : W ≤ U + V
  · exact hW
  · exfalso
    have w1 : (U + V + 1) * (U + V + 1) ≤ W * W := Int.mul_le_mul (by omega) (by omega) (by omega) (by omega)
    have w2 : (U + V + 1) * (U + V + 1) = U * U + V * V + 2 * (U * V) + 2 * (U + V) + 1 := by grind
    have uv : 0 ≤ U * V := Int.mul_nonneg hU hV
    have hs := sq_sum p1 p2 q1 q2
    have hl := lagrange p1 p2 q1 q2
    have hn := sq_nonneg (p1 * q2 - p2 * q1)
    have a0 := sq_nonneg p1
    have a1 := sq_nonneg p2
    have b0 := sq_nonneg q1
    have b1 := sq_nonneg q2
    have hd : U * V < p1 * q1 + p2 * q2 := by omega
    have h4 : (p1 * p1 + p2 * p2) * (q1 * q1 + q2 * q2) ≤ (U * U) * (V * V) := Int.mul_le_mul h1 h2 (by omega) (Int.mul_nonneg hU hU)
    have h5 : (U * V + 1) * (U * V + 1) ≤ (p1 * q1 + p2 * q2) * (p1 * q1 + p2 * q2) := Int.mul_le_mul (by omega) (by omega) (by omega) (by omega)
    have h6 : (U * V + 1) * (U * V + 1) = (U * U) * (V * V) + 2 * (U * V) + 1 := by grind
    omega

/-- The distance of two plane points, as an interval. -/
def distI (x y : Pn) : Iv := F_spec_SqrtI (F_spec_AddI (F_spec_SqrI (F_spec_SubI x.x y.x)) (F_spec_SqrI (F_spec_SubI x.y y.y)))

theorem dist_out {x y : Pn} (h : F_spec_l04Ok (distI x y) = true) : F_spec_l04Ok x.x = true ∧ F_spec_l04Ok x.y = true ∧ F_spec_l04Ok y.x = true ∧ F_spec_l04Ok y.y = true ∧ 0 ≤ (distI x y).lo.val ∧
    ∀ u1 u2 v1 v2 : Int, x.x.lo.val ≤ u1 → u1 ≤ x.x.hi.val → x.y.lo.val ≤ u2 → u2 ≤ x.y.hi.val → y.x.lo.val ≤ v1 → v1 ≤ y.x.hi.val → y.y.lo.val ≤ v2 → v2 ≤ y.y.hi.val →
      (distI x y).lo.val * (distI x y).lo.val ≤ (u1 - v1) * (u1 - v1) + (u2 - v2) * (u2 - v2) ∧ (u1 - v1) * (u1 - v1) + (u2 - v2) * (u2 - v2) ≤ (distI x y).hi.val * (distI x y).hi.val := by
  unfold distI at h ⊢
  obtain ⟨h1, _, k0, k1, k2⟩ := SqrtI_out h
  obtain ⟨h2, h3, e1, e2⟩ := AddI_out h1
  obtain ⟨h4, s0, s1⟩ := SqrI_out h2
  obtain ⟨h5, t0, t1⟩ := SqrI_out h3
  obtain ⟨g1, g2, l1, l2⟩ := SubI_out h4
  obtain ⟨g3, g4, l3, l4⟩ := SubI_out h5
  refine ⟨g1, g3, g2, g4, k0, fun u1 u2 v1 v2 a1 a2 a3 a4 a5 a6 a7 a8 => ?_⟩
  have q1 := s1 (u1 - v1) (by omega) (by omega)
  have q2 := t1 (u2 - v2) (by omega) (by omega)
  rw [e1] at k1
  rw [e2] at k2
  generalize (u1 - v1) * (u1 - v1) = r1 at *
  generalize (u2 - v2) * (u2 - v2) = r2 at *
  constructor <;> omega

theorem max_comm (a b : I64) : F_spec_l00Max a b = F_spec_l00Max b a := by
  refine IK.eq ?_
  have h1 := max_out a b
  have h2 := max_out b a
  have h3 := max_is a b
  have h4 := max_is b a
  omega

theorem min_comm (a b : I64) : F_spec_l00Min a b = F_spec_l00Min b a := by
  refine IK.eq ?_
  have h1 := min_out a b
  have h2 := min_out b a
  have h3 := min_is a b
  have h4 := min_is b a
  omega

theorem Ends_neg {a b : Iv} (ha : F_spec_l04Ok a = true) (h1 : b.lo.val = -a.hi.val) (h2 : b.hi.val = -a.lo.val) : F_spec_l04Ends b = F_spec_l04Ends a := by
  have pa := Ok4p ha
  have e1 : w64 (0 - b.lo.val) = a.hi := IK.eq (by rw [w64_val]; omega)
  have e2 : w64 (0 - b.hi.val) = a.lo := IK.eq (by rw [w64_val]; omega)
  have e3 : w64 (0 - a.lo.val) = b.hi := IK.eq (by rw [w64_val]; omega)
  have e4 : w64 (0 - a.hi.val) = b.lo := IK.eq (by rw [w64_val]; omega)
  have eh : F_spec_l04Has b (c64 0) = F_spec_l04Has a (c64 0) := by
    unfold F_spec_l04Has
    rw [bindP_e, bindP_e, sp_in, sp_in, c64_v, h1, h2]
    by_cases q1 : a.lo.val ≤ 0
    · by_cases q2 : 0 ≤ a.hi.val
      · rw [decide_eq_true q1, decide_eq_true q2, decide_eq_true (show -a.hi.val ≤ 0 by omega), decide_eq_true (show 0 ≤ -a.lo.val by omega)]
      · rw [decide_eq_true q1, decide_eq_false q2, decide_eq_false (show ¬ -a.hi.val ≤ 0 by omega)]; rfl
    · rw [decide_eq_false q1, decide_eq_false (show ¬ 0 ≤ -a.lo.val by omega), Bool.and_false, Bool.false_and]
  unfold F_spec_l04Ends
  simp only [bindP_e, e1, e2, e3, e4, eh, max_comm b.lo a.hi, max_comm b.hi a.lo]
  rw [max_comm (F_spec_l00Max a.hi b.lo), min_comm (F_spec_l00Max a.hi b.lo)]

theorem SqrI_neg {a b : Iv} (ha : F_spec_l04Ok a = true) (h1 : b.lo.val = -a.hi.val) (h2 : b.hi.val = -a.lo.val) : F_spec_SqrI b = F_spec_SqrI a := by
  have pa := Ok4p ha
  have hb : F_spec_l04Ok b = true := Ok4_of (by omega)
  unfold F_spec_SqrI
  simp only [bindP_e, ha, hb, Ends_neg ha h1 h2]

theorem SubI_ok {a b : Iv} (ha : F_spec_l04Ok a = true) (hb : F_spec_l04Ok b = true) : F_spec_SubI a b = F_spec_l04Make (w64 (a.lo.val - b.hi.val)) (w64 (a.hi.val - b.lo.val)) := by
  unfold F_spec_SubI
  simp only [bindP_e, ha, hb, Bool.not_true, cond_f]

theorem SubI_back {a b : Iv} (h : F_spec_l04Ok (F_spec_SubI a b) = true) : F_spec_SqrI (F_spec_SubI b a) = F_spec_SqrI (F_spec_SubI a b) := by
  obtain ⟨ha, hb, l1, l2⟩ := SubI_out h
  have p := Ok4p h
  have pa := Ok4p ha
  have pb := Ok4p hb
  have e1 : (w64 (b.lo.val - a.hi.val)).val = b.lo.val - a.hi.val := by rw [w64_val]; omega
  have e2 : (w64 (b.hi.val - a.lo.val)).val = b.hi.val - a.lo.val := by rw [w64_val]; omega
  have hm : F_spec_SubI b a = ⟨w64 (b.lo.val - a.hi.val), w64 (b.hi.val - a.lo.val)⟩ := by
    rw [SubI_ok hb ha]
    exact Make_ok (by omega)
  refine SqrI_neg h ?_ ?_
  · rw [hm]; show (w64 (b.lo.val - a.hi.val)).val = _; omega
  · rw [hm]; show (w64 (b.hi.val - a.lo.val)).val = _; omega

theorem dist_comm {x y : Pn} (h : F_spec_l04Ok (distI x y) = true) : distI y x = distI x y := by
  have h0 := h
  unfold distI at h ⊢
  obtain ⟨h1, _⟩ := SqrtI_out h
  obtain ⟨h2, h3, _⟩ := AddI_out h1
  obtain ⟨h4, _⟩ := SqrI_out h2
  obtain ⟨h5, _⟩ := SqrI_out h3
  rw [SubI_back h4, SubI_back h5]

theorem over_of {a b : Iv} {n : Int} (h1 : a.lo.val ≤ n) (h2 : n ≤ a.hi.val) (h3 : b.lo.val ≤ n) (h4 : n ≤ b.hi.val) : F_spec_OverlapI a b = true := by
  unfold F_spec_OverlapI F_spec_MeetI
  have m1 := max_is a.lo b.lo
  have m2 := min_is a.hi b.hi
  have d : decide ((F_spec_l00Max a.lo b.lo).val > (F_spec_l00Min a.hi b.hi).val) = false := decide_eq_false (by omega)
  simp only [bindP_e, d, cond_f]
  cases F_spec_l04Ok a <;> cases F_spec_l04Ok b <;> simp only [Bool.not_false, Bool.not_true, cond_t, cond_f]

theorem over_badD {a b : Iv} (h : F_spec_l04Ok a = false ∨ F_spec_l04Ok b = false) : F_spec_OverlapI a b = true := by
  unfold F_spec_OverlapI F_spec_MeetI
  simp only [bindP_e]
  rcases h with h | h
  · rw [h]
    cases F_spec_l04Ok b <;> simp only [Bool.not_false, Bool.not_true, cond_t, cond_f]
  · rw [h]
    cases F_spec_l04Ok a <;> simp only [Bool.not_false, Bool.not_true, cond_t, cond_f]

/-- What is divided and multiplied again meets itself. -/
theorem over_back {d c : Iv} (h : F_spec_l04Ok (F_spec_DivI d c) = true) : F_spec_OverlapI (F_spec_MulI (F_spec_DivI d c) c) d = true := by
  cases hm : F_spec_l04Ok (F_spec_MulI (F_spec_DivI d c) c) with
  | false => exact over_badD (.inl hm)
  | true =>
    obtain ⟨hd, hc, sg, hv⟩ := DivI_out h
    obtain ⟨_, _, m1, m2, m3, m4, m5, m6, m7, m8⟩ := MulI_out hm
    have pd := Ok4p hd
    have pc := Ok4p hc
    obtain ⟨v1, v2⟩ := hv d.lo.val c.lo.val (.inl rfl) (.inl rfl)
    refine over_of (n := d.lo.val) ?_ ?_ (Int.le_refl _) (by omega)
    · rcases sg with hp | hn
      · have := v1 hp; omega
      · have := v2 (by omega); omega
    · rcases sg with hp | hn
      · have := v1 hp; omega
      · have := v2 (by omega); omega

theorem n_of {a : I64} (h : (a.val != 0) = false) : a.val = 0 := by
  simp only [bne_eq_false_iff_eq] at h
  exact h

/-- A distance is known when both points have a place on the map. -/
theorem dist_mk {p : Pj} {a b : Pt} (h1 : ((F_impl_Project p a).2.val != 0) = false) (h2 : ((F_impl_Project p b).2.val != 0) = false) (h3 : F_spec_l04Ok (distI (F_impl_Project p a).1 (F_impl_Project p b).1) = true) : F_impl_MapDistance p a b = (distI (F_impl_Project p a).1 (F_impl_Project p b).1, c64 0) := by
  unfold F_impl_MapDistance F_impl_knownI
  unfold distI at h3 ⊢
  simp only [bindP_e, h1, h2, cond_f, eq_SubI, eq_SqrI, eq_AddI, eq_SqrtI, eq_IsWhole, h3, Bool.not_true]

theorem dist_ok {p : Pj} {a b : Pt} (h : ((F_impl_MapDistance p a b).2.val == 0) = true) : ((F_impl_Project p a).2.val != 0) = false ∧ ((F_impl_Project p b).2.val != 0) = false ∧ F_spec_l04Ok (distI (F_impl_Project p a).1 (F_impl_Project p b).1) = true := by
  cases h1 : ((F_impl_Project p a).2.val != 0) with
  | true =>
    exfalso
    unfold F_impl_MapDistance at h
    simp only [bindP_e, h1, cond_t] at h
    simp only [bne_iff_ne, ne_eq, beq_iff_eq] at h h1
    exact h1 h
  | false =>
  cases h2 : ((F_impl_Project p b).2.val != 0) with
  | true =>
    exfalso
    unfold F_impl_MapDistance at h
    simp only [bindP_e, h1, h2, cond_t, cond_f] at h
    simp only [bne_iff_ne, ne_eq, beq_iff_eq] at h h2
    exact h2 h
  | false =>
  cases h3 : F_spec_l04Ok (distI (F_impl_Project p a).1 (F_impl_Project p b).1) with
  | true => exact ⟨rfl, rfl, rfl⟩
  | false =>
    exfalso
    unfold F_impl_MapDistance F_impl_knownI at h
    unfold distI at h3
    simp only [bindP_e, h1, h2, cond_f, eq_SubI, eq_SqrI, eq_AddI, eq_SqrtI, eq_IsWhole, h3, Bool.not_false, cond_t] at h
    revert h
    decide

theorem stretch_ok {p : Pj} {a b : Pt} (h : ((F_impl_StretchOf p a b).2.val != 0) = false) : ((F_impl_MapDistance p a b).2.val == 0) = true ∧ ((F_spec_AngleBetween a b).2.val == 0) = true ∧ F_spec_l04Ok (F_spec_DivI (F_impl_MapDistance p a b).1 (F_spec_AngleBetween a b).1) = true ∧ (F_impl_StretchOf p a b).1 = F_spec_DivI (F_impl_MapDistance p a b).1 (F_spec_AngleBetween a b).1 := by
  unfold F_impl_StretchOf at h ⊢
  simp only [bindP_e, eq_AngleBetween, eq_DivI] at h ⊢
  cases h1 : ((F_impl_MapDistance p a b).2.val != 0) with
  | true =>
    exfalso
    rw [h1, cond_t] at h
    rw [h1] at h
    cases h
  | false =>
  cases h2 : ((F_spec_AngleBetween a b).2.val != 0) with
  | true =>
    exfalso
    simp only [h1, h2, cond_t, cond_f] at h
    cases h
  | false =>
  simp only [h1, h2, cond_f] at h ⊢
  unfold F_impl_knownI at h ⊢
  simp only [bindP_e, eq_IsWhole] at h ⊢
  cases h3 : F_spec_l04Ok (F_spec_DivI (F_impl_MapDistance p a b).1 (F_spec_AngleBetween a b).1) with
  | false =>
    exfalso
    simp only [h3, Bool.not_false, cond_t] at h
    revert h
    decide
  | true =>
    refine ⟨?_, ?_, rfl, ?_⟩
    · rw [n_of h1]; rfl
    · rw [n_of h2]; rfl
    · simp only [Bool.not_true, cond_f]

theorem over_self {x : Iv} (h : F_spec_l04Ok x = true) : F_spec_OverlapI x x = true := over_of (Int.le_refl _) (Ok4p h).2.1 (Int.le_refl _) (Ok4p h).2.1

theorem dist_zero {x : Pn} (h : F_spec_l04Ok (distI x x) = true) : F_spec_HasI (distI x x) (c64 0) = true := by
  obtain ⟨h1, h2, _, _, h0, hv⟩ := dist_out h
  have p1 := Ok4p h1
  have p2 := Ok4p h2
  have pd := Ok4p h
  obtain ⟨v1, _⟩ := hv _ _ _ _ (Int.le_refl _) p1.2.1 (Int.le_refl _) p2.2.1 (Int.le_refl _) p1.2.1 (Int.le_refl _) p2.2.1
  rw [Int.sub_self, Int.sub_self, Int.mul_zero] at v1
  have hz : (distI x x).lo.val ≤ 0 := by
    by_cases hq : (distI x x).lo.val ≤ 0
    · exact hq
    · have := Int.mul_pos (a := (distI x x).lo.val) (b := (distI x x).lo.val) (by omega) (by omega)
      omega
  unfold F_spec_HasI F_spec_l04Has
  rw [bindP_e, bindP_e, bindP_e, h, Bool.not_true, cond_f, sp_in, c64_v, decide_eq_true hz, decide_eq_true (show (0 : Int) ≤ (distI x x).hi.val by omega)]
  rfl

theorem dist_long {x y z : Pn} (h1 : F_spec_l04Ok (distI x y) = true) (h2 : F_spec_l04Ok (distI x z) = true) (h3 : F_spec_l04Ok (distI z y) = true) : ((F_spec_LessI (F_spec_AddI (distI x z) (distI z y)) (distI x y)).val == 1) = false := by
  cases h4 : F_spec_l04Ok (F_spec_AddI (distI x z) (distI z y)) with
  | false =>
    unfold F_spec_LessI
    simp only [bindP_e, h4, Bool.not_false, cond_t, c64_v]
    decide
  | true =>
    obtain ⟨_, _, _, ea⟩ := AddI_out h4
    obtain ⟨a1, a2, a3, a4, a5, av⟩ := dist_out h1
    obtain ⟨b1, b2, b3, b4, b5, bv⟩ := dist_out h2
    obtain ⟨c1, c2, c3, c4, c5, cv⟩ := dist_out h3
    have p1 := Ok4p a1
    have p2 := Ok4p a2
    have p3 := Ok4p a3
    have p4 := Ok4p a4
    have p5 := Ok4p b3
    have p6 := Ok4p b4
    have q2 := Ok4p h2
    have q3 := Ok4p h3
    obtain ⟨u1, _⟩ := av _ _ _ _ (Int.le_refl _) p1.2.1 (Int.le_refl _) p2.2.1 (Int.le_refl _) p3.2.1 (Int.le_refl _) p4.2.1
    obtain ⟨_, u2⟩ := bv _ _ _ _ (Int.le_refl _) p1.2.1 (Int.le_refl _) p2.2.1 (Int.le_refl _) p5.2.1 (Int.le_refl _) p6.2.1
    obtain ⟨_, u3⟩ := cv _ _ _ _ (Int.le_refl _) p5.2.1 (Int.le_refl _) p6.2.1 (Int.le_refl _) p3.2.1 (Int.le_refl _) p4.2.1
    have e1 : x.x.lo.val - y.x.lo.val = (x.x.lo.val - z.x.lo.val) + (z.x.lo.val - y.x.lo.val) := by omega
    have e2 : x.y.lo.val - y.y.lo.val = (x.y.lo.val - z.y.lo.val) + (z.y.lo.val - y.y.lo.val) := by omega
    rw [e1, e2] at u1
    have ht := triangle _ _ _ _ _ _ _ (show 0 ≤ (distI x z).hi.val by omega) (show 0 ≤ (distI z y).hi.val by omega) u2 u3 u1
    have hn : decide ((F_spec_AddI (distI x z) (distI z y)).hi.val < (distI x y).lo.val) = false := decide_eq_false (by omega)
    unfold F_spec_LessI
    simp only [bindP_e, h4, h1, hn, Bool.not_true, cond_f]
    cases decide ((F_spec_AddI (distI x z) (distI z y)).lo.val ≥ (distI x y).hi.val) <;> decide

theorem pure_FnDistances (c0 c1 : Cd) : F_laws_FnDistances c0 c1 = true := by
  unfold F_laws_FnDistances
  rw [bindP_e]
  cases F_laws_a2Long c0 c1 with
  | true => rw [cond_t]
  | false =>
  rw [cond_f, bindP_e, bindP_e]
  generalize F_spec_A2Projection c0 (c64 1) (c64 16) = g
  generalize F_spec_A2Points c1 = t
  obtain ⟨p, a⟩ := g
  obtain ⟨b, r, w⟩ := t
  dsimp only
  simp only [bindP_e]
  have five : (bif ((F_impl_MapDistance p a a).2.val == 0) then F_spec_HasI (F_impl_MapDistance p a a).1 (c64 0) else true) = true := by
    cases h : ((F_impl_MapDistance p a a).2.val == 0) with
    | false => rfl
    | true =>
      obtain ⟨h1, h2, h3⟩ := dist_ok h
      rw [cond_t, dist_mk h1 h2 h3]
      exact dist_zero h3
  cases e1 : ((F_impl_MapDistance p a b).2.val == 0) with
  | false =>
    have e2 : ((F_impl_MapDistance p b a).2.val != 0) = true := by
      cases h : ((F_impl_MapDistance p b a).2.val != 0) with
      | true => rfl
      | false =>
        obtain ⟨h1, h2, h3⟩ := dist_ok (p := p) (a := b) (b := a) (by rw [n_of h]; rfl)
        rw [dist_mk h2 h1 (by rw [dist_comm h3]; exact h3)] at e1
        cases e1
    have e3 : ((F_impl_MapDistance p a b).2.val != 0) = true := by
      rw [bne, e1]; rfl
    have six : ((F_impl_StretchOf p a b).2.val != 0) = true := by
      cases h : ((F_impl_StretchOf p a b).2.val != 0) with
      | true => rfl
      | false => rw [(stretch_ok h).1] at e1; cases e1
    simp only [e2, e3, six, cond_t, cond_f]
    cases ((F_impl_MapDistance p a b).2.val != (F_impl_MapDistance p b a).2.val) with
    | true => rw [cond_t]
    | false =>
      rw [cond_f]
      cases h5 : ((F_impl_MapDistance p a a).2.val == 0) with
      | false => rw [cond_f]
      | true =>
        rw [h5, cond_t] at five
        rw [five]
        rfl
  | true =>
    obtain ⟨h1, h2, h3⟩ := dist_ok e1
    have hx := dist_mk h1 h2 h3
    have hy : F_impl_MapDistance p b a = F_impl_MapDistance p a b := by
      rw [hx, dist_mk h2 h1 (by rw [dist_comm h3]; exact h3), dist_comm h3]
    have ov : F_spec_OverlapI (F_impl_MapDistance p a b).1 (F_impl_MapDistance p a b).1 = true := by
      rw [hx]; exact over_self h3
    have rest : (bif ((F_impl_StretchOf p a b).2.val != 0) then true else (bif ((F_spec_AngleBetween a b).2.val == 0) then F_spec_OverlapI (F_spec_MulI (F_impl_StretchOf p a b).1 (F_spec_AngleBetween a b).1) (F_impl_MapDistance p a b).1 else false)) = true := by
      cases h : ((F_impl_StretchOf p a b).2.val != 0) with
      | true => rfl
      | false =>
        obtain ⟨_, s2, s3, s4⟩ := stretch_ok h
        rw [s2, s4, cond_f, cond_t]
        exact over_back s3
    have tri : ((F_impl_MapDistance p a r).2.val == 0) = true → ((F_impl_MapDistance p r b).2.val == 0) = true → ((F_spec_LessI (F_spec_AddI (F_impl_MapDistance p a r).1 (F_impl_MapDistance p r b).1) (F_impl_MapDistance p a b).1).val == 1) = false := fun k1 k2 => by
      obtain ⟨_, k3, k4⟩ := dist_ok k1
      obtain ⟨_, _, k5⟩ := dist_ok k2
      rw [hx, dist_mk h1 k3 k4, dist_mk k3 h2 k5]
      exact dist_long h3 k4 k5
    simp only [hy, e1, ov, rest, bne_self_eq_false, Bool.not_true, cond_t, cond_f]
    cases k1 : ((F_impl_MapDistance p a r).2.val == 0) with
    | false =>
      simp only [cond_f]
      cases h5 : ((F_impl_MapDistance p a a).2.val == 0) with
      | false => rw [cond_f]
      | true => rw [h5, cond_t] at five; rw [five]; rfl
    | true =>
    cases k2 : ((F_impl_MapDistance p r b).2.val == 0) with
    | false =>
      simp only [cond_t, cond_f]
      cases h5 : ((F_impl_MapDistance p a a).2.val == 0) with
      | false => rw [cond_f]
      | true => rw [h5, cond_t] at five; rw [five]; rfl
    | true =>
      simp only [tri k1 k2, cond_t, cond_f]
      cases h5 : ((F_impl_MapDistance p a a).2.val == 0) with
      | false => rw [cond_f]
      | true => rw [h5, cond_t] at five; rw [five]; rfl

end Go.Proofs.YtbpkpmmmeneagaaGreat.Abs
