/- Plain laws of the functions on numbers: what the program computes is what the reference computes. -/
import Derived.Test.YtgofhiehdpggkaaGreatQq
import Derived.Test.YtgofhiehdpggkaaGreatF5
set_option linter.unusedVariables false
set_option linter.unusedSimpArgs false
namespace Go.Proofs.YtgofhiehdpggkaaGreat.Abs
open Go

/-- The end of the logarithm: of the number m, which is divided by a power of 2. -/
def logEnd (e : I64) (m : Iv) : Iv :=
  bindP (F_spec_DivI (F_spec_SubI m (F_spec_Integer (c64 1))) (F_spec_AddI m (F_spec_Integer (c64 1)))) fun z => bindP (F_spec_SqrI z) fun q =>
  F_spec_AddI (F_spec_LogTwoI e) (F_spec_l08Widen (F_spec_MulI (F_spec_MulI (F_spec_Integer (c64 2)) z)
    (F_spec_AddI (F_spec_Quotient (c64 1) (c64 1)) (F_spec_MulI q (F_spec_AddI (F_spec_Quotient (c64 1) (c64 3)) (F_spec_MulI q (F_spec_AddI (F_spec_Quotient (c64 1) (c64 5)) (F_spec_MulI q (F_spec_AddI (F_spec_Quotient (c64 1) (c64 7)) (F_spec_MulI q (F_spec_AddI (F_spec_Quotient (c64 1) (c64 9)) (F_spec_MulI q (F_spec_Quotient (c64 1) (c64 11))))))))))))) (c64 1))

theorem log_L1_end (fu : Nat) (a e : I64) (m : Iv) (h : ¬ m.lo.val < 3221225472) : F_spec_LogAt_L1 (fu + 1) a e m = logEnd e m := by
  unfold F_spec_LogAt_L1 logEnd
  simp only [bindP_e, decide_eq_false h, cond_f, eq_One8]

theorem log_up (a : I64) (ha : 1 ≤ a.val) : ∀ (fu : Nat) (e : I64) (m : Iv), -1000 ≤ e.val → e.val ≤ 0 → m = ⟨ishl .i64 a.val (w64 (0 - e.val)).val, ishl .i64 a.val (w64 (0 - e.val)).val⟩ → a.val * 2 ^ (0 - e.val).toNat < 6442450944 → (64 + e.val).toNat < fu →
    ∃ q : I64, F_impl_twosOf_L1 fu a e = q ∧ q.val ≤ 0 ∧ -40 ≤ q.val ∧ F_spec_LogAt_L1 fu a e m = logEnd q ⟨ishl .i64 a.val (w64 (0 - q.val)).val, ishl .i64 a.val (w64 (0 - q.val)).val⟩ ∧ (ishl .i64 a.val (w64 (0 - q.val)).val).val < 6442450944 ∧ 0 ≤ (ishl .i64 a.val (w64 (0 - q.val)).val).val := by
  intro fu
  induction fu with
  | zero => intro e m _ _ _ _ h; exact absurd h (Nat.not_lt_zero _)
  | succ fu ih =>
    intro e m hl he hm hb hf
    have hu := two_up a e hb ha he
    have hn : (w64 (0 - e.val)).val = 0 - e.val := by rw [w64_val]; omega
    have hs := shl_val_lo a e (w64 (0 - e.val)) hb ha he hn
    have hp : (0 : Int) ≤ a.val * 2 ^ (0 - e.val).toNat := Int.mul_nonneg (by omega) (Int.le_of_lt (Int.pow_pos (by decide)))
    have hml : m.lo.val = a.val * 2 ^ (0 - e.val).toNat := by rw [hm]; exact hs
    by_cases h : m.lo.val < 3221225472
    · have h1 : decide ((ishl .i64 a.val (w64 (0 - e.val)).val).val < 3221225472) = true := decide_eq_true (by rw [hs]; omega)
      have e1 : (w64 (e.val - 1)).val = e.val - 1 := by rw [w64_val]; omega
      have e2 : F_impl_twosOf_L1 (fu + 1) a e = F_impl_twosOf_L1 fu a (w64 (e.val - 1)) := by
        rw [F_impl_twosOf_L1, decide_eq_true he, cond_t, h1, cond_t]
      have e0 : (w64 (0 - (w64 (e.val - 1)).val)).val = 0 - (w64 (e.val - 1)).val := by rw [e1, w64_val]; omega
      have e3 : F_spec_LogAt_L1 (fu + 1) a e m = F_spec_LogAt_L1 fu a (w64 (e.val - 1)) ⟨ishl .i64 a.val (w64 (0 - (w64 (e.val - 1)).val)).val, ishl .i64 a.val (w64 (0 - (w64 (e.val - 1)).val)).val⟩ := by
        rw [F_spec_LogAt_L1, decide_eq_true h, cond_t, wu_nn (w64 (0 - (w64 (e.val - 1)).val)) (by rw [e0, e1]; omega)]
      rw [e2, e3]
      exact ih (w64 (e.val - 1)) _ (by omega) (by omega) rfl (by rw [e1, pow_step a.val e.val he]; omega) (by omega)
    · have h1 : decide ((ishl .i64 a.val (w64 (0 - e.val)).val).val < 3221225472) = false := decide_eq_false (by rw [hs]; omega)
      refine ⟨e, ?_, he, by omega, ?_, by rw [hs]; exact hb, by rw [hs]; exact hp⟩
      · rw [F_impl_twosOf_L1, decide_eq_true he, cond_t, h1, cond_f]
      · rw [log_L1_end _ _ _ _ h, hm]

/-- The number that is divided by a power of 2. -/
def logM (a e : I64) : Iv := bif decide (e.val > 0) then ⟨ishr a e.val, w64 (0 - (ishr (w64 (0 - a.val)) e.val).val)⟩ else ⟨ishl .i64 a.val (w64 (0 - e.val)).val, ishl .i64 a.val (w64 (0 - e.val)).val⟩

theorem logM_zero (a e : I64) (h : e.val = 0) : logM a e = ⟨a, a⟩ := by
  unfold logM
  have h0 : decide (e.val > 0) = false := decide_eq_false (by omega)
  have e0 : (w64 (0 - e.val)).val = 0 := by rw [w64_val, h]; rfl
  have : ishl .i64 a.val 0 = a := IK.eq (by
    show IntKind.i64.wrap (a.val * 2 ^ 0) = a.val
    rw [Int.pow_zero, Int.mul_one, IntKind.wrap_i64]
    have := a.lo
    have := a.hi
    omega)
  rw [h0, cond_f, e0, this]

theorem log_down (a : I64) (ha : 1 ≤ a.val) (ha2 : a.val ≤ 1152921504606846976) : ∀ (fu : Nat) (e : I64) (m : Iv), 0 ≤ e.val → e.val ≤ 28 → m = logM a e → (e.val = 0 ∨ 3221225472 ≤ m.lo.val) → (64 - e.val).toNat < fu →
    ∃ q : I64, F_impl_twosOf_L0 fu a e = q ∧ -40 ≤ q.val ∧ q.val ≤ 28 ∧ F_spec_LogAt_L0 fu a e m = logEnd q (logM a q) ∧ (q.val ≤ 0 → -1152921504606846976 < (ishl .i64 a.val (w64 (0 - q.val)).val).val ∧ (ishl .i64 a.val (w64 (0 - q.val)).val).val < 1152921504606846976) := by
  intro fu
  induction fu with
  | zero => intro e m _ _ _ _ h; exact absurd h (Nat.not_lt_zero _)
  | succ fu ih =>
    intro e m h0 h28 hm hc hf
    have hml : m.lo.val = (ishr a e.val).val := by
      rw [hm]
      by_cases hz : e.val = 0
      · rw [logM_zero a e hz, hz, shr0']
      · unfold logM
        rw [decide_eq_true (by omega : e.val > 0), cond_t]
    by_cases h : m.lo.val ≥ 6442450944
    · have h1 : decide ((ishr a e.val).val ≥ 6442450944) = true := decide_eq_true (by rw [← hml]; exact h)
      have b := spec_shr_big a e m ha2 h0 (by omega) (by rw [wu_nn e h0]; exact hml) (decide_eq_true h)
      have e1 : (w64 (e.val + 1)).val = e.val + 1 := by rw [w64_val]; omega
      have e2 : F_impl_twosOf_L0 (fu + 1) a e = F_impl_twosOf_L0 fu a (w64 (e.val + 1)) := by rw [F_impl_twosOf_L0, h1, cond_t]
      have hw := wu_nn (w64 (e.val + 1)) (by omega)
      have e3 : F_spec_LogAt_L0 (fu + 1) a e m = F_spec_LogAt_L0 fu a (w64 (e.val + 1)) (logM a (w64 (e.val + 1))) := by
        rw [F_spec_LogAt_L0, decide_eq_true h, cond_t, hw]
        unfold logM
        rw [decide_eq_true (by omega : (w64 (e.val + 1)).val > 0), cond_t]
      rw [e2, e3]
      refine ih (w64 (e.val + 1)) _ (by omega) (by omega) rfl (.inr ?_) (by omega)
      have b2 := b.2
      rw [hw] at b2
      unfold logM
      rw [decide_eq_true (by omega : (w64 (e.val + 1)).val > 0), cond_t]
      exact b2
    · have h1 : decide ((ishr a e.val).val ≥ 6442450944) = false := decide_eq_false (by rw [← hml]; exact h)
      have e2 : F_impl_twosOf_L0 (fu + 1) a e = F_impl_twosOf_L1 ((64 + e.val).toNat + 1) a e := by rw [F_impl_twosOf_L0, h1, cond_f]
      have e3 : F_spec_LogAt_L0 (fu + 1) a e m = F_spec_LogAt_L1 ((64 + e.val).toNat + 1) a e m := by rw [F_spec_LogAt_L0, decide_eq_false h, cond_f]
      rw [e2, e3]
      by_cases hz : e.val = 0
      · have hma : m.lo.val = a.val := by rw [hm, logM_zero a e hz]
        have hlt : a.val * 2 ^ (0 - e.val).toNat < 6442450944 := by
          rw [hz]
          show a.val * 2 ^ 0 < _
          rw [Int.pow_zero, Int.mul_one]
          omega
        have hmm : m = ⟨ishl .i64 a.val (w64 (0 - e.val)).val, ishl .i64 a.val (w64 (0 - e.val)).val⟩ := by
          rw [hm]
          unfold logM
          rw [decide_eq_false (by omega : ¬ e.val > 0), cond_f]
        obtain ⟨q, q1, q2, q3, q4, q5, q6⟩ := log_up a ha _ e m (by omega) (by omega) hmm hlt (Nat.lt_succ_self _)
        refine ⟨q, q1, q3, by omega, ?_, fun _ => by omega⟩
        rw [q4]
        unfold logM
        rw [decide_eq_false (by omega : ¬ q.val > 0), cond_f]
      · refine ⟨e, ?_, by omega, by omega, ?_, fun h => by omega⟩
        · rw [F_impl_twosOf_L1, decide_eq_false (by omega : ¬ e.val ≤ 0), cond_f]
        · rw [log_L1_end _ _ _ _ (by omega), hm]

theorem eq_LogAt (a : I64) : F_impl_LogAt a = F_spec_LogAt a := by
  unfold F_impl_LogAt F_spec_LogAt
  simp only [bindP_e, eq_ValidFix, eq_Whole]
  have hv := sp_Ok3 a
  have hi := sp_in a (c64 1) (c64 1152921504606846976)
  simp only [c64_v] at hi
  by_cases h1 : 1 ≤ a.val
  · by_cases h2 : a.val ≤ 1152921504606846976
    · have a0 : decide (a.val ≤ 0) = false := decide_eq_false (by omega)
      rw [decide_eq_true h1, decide_eq_true h2] at hi
      rw [decide_eq_true (by omega : -1152921504606846976 ≤ a.val), decide_eq_true h2] at hv
      rw [hi, hv]
      simp only [Bool.and_true, Bool.not_true, cond_f, a0]
      obtain ⟨q, q1, q2, q3, q4, q5⟩ := log_down a h1 h2 ((64 - (c64 0).val).toNat + 1) (c64 0) ⟨a, a⟩ (by decide) (by decide) (logM_zero a (c64 0) (by rw [c64_v])).symm (.inl (by rw [c64_v])) (Nat.lt_succ_self _)
      rw [q4]
      unfold F_impl_twosOf
      rw [q1]
      unfold logM logEnd
      simp only [bindP_e, eq_Integer, eq_SubI, eq_AddI, eq_DivI, eq_SqrI, eq_Quotient, eq_MulI, eq_LogTwoI, eq_widened]
      by_cases hq : q.val > 0
      · rw [decide_eq_true hq]
        simp only [cond_t]
      · rw [decide_eq_false hq]
        simp only [cond_f]
        have : ∀ n, F_impl_at n = ⟨n, n⟩ := fun n => rfl
        simp only [this]
    · rw [decide_eq_false h2, Bool.and_false] at hi hv
      rw [hi, hv]
      simp only [Bool.not_false, cond_t]
  · have a0 : decide (a.val ≤ 0) = true := decide_eq_true (by omega)
    rw [decide_eq_false h1, Bool.false_and] at hi
    rw [hi]
    simp only [a0, Bool.not_false, cond_t]
    cases F_spec_l03Ok a
    · rw [Bool.not_false, cond_t]
    · rw [Bool.not_true, cond_f]

/-- A function of an interval out of one of a number. -/
theorem mono_eq (x : Iv) (f g : I64 → Iv) (h : F_spec_l04Ok x = true → f x.lo = g x.lo ∧ f x.hi = g x.hi) :
    (bindP (F_impl_IsWhole x) fun r1 => (bif r1 then bindP (F_impl_Whole) fun r2 => r2 else bindP (f x.lo) fun r3 => bindP (f x.hi) fun r4 => bindP (F_impl_areBounded r3 r4) fun r5 => (bif (!r5) then bindP (F_impl_Whole) fun r6 => r6 else bindP (F_impl_bounded r3.lo r4.hi true) fun r7 => r7))) =
    (bif (!F_spec_l04Ok x) then F_spec_l04Whole else F_spec_l08Ends (g x.lo) (g x.hi)) := by
  unfold F_spec_l08Ends
  simp only [bindP_e, eq_IsWhole, eq_Whole, eq_areBounded, eq_bounded]
  cases ho : F_spec_l04Ok x with
  | false => rw [Bool.not_false, cond_t, cond_t]
  | true =>
    obtain ⟨h1, h2⟩ := h ho
    rw [Bool.not_true, cond_f, cond_f, h1, h2]
    cases F_spec_l04Ok (g x.lo)
    · simp only [Bool.false_and, Bool.not_false, cond_t]
    · simp only [Bool.true_and, Bool.not_true, cond_f]

theorem eq_LogI (x : Iv) : F_impl_LogI x = F_spec_LogI x := by
  unfold F_impl_LogI F_spec_LogI F_impl_monotonic__impl_LogAt
  rw [bindP_e, mono_eq x F_impl_LogAt F_spec_LogAt fun _ => ⟨eq_LogAt _, eq_LogAt _⟩]
  simp only [bindP_e]

theorem eq_ExpI (x : Iv) : F_impl_ExpI x = F_spec_ExpI x := by
  unfold F_impl_ExpI F_spec_ExpI F_impl_monotonic__impl_ExpAt
  rw [bindP_e, mono_eq x F_impl_ExpAt F_spec_ExpAt fun _ => ⟨eq_ExpAt _, eq_ExpAt _⟩]
  simp only [bindP_e]

theorem asinh_pos (f : I64 → Iv) (n : I64) (h0 : 0 ≤ n.val) (h1 : n.val < 1152921504606846976) : F_impl_AsinhI_1 n = F_spec_l08Asinh_b f n := by
  unfold F_impl_AsinhI_1 F_spec_l08Asinh_b
  simp only [bindP_e, at8 ⟨by omega, h1⟩, eq_SqrI, eq_Integer, eq_AddI, eq_SqrtI, eq_LogI, eq_LogTwoI, eq_LogAt, eq_One8, decide_eq_false (by omega : ¬ n.val < 0), cond_f]

theorem eq_asinh (n : I64) (h0 : -1152921504606846976 < n.val) (h1 : n.val < 1152921504606846976) : F_impl_odd_1__p_impl_AsinhI_1 n = F_spec_l08Asinh n := by
  unfold F_impl_odd_1__p_impl_AsinhI_1 F_spec_l08Asinh F_spec_l08Asinh_r
  simp only [bindP_e, eq_NegI]
  by_cases h : n.val < 0
  · have en : (w64 (0 - n.val)).val = -n.val := by rw [w64_val]; omega
    rw [decide_eq_true h, cond_t, asinh_pos (F_spec_l08Asinh_r 0) (w64 (0 - n.val)) (by omega) (by omega)]
    rw [show F_spec_l08Asinh_b (F_spec_l08Asinh_r 1) n = F_spec_NegI (F_spec_l08Asinh_r 1 (w64 (0 - n.val))) by
      rw [F_spec_l08Asinh_b]
      simp only [bindP_e, decide_eq_true h, cond_t]]
    rw [F_spec_l08Asinh_r]
  · rw [decide_eq_false h, cond_f]
    exact asinh_pos _ n (by omega) h1

theorem eq_AsinhI (x : Iv) : F_impl_AsinhI x = F_spec_AsinhI x := by
  unfold F_impl_AsinhI F_spec_AsinhI F_impl_monotonic__impl_odd_1_p_impl_AsinhI_1
  rw [bindP_e, mono_eq x F_impl_odd_1__p_impl_AsinhI_1 F_spec_l08Asinh fun h => by
    obtain ⟨h1, h2, h3⟩ := Ok4 h
    exact ⟨eq_asinh _ h1 (by omega), eq_asinh _ (by omega) h3⟩]
  simp only [bindP_e]

theorem eq_SinAt (n : I64) : F_impl_SinAt n = F_spec_SinAt n := by
  unfold F_impl_SinAt F_spec_SinAt
  simp only [bindP_e, eq_circleValue]

theorem eq_CosAt (n : I64) : F_impl_CosAt n = F_spec_CosAt n := by
  unfold F_impl_CosAt F_spec_CosAt
  simp only [bindP_e, eq_circleValue]

def tanEnd (a : Iv) : Iv := F_spec_HullI (F_spec_DivI (F_spec_SinAt a.lo) (F_spec_CosAt a.lo)) (F_spec_DivI (F_spec_SinAt a.hi) (F_spec_CosAt a.hi))

def isOdd (k : I64) : Bool := (iand .i64 k.val 1).val == 1

theorem tan_any (L : List I64) (a : Iv) (hL : L.length ≤ 4000) : ∀ (fu : Nat) (i : I64) (y : Iv), 0 ≤ i.val → ((L.length : Int) - i.val).toNat < fu → F_impl_TanI_L0 fu L a i y = bif (L.drop i.val.toNat).any isOdd then F_spec_l04Whole else tanEnd a := by
  intro fu
  induction fu with
  | zero => intro i y _ h; exact absurd h (Nat.not_lt_zero _)
  | succ fu ih =>
    intro i y hi hf
    unfold F_impl_TanI_L0
    by_cases h : i.val < (L.length : Int)
    · have h' : i.val.toNat < L.length := by omega
      have ei : (w64 (i.val + 1)).val = i.val + 1 := by rw [w64_val]; omega
      have hk : L.drop i.val.toNat = listAt L i :: L.drop (i.val.toNat + 1) := by
        rw [List.drop_eq_getElem_cons h']
        unfold listAt
        simp [List.getD, List.getElem?_eq_getElem h']
      have hn : (w64 (i.val + 1)).val.toNat = i.val.toNat + 1 := by rw [ei]; omega
      have ih' := fun y => ih (w64 (i.val + 1)) y (by omega) (by omega)
      rw [hn] at ih'
      rw [hk, List.any_cons]
      simp only [h, decide_true, cond_t, bindP_e, eq_Whole, ih']
      generalize listAt L i = k
      unfold isOdd
      cases ((iand .i64 k.val 1).val == 1)
      · simp only [Bool.false_or, cond_f]
      · simp only [Bool.true_or, cond_t]
    · have : L.drop i.val.toNat = [] := List.drop_eq_nil_of_le (by omega)
      rw [this]
      unfold tanEnd
      simp only [h, decide_false, cond_f, List.any_nil, bindP_e, eq_SinAt, eq_CosAt, eq_DivI, eq_HullI]

theorem tan_spec (a : Iv) : ∀ (fu : Nat) (k : I64) (y : Iv), -1100 ≤ k.val → (2000 - k.val).toNat < fu → F_spec_TanI_L0 fu a k y = bif (F_impl_turnsIn_L0 fu a k []).any isOdd then F_spec_l04Whole else tanEnd a := by
  intro fu
  induction fu with
  | zero => intro k y _ h; exact absurd h (Nat.not_lt_zero _)
  | succ fu ih =>
    intro k y hk hf
    have qb := spec_quarter_bounds a.hi
    have hw : F_spec_Whole = F_spec_l04Whole := Eq.trans rfl rfl
    unfold F_impl_turnsIn_L0 F_spec_TanI_L0
    simp only [bindP_e, eq_QuarterOf, eq_TurnI, eq_OverlapI, hw]
    generalize F_spec_QuarterOf a.hi = q at *
    by_cases h : k.val ≤ (w64 (q.val + 1)).val
    · have h' := h
      rw [w64_val] at h'
      have ek : (w64 (k.val + 1)).val = k.val + 1 := by rw [w64_val]; omega
      have ih' := fun y => ih (w64 (k.val + 1)) y (by omega) (by omega)
      simp only [h, decide_true, cond_t, ih']
      cases F_spec_OverlapI (F_spec_TurnI k) a
      · simp only [cond_f]
        cases ((iand .i64 k.val 1).val == 1)
        · rw [cond_f]
        · rw [cond_t]
      · simp only [cond_t]
        rw [turns_acc a fu (w64 (k.val + 1)) ([] ++ [k]), List.nil_append, List.any_append, List.any_cons, List.any_nil, Bool.or_false]
        unfold isOdd
        cases ((iand .i64 k.val 1).val == 1)
        · simp only [Bool.false_or, cond_f]
        · simp only [Bool.true_or, cond_t]
    · unfold tanEnd
      simp only [h, decide_false, cond_f, List.any_nil]

theorem eq_TanI (a : Iv) : F_impl_TanI a = F_spec_TanI a := by
  have qb := spec_quarter_bounds a.lo
  unfold F_impl_TanI F_spec_TanI F_impl_turnsIn
  have hw : F_spec_Whole = F_spec_l04Whole := Eq.trans rfl rfl
  simp only [bindP_e, eq_areAngles, eq_QuarterOf, eq_Whole, hw]
  cases F_spec_l06Fits a
  · simp only [Bool.not_false, cond_t]
  · simp only [Bool.not_true, cond_f]
    generalize F_spec_QuarterOf a.lo = q at *
    have ek : (w64 (q.val - 1)).val = q.val - 1 := by rw [w64_val]; omega
    have hl := turns_len a ((2000 - (w64 (q.val - 1)).val).toNat + 1) (w64 (q.val - 1))
    rw [tan_any _ a (by omega) _ _ _ (by rw [c64_v]; omega) (by rw [c64_v]; omega)]
    have e0 : (c64 0).val.toNat = 0 := by rw [c64_v]; rfl
    rw [e0, List.drop_zero]
    exact (tan_spec a _ _ _ (by omega) (by omega)).symm

theorem eq_isometric (x : Iv) : F_impl_isometricSphere x = F_spec_l19Iso x := by
  unfold F_impl_isometricSphere F_spec_l19Iso
  simp only [bindP_e, eq_TanI, eq_AsinhI]

theorem eq_cone (p : Pj) (o n g : Iv) : F_impl_conic_cone__pCn ⟨p, F_spec_RadiansOf p.lat1, F_spec_RadiansOf p.lat2, o, n, g⟩ = F_spec_l19Cone p := by
  unfold F_impl_conic_cone__pCn F_spec_l19Cone
  simp only [bindP_e, eq_SinI, eq_CosI, eq_AddI, eq_HalfI, eq_LogI, eq_SubI, eq_isometric, eq_DivI]

theorem eq_constant (p : Pj) (b o n g : Iv) : F_impl_conic_constant__pCn ⟨p, F_spec_RadiansOf p.lat1, b, o, n, g⟩ = F_spec_l19Constant p n := by
  unfold F_impl_conic_constant__pCn F_spec_l19Constant
  simp only [bindP_e, eq_SinI, eq_CosI, eq_AddI, eq_SqrI, eq_times, eq_MulI, eq_ExpI, eq_isometric, eq_DivI]

def conicOf (p : Pj) : Cn := ⟨p, F_spec_RadiansOf p.lat1, F_spec_RadiansOf p.lat2, F_spec_RadiansOf p.lat0, F_spec_l19Cone p, F_spec_l19Constant p (F_spec_l19Cone p)⟩

theorem eq_newConic (p : Pj) : (F_spec_l19Ok p = true ∧ F_impl_newConic p = (conicOf p, c64 0)) ∨ (F_spec_l19Ok p = false ∧ (F_impl_newConic p).2 = c64 1) := by
  unfold F_impl_newConic F_spec_l19Ok F_impl_isConic conicOf
  simp only [bindP_e, eq_l17Ok, eq_in, eq_RadiansOf, eq_cone, eq_constant]
  cases F_spec_l17Ok p
  · right
    simp only [Bool.not_false, cond_t]
    cases F_spec_l00In p.kind (c64 10) (c64 12)
    · exact ⟨cond_f _ _, trivial⟩
    · exact ⟨cond_t _ _, trivial⟩
  · simp only [Bool.not_true, cond_f]
    cases F_spec_l00In p.kind (c64 10) (c64 12)
    · right
      simp only [Bool.not_false, cond_t, cond_f]
      exact ⟨trivial, trivial⟩
    · left
      simp only [Bool.not_true, cond_t, cond_f]
      exact ⟨trivial, trivial⟩

theorem known19 (x : Iv) : F_impl_knownI x = F_spec_l19Known x := by
  unfold F_impl_knownI F_spec_l19Known
  simp only [bindP_e, eq_IsWhole]

end Go.Proofs.YtgofhiehdpggkaaGreat.Abs
