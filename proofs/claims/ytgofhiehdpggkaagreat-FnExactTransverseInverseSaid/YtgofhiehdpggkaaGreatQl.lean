/- Plain laws of the functions on numbers: what the program computes is what the reference computes. -/
import Derived.Test.YtgofhiehdpggkaaGreatQk
import Derived.Test.YtgofhiehdpggkaaGreatF5
set_option linter.unusedVariables false
set_option linter.unusedSimpArgs false
namespace Go.Proofs.YtgofhiehdpggkaaGreat.Abs
open Go

/-- What a quarter turn adds to the hull. -/
def addTurn (t k : I64) (y : Iv) : Iv := bif ((iand .i64 (w64 (k.val + t.val)).val 3).val == 1) then F_spec_HullI y (F_spec_Integer (c64 1)) else (bif ((iand .i64 (w64 (k.val + t.val)).val 3).val == 3) then F_spec_HullI y (F_spec_Integer (c64 (-1))) else y)

theorem hull_fold (t : I64) (L : List I64) (a0 : Iv) (hL : L.length ≤ 4000) : ∀ (fu : Nat) (i : I64) (y : Iv), 0 ≤ i.val → ((L.length : Int) - i.val).toNat < fu → F_impl_circleHull_L0 fu t L a0 i y = (L.drop i.val.toNat).foldl (fun y k => addTurn t k y) y := by
  intro fu
  induction fu with
  | zero => intro i y _ h; exact absurd h (Nat.not_lt_zero _)
  | succ fu ih =>
    intro i y hi hf
    unfold F_impl_circleHull_L0
    by_cases h : i.val < (L.length : Int)
    · have h' : i.val.toNat < L.length := by omega
      have ei : (w64 (i.val + 1)).val = i.val + 1 := by rw [w64_val]; omega
      have hk : L.drop i.val.toNat = listAt L i :: L.drop (i.val.toNat + 1) := by
        rw [List.drop_eq_getElem_cons h']
        unfold listAt
        simp [List.getD, List.getElem?_eq_getElem h']
      have hn : (w64 (i.val + 1)).val.toNat = i.val.toNat + 1 := by rw [ei]; omega
      have ih' := fun y => ih (w64 (i.val + 1)) y (by omega) (by omega)
      rw [hn] at ih'
      rw [hk, List.foldl_cons]
      simp only [h, decide_true, cond_t, bindP_e, eq_Integer, eq_HullI, ih']
      unfold addTurn
      generalize listAt L i = k
      cases ((iand .i64 (w64 (k.val + t.val)).val 3).val == 1)
      · rw [cond_f, cond_f]
        cases ((iand .i64 (w64 (k.val + t.val)).val 3).val == 3)
        · rw [cond_f, cond_f]
        · rw [cond_t, cond_t]
      · rw [cond_t, cond_t]
    · have : L.drop i.val.toNat = [] := List.drop_eq_nil_of_le (by omega)
      rw [this]
      simp only [h, decide_false, cond_f, List.foldl_nil]

theorem turns_acc (a0 : Iv) : ∀ (fu : Nat) (k : I64) (acc : List I64), F_impl_turnsIn_L0 fu a0 k acc = acc ++ F_impl_turnsIn_L0 fu a0 k [] := by
  intro fu
  induction fu with
  | zero => intro k acc; unfold F_impl_turnsIn_L0; simp
  | succ fu ih =>
    intro k acc
    unfold F_impl_turnsIn_L0
    simp only [bindP_e]
    cases decide (k.val ≤ (w64 ((F_impl_QuarterOf a0.hi).val + 1)).val)
    · rw [cond_f, cond_f]; simp
    · rw [cond_t, cond_t]
      cases F_impl_OverlapI (F_impl_TurnI k) a0
      · rw [cond_f, cond_f]; exact ih _ _
      · rw [cond_t, cond_t, ih _ (acc ++ [k]), ih _ ([] ++ [k])]; simp

theorem over_fold (t : I64) (a0 : Iv) : ∀ (fu : Nat) (k : I64) (y : Iv), -1100 ≤ k.val → (2000 - k.val).toNat < fu → (F_impl_turnsIn_L0 fu a0 k []).foldl (fun y k => addTurn t k y) y = F_spec_l06Over_L0 fu t a0 k y := by
  intro fu
  induction fu with
  | zero => intro k y _ h; exact absurd h (Nat.not_lt_zero _)
  | succ fu ih =>
    intro k y hk hf
    have qb := spec_quarter_bounds a0.hi
    unfold F_impl_turnsIn_L0 F_spec_l06Over_L0
    simp only [bindP_e, eq_QuarterOf, eq_TurnI, eq_OverlapI]
    generalize F_spec_QuarterOf a0.hi = q at *
    by_cases h : k.val ≤ (w64 (q.val + 1)).val
    · have h' := h
      rw [w64_val] at h'
      have ek : (w64 (k.val + 1)).val = k.val + 1 := by rw [w64_val]; omega
      have ih' := fun y => ih (w64 (k.val + 1)) y (by omega) (by omega)
      simp only [h, decide_true, cond_t]
      cases F_spec_OverlapI (F_spec_TurnI k) a0
      · simp only [cond_f, Bool.not_false, cond_t]
        exact ih' y
      · simp only [cond_t, Bool.not_true, cond_f]
        rw [turns_acc, List.nil_append, List.foldl_append, List.foldl_cons, List.foldl_nil, ih']
        unfold addTurn
        cases ((iand .i64 (w64 (k.val + t.val)).val 3).val == 1)
        · rw [cond_f, cond_f]
          cases ((iand .i64 (w64 (k.val + t.val)).val 3).val == 3)
          · rw [cond_f, cond_f]
          · rw [cond_t, cond_t]
        · rw [cond_t, cond_t]
    · simp only [h, decide_false, cond_f, List.foldl_nil]

theorem eq_areAngles (a : Iv) : F_impl_areAngles a = F_spec_l06Fits a := by
  unfold F_impl_areAngles F_spec_l06Fits F_impl_isAngle F_spec_l06Angle F_spec_ValidInterval
  simp only [bindP_e, eq_in, eq_Valid]

theorem turns_len (a0 : Iv) : ∀ (fu : Nat) (k : I64), (F_impl_turnsIn_L0 fu a0 k []).length ≤ fu := by
  intro fu
  induction fu with
  | zero => intro k; unfold F_impl_turnsIn_L0; exact Nat.le_refl _
  | succ fu ih =>
    intro k
    unfold F_impl_turnsIn_L0
    simp only [bindP_e]
    have h1 := ih (w64 (k.val + 1))
    cases decide (k.val ≤ (w64 ((F_impl_QuarterOf a0.hi).val + 1)).val)
    · rw [cond_f]; simp
    · rw [cond_t]
      cases F_impl_OverlapI (F_impl_TurnI k) a0
      · rw [cond_f]; omega
      · rw [cond_t, turns_acc]
        simp only [List.nil_append, List.length_append, List.length_cons, List.length_nil]
        omega

theorem eq_circleHull (a : Iv) (t : I64) : F_impl_circleHull a t = F_spec_l06Over a t := by
  have qb := spec_quarter_bounds a.lo
  unfold F_impl_circleHull F_spec_l06Over F_impl_turnsIn
  simp only [bindP_e, eq_areAngles, eq_circleValue, eq_HullI, eq_QuarterOf]
  cases F_spec_l06Fits a
  · simp only [Bool.not_false, cond_t]; exact Eq.trans rfl rfl
  · simp only [Bool.not_true, cond_f]
    generalize F_spec_QuarterOf a.lo = q at *
    have ek : (w64 (q.val - 1)).val = q.val - 1 := by rw [w64_val]; omega
    have hl := turns_len a ((2000 - (w64 (q.val - 1)).val).toNat + 1) (w64 (q.val - 1))
    rw [hull_fold t _ a (by omega) _ _ _ (by rw [c64_v]; omega) (by rw [c64_v]; omega)]
    have e0 : (c64 0).val.toNat = 0 := by rw [c64_v]; rfl
    rw [e0, List.drop_zero]
    exact over_fold t a _ _ _ (by omega) (by omega)

theorem eq_SinI (a : Iv) : F_impl_SinI a = F_spec_SinI a := by
  unfold F_impl_SinI F_spec_SinI
  simp only [bindP_e, eq_circleHull]

theorem eq_halfCircle : F_impl_halfCircle = F_spec_l07Quarter := by
  unfold F_impl_halfCircle F_spec_l07Quarter
  have e : F_impl_TurnI (c64 1) = F_spec_l05Turn (c64 1) := by rw [eq_TurnI]; rfl
  simp only [bindP_e, e]

end Go.Proofs.YtgofhiehdpggkaaGreat.Abs
