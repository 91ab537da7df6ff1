/- Plain laws of the functions on numbers: what the program computes is what the reference computes. -/
import Derived.Test.YtgofhiehdpggkaaGreatQd
import Derived.Test.YtgofhiehdpggkaaGreatF5
set_option linter.unusedVariables false
set_option linter.unusedSimpArgs false
namespace Go.Proofs.YtgofhiehdpggkaaGreat.Abs
open Go

/-- One digit of the library's long division: the estimate, and the quotient. -/
structure Digit (u w y y1 y0 q rh Q : Int) : Prop where
  hy : y = y1 * 4294967296 + y0
  y1l : 1 ≤ y1
  y1h : y1 ≤ 4294967295
  y0l : 0 ≤ y0
  y0h : y0 ≤ 4294967295
  w0 : 0 ≤ w
  w1 : w ≤ 4294967295
  u0 : 0 ≤ u
  uy : u < y
  eq : q * y1 + rh = u
  r0 : 0 ≤ rh
  Q0 : 0 ≤ Q
  Qlo : Q * y ≤ u * 4294967296 + w
  Qhi : u * 4294967296 + w < (Q + 1) * y
  le : Q ≤ q

theorem Digit.small {u w y y1 y0 q rh Q : Int} (D : Digit u w y y1 y0 q rh Q) : Q ≤ 4294967295 := by
  obtain ⟨hy, y1l, y1h, y0l, y0h, w0, w1, u0, uy, eq, r0, Q0, Qlo, Qhi, le⟩ := D
  rcases Int.lt_or_le Q 4294967296 with h | h
  · omega
  · have := Int.mul_le_mul_of_nonneg_right h (by omega : 0 ≤ y)
    omega

theorem Digit.prod {u w y y1 y0 q rh Q : Int} (D : Digit u w y y1 y0 q rh Q) : q * y = (u - rh) * 4294967296 + q * y0 := by
  have h1 := D.hy
  have h2 := D.eq
  rw [h1, Int.mul_add, ← Int.mul_assoc]
  omega

theorem Digit.over {u w y y1 y0 q rh Q : Int} (D : Digit u w y y1 y0 q rh Q) (h : q ≥ 4294967296 ∨ q * y0 > 4294967296 * rh + w) : Q ≤ q - 1 := by
  have hs := D.small
  have hp := D.prod
  rcases h with h | h
  · omega
  · rcases Int.lt_or_le Q q with k | k
    · omega
    · have := Int.mul_le_mul_of_nonneg_right k (by have := D.u0; have := D.uy; omega : 0 ≤ y)
      have := D.Qlo
      omega

theorem Digit.under {u w y y1 y0 q rh Q : Int} (D : Digit u w y y1 y0 q rh Q) (h : q * y0 ≤ 4294967296 * rh + w) : q = Q := by
  have hp := D.prod
  rcases Int.lt_or_le Q q with k | k
  · have := Int.mul_le_mul_of_nonneg_right (by omega : Q + 1 ≤ q) (by have := D.u0; have := D.uy; omega : 0 ≤ y)
    have := D.Qhi
    omega
  · have := D.le
    omega

theorem Digit.out {u w y y1 y0 q rh Q : Int} (D : Digit u w y y1 y0 q rh Q) (h : rh ≥ 4294967296) : q = Q := by
  have hy := D.hy
  have he := D.eq
  have hu := D.uy
  have a1 := D.y1l
  have a2 := D.y0h
  have a3 := D.y0l
  have a4 := D.w0
  have hq : q ≤ 4294967295 := by
    rcases Int.lt_or_le q 4294967296 with k | k
    · omega
    · have := Int.mul_le_mul_of_nonneg_right k (by omega : 0 ≤ y1)
      omega
  refine D.under ?_
  have q0 : 0 ≤ q := Int.le_trans D.Q0 D.le
  have := Int.mul_le_mul hq a2 a3 (by omega : (0 : Int) ≤ 4294967295)
  omega

theorem Digit.next {u w y y1 y0 q rh Q : Int} (D : Digit u w y y1 y0 q rh Q) (h : Q ≤ q - 1) : Digit u w y y1 y0 (q - 1) (rh + y1) Q := by
  obtain ⟨hy, y1l, y1h, y0l, y0h, w0, w1, u0, uy, eq, r0, Q0, Qlo, Qhi, le⟩ := D
  exact ⟨hy, y1l, y1h, y0l, y0h, w0, w1, u0, uy, by rw [Int.sub_mul]; omega, by omega, Q0, Qlo, Qhi, h⟩

theorem Digit.first {u w y y1 y0 : Int} (hy : y = y1 * 4294967296 + y0) (y1l : 1 ≤ y1) (y1h : y1 ≤ 4294967295) (y0l : 0 ≤ y0) (y0h : y0 ≤ 4294967295) (w0 : 0 ≤ w) (w1 : w ≤ 4294967295) (u0 : 0 ≤ u) (uy : u < y) :
    Digit u w y y1 y0 (u / y1) (u % y1) ((u * 4294967296 + w) / y) := by
  have hyp : 0 < y := by omega
  have e := Int.emod_add_mul_ediv u y1
  have e2 := Int.emod_add_mul_ediv (u * 4294967296 + w) y
  have m0 : 0 ≤ (u * 4294967296 + w) % y := Int.emod_nonneg _ (by omega)
  have m1 : (u * 4294967296 + w) % y < y := Int.emod_lt_of_pos _ hyp
  have Q0 : 0 ≤ (u * 4294967296 + w) / y := Int.ediv_nonneg (by omega) (by omega)
  generalize (u * 4294967296 + w) / y = Q at *
  have hc : Q * y = y * Q := Int.mul_comm _ _
  refine ⟨hy, y1l, y1h, y0l, y0h, w0, w1, u0, uy, by rw [Int.mul_comm]; omega, Int.emod_nonneg _ (by omega), Q0, by omega, by rw [Int.add_mul]; omega, ?_⟩
  rw [Int.le_ediv_iff_mul_le (by omega)]
  have h1 : Q * y = Q * y1 * 4294967296 + Q * y0 := by rw [hy, Int.mul_add, ← Int.mul_assoc]
  have h2 : 0 ≤ Q * y0 := Int.mul_nonneg Q0 y0l
  omega

theorem mul_small {a b : Int} (a0 : 0 ≤ a) (a1 : a ≤ 4294967295) (b0 : 0 ≤ b) (b1 : b ≤ 4294967295) : 0 ≤ a * b ∧ a * b ≤ 18446744065119617025 := by
  refine ⟨Int.mul_nonneg a0 b0, ?_⟩
  have := Int.mul_le_mul a1 b1 b0 (by omega : (0 : Int) ≤ 4294967295)
  omega

/-- What is left behind a digit. -/
theorem rest_val (u w q y : U64) (Q : Int) (hq : q.val = Q) (h0 : 0 ≤ u.val * 4294967296 + w.val - Q * y.val) (h1 : u.val * 4294967296 + w.val - Q * y.val ≤ 18446744073709551615) :
    (wu64 ((wu64 ((wu64 (u.val * 4294967296)).val + w.val)).val - (wu64 (q.val * y.val)).val)).val = u.val * 4294967296 + w.val - Q * y.val := by
  rw [hq]
  generalize Q * y.val = p at *
  simp only [wu64_val]
  omega

theorem Div64_L1 (y s y1 y0 w q1 u : U64) : ∀ (fu : Nat) (rh q : U64) (Q : Int), Digit u.val w.val y.val y1.val y0.val q.val rh.val Q → rh.val < 4294967296 → (4294967296 - rh.val).toNat < fu →
    ∃ q' : U64, q'.val = Q ∧ F_bits_Div64_L1 fu y s y1 y0 w q1 u rh q = ((wu64 ((wu64 (q1.val * 4294967296)).val + q'.val)), (ishr (wu64 ((wu64 ((wu64 (u.val * 4294967296)).val + w.val)).val - (wu64 (q'.val * y.val)).val)) s.val))
  | 0, _, _, _, _, _, h => absurd h (Nat.not_lt_zero _)
  | fu + 1, rh, q, Q, D, hr, hf => by
    have hs := D.small
    have hQ := D.Q0
    have hle := D.le
    have a1 := D.y1l
    have a2 := D.y1h
    have q0 := q.lo
    have qh := q.hi
    have r0 := rh.lo
    have hrv : (wu64 (rh.val + y1.val)).val = rh.val + y1.val := by rw [wu64_val]; omega
    have step : Q ≤ q.val - 1 → ∃ q' : U64, q'.val = Q ∧ (bif (decide ((wu64 (rh.val + y1.val)).val ≥ 4294967296)) then ((wu64 ((wu64 (q1.val * 4294967296)).val + (wu64 (q.val - 1)).val)), (ishr (wu64 ((wu64 ((wu64 (u.val * 4294967296)).val + w.val)).val - (wu64 ((wu64 (q.val - 1)).val * y.val)).val)) s.val)) else F_bits_Div64_L1 fu y s y1 y0 w q1 u (wu64 (rh.val + y1.val)) (wu64 (q.val - 1))) = ((wu64 ((wu64 (q1.val * 4294967296)).val + q'.val)), (ishr (wu64 ((wu64 ((wu64 (u.val * 4294967296)).val + w.val)).val - (wu64 (q'.val * y.val)).val)) s.val)) := fun h => by
      have hqv : (wu64 (q.val - 1)).val = q.val - 1 := by rw [wu64_val]; omega
      have D2 : Digit u.val w.val y.val y1.val y0.val (wu64 (q.val - 1)).val (wu64 (rh.val + y1.val)).val Q := by
        rw [hqv, hrv]; exact D.next h
      by_cases hb : (wu64 (rh.val + y1.val)).val ≥ 4294967296
      · refine ⟨wu64 (q.val - 1), D2.out hb, ?_⟩
        simp only [hb, decide_true, cond_true]
      · obtain ⟨q', e1, e2⟩ := Div64_L1 y s y1 y0 w q1 u fu _ _ Q D2 (by omega) (by omega)
        refine ⟨q', e1, ?_⟩
        simp only [hb, decide_false, cond_false]
        exact e2
    unfold F_bits_Div64_L1
    by_cases h1 : q.val ≥ 4294967296
    · simp only [h1, decide_true, cond_true]
      exact step (D.over (.inl h1))
    · simp only [h1, decide_false, cond_false]
      have hm := mul_small q0 (by omega) D.y0l D.y0h
      have w0 := D.w0
      have w1 := D.w1
      have e1 : (wu64 (q.val * y0.val)).val = q.val * y0.val := by
        generalize q.val * y0.val = p at *
        rw [wu64_val]; omega
      have e2 : (wu64 ((wu64 (4294967296 * rh.val)).val + w.val)).val = 4294967296 * rh.val + w.val := by simp only [wu64_val]; omega
      rw [e1, e2]
      by_cases h2 : q.val * y0.val > 4294967296 * rh.val + w.val
      · simp only [h2, decide_true, cond_true]
        exact step (D.over (.inr h2))
      · simp only [h2, decide_false, cond_false]
        exact ⟨q, D.under (by omega), rfl⟩

/-- A digit's estimate out of the machine's division. -/
theorem est (u y1 : U64) (h : 1 ≤ y1.val) : (wu64 (Int.tdiv u.val y1.val)).val = u.val / y1.val := by
  have h1 := u.lo
  have h2 := u.hi
  have hd : Int.tdiv u.val y1.val = u.val / y1.val := Int.tdiv_eq_ediv_of_nonneg h1
  have q0 : 0 ≤ u.val / y1.val := Int.ediv_nonneg h1 (by omega)
  have q1 : u.val / y1.val ≤ u.val := Int.ediv_le_self _ h1
  rw [wu64_val, hd]
  omega

/-- The second digit, and what is told. -/
theorem Div64_second (y s y1 y0 w q1 u : U64) (hy : y.val = y1.val * 4294967296 + y0.val) (y1l : 1 ≤ y1.val) (y1h : y1.val ≤ 4294967295) (y0h : y0.val ≤ 4294967295) (w1 : w.val ≤ 4294967295) (uy : u.val < y.val) (hq1 : q1.val ≤ 4294967295) :
    ∃ q r : U64, F_bits_Div64_L1 ((4294967296 - (wu64 (u.val - (wu64 ((wu64 (Int.tdiv u.val y1.val)).val * y1.val)).val)).val).toNat + 1) y s y1 y0 w q1 u (wu64 (u.val - (wu64 ((wu64 (Int.tdiv u.val y1.val)).val * y1.val)).val)) (wu64 (Int.tdiv u.val y1.val)) = (q, ishr r s.val) ∧
      q.val = q1.val * 4294967296 + (u.val * 4294967296 + w.val) / y.val ∧ r.val = (u.val * 4294967296 + w.val) % y.val := by
  have D := Digit.first (u := u.val) (w := w.val) hy y1l y1h y0.lo y0h w.lo w1 u.lo uy
  have hr := rem_eq u y1 y1l
  have hq := est u y1 y1l
  have hlt : (wu64 (u.val - (wu64 ((wu64 (Int.tdiv u.val y1.val)).val * y1.val)).val)).val < 4294967296 := rem_lt u y1 y1l y1h
  rw [← hr, ← hq] at D
  have hs := D.small
  have hQ := D.Q0
  obtain ⟨q', e1, e2⟩ := Div64_L1 y s y1 y0 w q1 u _ _ _ _ D hlt (Nat.lt_succ_self _)
  refine ⟨_, _, e2, ?_, ?_⟩
  · have a0 := q1.lo
    simp only [wu64_val, e1]
    omega
  · have e3 := Int.emod_add_mul_ediv (u.val * 4294967296 + w.val) y.val
    have u0 := u.lo
    have m0 : 0 ≤ (u.val * 4294967296 + w.val) % y.val := Int.emod_nonneg _ (by omega)
    have m1 : (u.val * 4294967296 + w.val) % y.val < y.val := Int.emod_lt_of_pos _ (by omega)
    have y1' := y.hi
    have hc : (u.val * 4294967296 + w.val) / y.val * y.val = y.val * ((u.val * 4294967296 + w.val) / y.val) := Int.mul_comm _ _
    rw [rest_val u w q' y _ e1 (by omega) (by omega)]
    omega

theorem Div64_L0 (y s y1 y0 un32 w w0 : U64) (hw0 : w0.val ≤ 4294967295) : ∀ (fu : Nat) (rh q : U64) (Q : Int), Digit un32.val w.val y.val y1.val y0.val q.val rh.val Q → rh.val < 4294967296 → (4294967296 - rh.val).toNat < fu →
    ∃ q' r' : U64, F_bits_Div64_L0 fu y s y1 y0 un32 w w0 q rh = (q', ishr r' s.val) ∧ q'.val * y.val + r'.val = un32.val * 18446744073709551616 + w.val * 4294967296 + w0.val ∧ 0 ≤ r'.val ∧ r'.val < y.val
  | 0, _, _, _, _, _, h => absurd h (Nat.not_lt_zero _)
  | fu + 1, rh, q, Q, D, hr, hf => by
    have hs := D.small
    have hQ := D.Q0
    have hle := D.le
    have a1 := D.y1l
    have a2 := D.y1h
    have q0 := q.lo
    have qh := q.hi
    have r0 := rh.lo
    have hrv : (wu64 (rh.val + y1.val)).val = rh.val + y1.val := by rw [wu64_val]; omega
    have last : ∀ (q2 : U64), q2.val = Q → ∃ q' r' : U64, F_bits_Div64_L1 ((4294967296 - (wu64 ((wu64 ((wu64 ((wu64 (un32.val * 4294967296)).val + w.val)).val - (wu64 (q2.val * y.val)).val)).val - (wu64 ((wu64 (Int.tdiv (wu64 ((wu64 ((wu64 (un32.val * 4294967296)).val + w.val)).val - (wu64 (q2.val * y.val)).val)).val y1.val)).val * y1.val)).val)).val).toNat + 1) y s y1 y0 w0 q2 (wu64 ((wu64 ((wu64 (un32.val * 4294967296)).val + w.val)).val - (wu64 (q2.val * y.val)).val)) (wu64 ((wu64 ((wu64 ((wu64 (un32.val * 4294967296)).val + w.val)).val - (wu64 (q2.val * y.val)).val)).val - (wu64 ((wu64 (Int.tdiv (wu64 ((wu64 ((wu64 (un32.val * 4294967296)).val + w.val)).val - (wu64 (q2.val * y.val)).val)).val y1.val)).val * y1.val)).val)) (wu64 (Int.tdiv (wu64 ((wu64 ((wu64 (un32.val * 4294967296)).val + w.val)).val - (wu64 (q2.val * y.val)).val)).val y1.val)) = (q', ishr r' s.val) ∧ q'.val * y.val + r'.val = un32.val * 18446744073709551616 + w.val * 4294967296 + w0.val ∧ 0 ≤ r'.val ∧ r'.val < y.val := fun q2 h2 => by
      have yh := y.hi
      have k1 := D.Qlo
      have k2 := D.Qhi
      have k3 : (Q + 1) * y.val = Q * y.val + y.val := by rw [Int.add_mul, Int.one_mul]
      have hu := rest_val un32 w q2 y Q h2 (by omega) (by omega)
      have hw0' := w0.lo
      obtain ⟨q', r', e1, e2, e3⟩ := Div64_second y s y1 y0 w0 q2 (wu64 ((wu64 ((wu64 (un32.val * 4294967296)).val + w.val)).val - (wu64 (q2.val * y.val)).val)) D.hy a1 a2 D.y0h hw0 (by rw [hu]; omega) (by omega)
      rw [hu] at e2 e3
      have e4 := Int.emod_add_mul_ediv ((un32.val * 4294967296 + w.val - Q * y.val) * 4294967296 + w0.val) y.val
      have hc : y.val * (((un32.val * 4294967296 + w.val - Q * y.val) * 4294967296 + w0.val) / y.val) = (((un32.val * 4294967296 + w.val - Q * y.val) * 4294967296 + w0.val) / y.val) * y.val := Int.mul_comm _ _
      refine ⟨q', r', e1, ?_, ?_, ?_⟩
      · rw [e2, e3, h2, Int.add_mul]
        have : Q * 4294967296 * y.val = Q * y.val * 4294967296 := by rw [Int.mul_assoc, Int.mul_comm 4294967296, ← Int.mul_assoc]
        rw [this]
        generalize Q * y.val = p at *
        omega
      · rw [e3]; exact Int.emod_nonneg _ (by omega)
      · rw [e3]; exact Int.emod_lt_of_pos _ (by omega)
    have step : Q ≤ q.val - 1 → (wu64 (q.val - 1)).val = q.val - 1 ∧ Digit un32.val w.val y.val y1.val y0.val (wu64 (q.val - 1)).val (wu64 (rh.val + y1.val)).val Q := fun h => by
      have hqv : (wu64 (q.val - 1)).val = q.val - 1 := by rw [wu64_val]; omega
      refine ⟨hqv, ?_⟩
      rw [hqv, hrv]; exact D.next h
    unfold F_bits_Div64_L0
    by_cases h1 : q.val ≥ 4294967296
    · simp only [h1, decide_true, cond_true]
      obtain ⟨_, D2⟩ := step (D.over (.inl h1))
      by_cases hb : (wu64 (rh.val + y1.val)).val ≥ 4294967296
      · simp only [hb, decide_true, cond_true]
        exact last _ (D2.out hb)
      · simp only [hb, decide_false, cond_false]
        exact Div64_L0 y s y1 y0 un32 w w0 hw0 fu _ _ Q D2 (by omega) (by omega)
    · simp only [h1, decide_false, cond_false]
      have hm := mul_small q0 (by omega) D.y0l D.y0h
      have b0 := D.w0
      have b1 := D.w1
      have e1 : (wu64 (q.val * y0.val)).val = q.val * y0.val := by
        generalize q.val * y0.val = p at *
        rw [wu64_val]; omega
      have e2 : (wu64 ((wu64 (4294967296 * rh.val)).val + w.val)).val = 4294967296 * rh.val + w.val := by simp only [wu64_val]; omega
      rw [e1, e2]
      by_cases h2 : q.val * y0.val > 4294967296 * rh.val + w.val
      · simp only [h2, decide_true, cond_true]
        obtain ⟨_, D2⟩ := step (D.over (.inr h2))
        by_cases hb : (wu64 (rh.val + y1.val)).val ≥ 4294967296
        · simp only [hb, decide_true, cond_true]
          exact last _ (D2.out hb)
        · simp only [hb, decide_false, cond_false]
          exact Div64_L0 y s y1 y0 un32 w w0 hw0 fu _ _ Q D2 (by omega) (by omega)
      · simp only [h2, decide_false, cond_false]
        exact last q (D.under (by omega))

end Go.Proofs.YtgofhiehdpggkaaGreat.Abs
