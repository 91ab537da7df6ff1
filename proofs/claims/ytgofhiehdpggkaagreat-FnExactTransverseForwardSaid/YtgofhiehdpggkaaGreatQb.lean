/- Plain laws of the functions on numbers: what the program computes is what the reference computes. -/
import Derived.Test.YtgofhiehdpggkaaGreatQa
import Derived.Test.YtgofhiehdpggkaaGreatF5
set_option linter.unusedVariables false
set_option linter.unusedSimpArgs false
namespace Go.Proofs.YtgofhiehdpggkaaGreat.Abs
open Go

/-- The whole number that a wide one stands for. -/
def Wd.z (w : Wd) : Int := w.hi.val * 18446744073709551616 + w.lo.val

theorem Wd.z_inj {v w : Wd} (h : v.z = w.z) : v = w := by
  obtain ⟨a, b⟩ := v
  obtain ⟨c, d⟩ := w
  have h1 := b.lo
  have h2 := b.hi
  have h3 := d.lo
  have h4 := d.hi
  simp only [Wd.z] at h
  have e1 : a.val = c.val := by omega
  have e2 : b.val = d.val := by omega
  rw [IK.eq e1, IK.eq e2]

theorem Wd.z_mod {v w : Wd} (h : ∃ k : Int, v.z = w.z + k * 340282366920938463463374607431768211456) : v = w := by
  refine Wd.z_inj ?_
  have h1 := v.lo.lo
  have h2 := v.lo.hi
  have h3 := w.lo.lo
  have h4 := w.lo.hi
  have h5 := v.hi.lo
  have h6 := v.hi.hi
  have h7 := w.hi.lo
  have h8 := w.hi.hi
  obtain ⟨k, h⟩ := h
  simp only [Wd.z] at h ⊢
  omega

theorem and_mask (x : Int) (h0 : 0 ≤ x) (h1 : x < 18446744073709551616) : (iand .u64 x 4294967295).val = x % 4294967296 := by
  obtain ⟨n, rfl⟩ := Int.eq_ofNat_of_zero_le h0
  have h := bits_and_u64_nat n 4294967295 (by omega) (by omega)
  have e : n &&& 4294967295 = n % 4294967296 := Nat.and_two_pow_sub_one_eq_mod n 32
  rw [e] at h
  have h' : (iand .u64 (n : Int) 4294967295).val = ((n % 4294967296 : Nat) : Int) := h
  rw [h']
  omega

theorem shr32 (x : U64) : (ishr x 32).val = x.val / 4294967296 := by
  rw [ishr_val, Int.fdiv_eq_ediv_of_nonneg _ (by decide)]
  rfl

theorem mul64_split (a b : Int) (ha : 0 ≤ a) (hb : 0 ≤ b) (ha' : a < 18446744073709551616) (hb' : b < 18446744073709551616) : ∃ p q r s : Int, a % 4294967296 * (b % 4294967296) = p ∧ a / 4294967296 * (b % 4294967296) = q ∧ a % 4294967296 * (b / 4294967296) = r ∧ a / 4294967296 * (b / 4294967296) = s ∧
    0 ≤ p ∧ p ≤ 18446744065119617025 ∧ 0 ≤ q ∧ q ≤ 18446744065119617025 ∧ 0 ≤ r ∧ r ≤ 18446744065119617025 ∧ 0 ≤ s ∧ s ≤ 18446744065119617025 ∧ a * b = s * 18446744073709551616 + (q + r) * 4294967296 + p := by
  have key : ∀ x y : Int, 0 ≤ x → x ≤ 4294967295 → 0 ≤ y → y ≤ 4294967295 → 0 ≤ x * y ∧ x * y ≤ 18446744065119617025 := fun x y h1 h2 h3 h4 => by
    refine ⟨Int.mul_nonneg h1 h3, ?_⟩
    have := Int.mul_le_mul h2 h4 h3 (by omega : (0 : Int) ≤ 4294967295)
    omega
  have e1 : a = a / 4294967296 * 4294967296 + a % 4294967296 := by omega
  have e2 : b = b / 4294967296 * 4294967296 + b % 4294967296 := by omega
  have r1 : 0 ≤ a / 4294967296 ∧ a / 4294967296 ≤ 4294967295 := by omega
  have r2 : 0 ≤ a % 4294967296 ∧ a % 4294967296 ≤ 4294967295 := by omega
  have r3 : 0 ≤ b / 4294967296 ∧ b / 4294967296 ≤ 4294967295 := by omega
  have r4 : 0 ≤ b % 4294967296 ∧ b % 4294967296 ≤ 4294967295 := by omega
  generalize a / 4294967296 = a1 at *
  generalize a % 4294967296 = a0 at *
  generalize b / 4294967296 = b1 at *
  generalize b % 4294967296 = b0 at *
  have k1 := key _ _ r2.1 r2.2 r4.1 r4.2
  have k2 := key _ _ r1.1 r1.2 r4.1 r4.2
  have k3 := key _ _ r2.1 r2.2 r3.1 r3.2
  have k4 := key _ _ r1.1 r1.2 r3.1 r3.2
  refine ⟨_, _, _, _, rfl, rfl, rfl, rfl, k1.1, k1.2, k2.1, k2.2, k3.1, k3.2, k4.1, k4.2, ?_⟩
  rw [e1, e2]
  grind

theorem sp_Times (a b : U64) : (F_spec_l02Times a b).1.val * 18446744073709551616 + (F_spec_l02Times a b).2.val = a.val * b.val := by
  have ha := a.lo
  have ha' := a.hi
  have hb := b.lo
  have hb' := b.hi
  obtain ⟨p, q, r, s, e1, e2, e3, e4, p1, p2, q1, q2, r1, r2, s1, s2, e⟩ := mul64_split a.val b.val ha hb (by omega) (by omega)
  unfold F_spec_l02Times
  simp only [shr32, and_mask _ ha (by omega : a.val < 18446744073709551616), and_mask _ hb (by omega : b.val < 18446744073709551616), wu64_val, e1, e2, e3, e4]
  rw [and_mask _ (by omega) (by omega)]
  rw [e]
  omega

theorem eq_Mul64 (a b : U64) : F_bits_Mul64 a b = F_spec_l02Times a b := by
  unfold F_bits_Mul64 F_spec_l02Times
  rw [Int.add_comm (iand .u64 _ 4294967295).val (wu64 ((iand .u64 a.val 4294967295).val * (ishr b 32).val)).val]

theorem Minus_z (w : Wd) : ∃ k : Int, (F_spec_l02Minus w).z = -w.z + k * 340282366920938463463374607431768211456 := by
  have h1 := w.lo.lo
  have h2 := w.lo.hi
  have h5 := w.hi.lo
  have h6 := w.hi.hi
  unfold F_spec_l02Minus
  by_cases h : w.lo.val = 0
  · simp only [h, beq_self_eq_true, cond_true, Wd.z, w64_val, wu64_val]
    by_cases e : w.hi.val = -9223372036854775808
    · exact ⟨-1, by omega⟩
    · exact ⟨0, by omega⟩
  · have hb : (w.lo.val == 0) = false := by simpa using h
    have hn : (inot .i64 w.hi.val).val = -1 - w.hi.val := by
      show IntKind.i64.wrap (BitVec.ofInt 64 (-1) ^^^ BitVec.ofInt 64 w.hi.val).toNat = _
      have e1 : BitVec.ofInt 64 (-1) = BitVec.allOnes 64 := by decide
      rw [e1, BitVec.xor_comm, BitVec.xor_allOnes, BitVec.toNat_not, BitVec.toNat_ofInt, IntKind.wrap_i64]
      omega
    simp only [hb, cond_false, Wd.z, hn, wu64_val]
    exact ⟨0, by omega⟩

theorem mul_size (a b : I64) : ∃ x : Int, a.val * b.val = x ∧ -85070591730234615865843651857942052864 ≤ x ∧ x ≤ 85070591730234615865843651857942052864 := by
  refine ⟨_, rfl, ?_⟩
  have h1 : a.val.natAbs ≤ 9223372036854775808 := by have := a.lo; have := a.hi; omega
  have h2 : b.val.natAbs ≤ 9223372036854775808 := by have := b.lo; have := b.hi; omega
  have h := Nat.mul_le_mul h1 h2
  rw [← Int.natAbs_mul] at h
  omega

theorem sp_Mul (a b : I64) : (F_spec_l02Mul a b).z = a.val * b.val := by
  have ha := a.lo
  have ha' := a.hi
  have hb := b.lo
  have hb' := b.hi
  have size : ∀ n : I64, (F_spec_l02Size n).val = (n.val.natAbs : Int) := fun n => by
    have h1 := n.lo
    have h2 := n.hi
    unfold F_spec_l02Size
    by_cases h : n.val < 0 <;> simp only [h, decide_true, decide_false, cond_true, cond_false, wu64_val] <;> omega
  have ht := sp_Times (F_spec_l02Size a) (F_spec_l02Size b)
  rw [size, size, ← Int.natCast_mul, ← Int.natAbs_mul] at ht
  obtain ⟨x, hx, x1, x2⟩ := mul_size a b
  rw [hx] at ht
  unfold F_spec_l02Mul
  simp only [bindP_eq]
  have k1 := (F_spec_l02Times (F_spec_l02Size a) (F_spec_l02Size b)).1.lo
  have k2 := (F_spec_l02Times (F_spec_l02Size a) (F_spec_l02Size b)).1.hi
  have k3 := (F_spec_l02Times (F_spec_l02Size a) (F_spec_l02Size b)).2.lo
  have k4 := (F_spec_l02Times (F_spec_l02Size a) (F_spec_l02Size b)).2.hi
  generalize F_spec_l02Times (F_spec_l02Size a) (F_spec_l02Size b) = p at *
  obtain ⟨hi, lo⟩ := p
  simp only at *
  have hv : Wd.z ⟨w64 hi.val, lo⟩ = (x.natAbs : Int) := by
    simp only [Wd.z, w64_val]
    omega
  rw [hx]
  by_cases hs : (decide (a.val < 0)) = decide (b.val < 0)
  · have e : (!(decide (a.val < 0) == decide (b.val < 0))) = false := by simp [hs]
    rw [e, cond_false, hv]
    have : 0 ≤ x := by
      rw [← hx]
      by_cases h : a.val < 0
      · have h' : b.val < 0 := by simpa [h] using hs
        exact Int.mul_nonneg_of_nonpos_of_nonpos (by omega) (by omega)
      · have h' : ¬ b.val < 0 := by simpa [h] using hs
        exact Int.mul_nonneg (by omega) (by omega)
    omega
  · have e : (!(decide (a.val < 0) == decide (b.val < 0))) = true := by simpa using hs
    rw [e, cond_true]
    obtain ⟨k, hk⟩ := Minus_z ⟨w64 hi.val, lo⟩
    rw [hv] at hk
    have : x ≤ 0 := by
      rw [← hx]
      by_cases h : a.val < 0
      · have h' : ¬ b.val < 0 := fun h' => hs (by simp [h, h'])
        exact Int.mul_nonpos_of_nonpos_of_nonneg (by omega) (by omega)
      · have h' : b.val < 0 := by
          by_cases q : b.val < 0
          · exact q
          · exact absurd (by simp [h, q]) hs
        exact Int.mul_nonpos_of_nonneg_of_nonpos (by omega) (by omega)
    generalize F_spec_l02Minus ⟨w64 hi.val, lo⟩ = w at *
    have h1 := w.lo.lo
    have h2 := w.lo.hi
    have h5 := w.hi.lo
    have h6 := w.hi.hi
    simp only [Wd.z] at hk ⊢
    omega

theorem eq_WideMul (a b : I64) : F_impl_WideMul a b = F_spec_l02Mul a b := by
  refine Wd.z_mod ?_
  rw [sp_Mul]
  have ha := a.lo
  have ha' := a.hi
  have hb := b.lo
  have hb' := b.hi
  have ht := sp_Times (wu64 a.val) (wu64 b.val)
  have ea : (wu64 a.val).val = bif decide (a.val < 0) then a.val + 18446744073709551616 else a.val := by
    by_cases h : a.val < 0 <;> simp only [h, decide_true, decide_false, cond_true, cond_false, wu64_val] <;> omega
  have eb : (wu64 b.val).val = bif decide (b.val < 0) then b.val + 18446744073709551616 else b.val := by
    by_cases h : b.val < 0 <;> simp only [h, decide_true, decide_false, cond_true, cond_false, wu64_val] <;> omega
  unfold F_impl_WideMul
  rw [eq_Mul64]
  simp only [bindP_eq]
  generalize F_spec_l02Times (wu64 a.val) (wu64 b.val) = p at *
  obtain ⟨hi, lo⟩ := p
  rw [ea, eb] at ht ⊢
  simp only at ht
  by_cases h : a.val < 0 <;> by_cases h' : b.val < 0 <;> simp only [h, h', decide_true, decide_false, cond_true, cond_false] at ht ⊢
  · have e : (a.val + 18446744073709551616) * (b.val + 18446744073709551616) = a.val * b.val + 18446744073709551616 * a.val + 18446744073709551616 * b.val + 340282366920938463463374607431768211456 := by grind
    rw [e] at ht
    generalize a.val * b.val = x at *
    simp only [Wd.z, w64_val, wu64_val]
    refine ⟨((((hi.val - (b.val + 18446744073709551616)) % 18446744073709551616 - (a.val + 18446744073709551616)) % 18446744073709551616 + 9223372036854775808) % 18446744073709551616 - 9223372036854775808 - (hi.val - b.val - a.val - 18446744073709551616)) / 18446744073709551616, ?_⟩
    omega
  · have e : (a.val + 18446744073709551616) * b.val = a.val * b.val + 18446744073709551616 * b.val := by grind
    rw [e] at ht
    generalize a.val * b.val = x at *
    simp only [Wd.z, w64_val, wu64_val]
    refine ⟨(((hi.val - b.val) % 18446744073709551616 + 9223372036854775808) % 18446744073709551616 - 9223372036854775808 - (hi.val - b.val)) / 18446744073709551616, ?_⟩
    omega
  · have e : a.val * (b.val + 18446744073709551616) = a.val * b.val + 18446744073709551616 * a.val := by grind
    rw [e] at ht
    generalize a.val * b.val = x at *
    simp only [Wd.z, w64_val, wu64_val]
    refine ⟨(((hi.val - a.val) % 18446744073709551616 + 9223372036854775808) % 18446744073709551616 - 9223372036854775808 - (hi.val - a.val)) / 18446744073709551616, ?_⟩
    omega
  · generalize a.val * b.val = x at *
    simp only [Wd.z, w64_val]
    refine ⟨((hi.val + 9223372036854775808) % 18446744073709551616 - 9223372036854775808 - hi.val) / 18446744073709551616, ?_⟩
    omega

end Go.Proofs.YtgofhiehdpggkaaGreat.Abs
