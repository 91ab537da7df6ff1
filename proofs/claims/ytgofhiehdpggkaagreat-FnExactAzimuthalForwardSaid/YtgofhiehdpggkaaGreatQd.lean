/- Plain laws of the functions on numbers: what the program computes is what the reference computes. -/
import Derived.Test.YtgofhiehdpggkaaGreatQc
import Derived.Test.YtgofhiehdpggkaaGreatF5
set_option linter.unusedVariables false
set_option linter.unusedSimpArgs false
namespace Go.Proofs.YtgofhiehdpggkaaGreat.Abs
open Go

theorem and_one (x : U64) : (iand .u64 x.val 1).val = x.val % 2 := by
  have h0 := x.lo
  have h1 := x.hi
  obtain ⟨n, hn⟩ := Int.eq_ofNat_of_zero_le h0
  rw [hn]
  have h := bits_and_u64_nat n 1 (by omega) (by omega)
  rw [Nat.and_one_is_mod] at h
  have h' : (iand .u64 (n : Int) 1).val = ((n % 2 : Nat) : Int) := h
  rw [h']
  omega

theorem or_add (k : Nat) (x b : Int) (h0 : 0 ≤ x) (h1 : x < 18446744073709551616) (hx : x % 2 ^ k = 0) (b0 : 0 ≤ b) (b1 : b < 2 ^ k) (hk : k ≤ 64) : (ior .u64 x b).val = x + b := by
  obtain ⟨n, rfl⟩ := Int.eq_ofNat_of_zero_le h0
  obtain ⟨m, rfl⟩ := Int.eq_ofNat_of_zero_le b0
  have hp : ((2 : Int) ^ k) = ((2 ^ k : Nat) : Int) := by rw [Int.natCast_pow]; rfl
  rw [hp] at hx b1
  have hm : m < 2 ^ k := by omega
  have hle : 2 ^ k ≤ 2 ^ 64 := Nat.pow_le_pow_right (by omega) hk
  have hn : n % 2 ^ k = 0 := by
    have : ((n % 2 ^ k : Nat) : Int) = 0 := by rw [Int.natCast_emod]; exact hx
    omega
  have h64 : (2 : Nat) ^ 64 = 18446744073709551616 := by decide
  have hor : n ||| m = n + m := by
    have e : n = 2 ^ k * (n / 2 ^ k) := by
      have := Nat.div_add_mod n (2 ^ k)
      omega
    rw [e, Nat.two_pow_add_eq_or_of_lt hm]
  have hlt : n + m < 18446744073709551616 := by
    rw [← hor, ← h64]
    exact Nat.or_lt_two_pow (by rw [h64]; omega) (Nat.lt_of_lt_of_le hm hle)
  have h := bits_or_u64_nat n m (by omega) (by omega)
  rw [hor] at h
  have h' : (ior .u64 (n : Int) (m : Int)).val = ((n + m : Nat) : Int) := h
  rw [h']
  omega

theorem shr_val (x : U64) (y : Int) (h0 : 0 ≤ y) (h1 : y ≤ 64) : (ishr x y).val = x.val / 2 ^ y.toNat := by
  rw [ishr_val, Int.fdiv_eq_ediv_of_nonneg _ (Int.le_of_lt (Int.pow_pos (by decide)))]
  rw [show min y.toNat IntKind.u64.bits = y.toNat from Nat.min_eq_left (by show y.toNat ≤ 64; omega)]

theorem shl1_val (x : U64) : (ishl .u64 x.val 1).val = (x.val * 2) % 18446744073709551616 := by
  show IntKind.u64.wrap (x.val * 2 ^ 1) = _
  rw [IntKind.wrap_u64]
  rfl

/-- One round of the long division brings down a digit. -/
theorem bring (x : Int) (i : Nat) : x % 2 ^ (i + 1) = (x / 2 ^ i) % 2 * 2 ^ i + x % 2 ^ i := by
  have hp : (0 : Int) < 2 ^ i := Int.pow_pos (by decide)
  have h1 := Int.emod_add_mul_ediv x (2 ^ i)
  have h2 := Int.emod_add_mul_ediv (x / 2 ^ i) 2
  have h3 : 0 ≤ x % 2 ^ i := Int.emod_nonneg _ (by omega)
  have h4 : x % 2 ^ i < 2 ^ i := Int.emod_lt_of_pos _ hp
  have e : x = 2 ^ (i + 1) * (x / 2 ^ i / 2) + ((x / 2 ^ i) % 2 * 2 ^ i + x % 2 ^ i) := by
    rw [Int.pow_succ]
    generalize x / 2 ^ i = y at *
    generalize x % 2 ^ i = z at *
    generalize (2 : Int) ^ i = p at *
    generalize y / 2 = u at *
    generalize y % 2 = v at *
    subst h2
    rw [← h1]
    grind
  have hb : 0 ≤ (x / 2 ^ i) % 2 := Int.emod_nonneg _ (by decide)
  have hb2 : (x / 2 ^ i) % 2 ≤ 1 := by have := Int.emod_lt_of_pos (x / 2 ^ i) (by decide : (0 : Int) < 2); omega
  have hpp : (2 : Int) ^ (i + 1) = 2 * 2 ^ i := by rw [Int.pow_succ]; omega
  have hlo : 0 ≤ (x / 2 ^ i) % 2 * 2 ^ i := Int.mul_nonneg hb (Int.le_of_lt hp)
  have hhi : (x / 2 ^ i) % 2 * 2 ^ i ≤ 2 ^ i := by
    have := Int.mul_le_mul_of_nonneg_right hb2 (Int.le_of_lt hp)
    omega
  have q := congrArg (· % (2 : Int) ^ (i + 1)) e
  simp only [Int.mul_add_emod_self_left] at q
  rw [q]
  exact Int.emod_eq_of_lt (by omega) (by omega)

theorem sp_Divide_loop (lo d qh : U64) (hd : 0 < d.val) : ∀ (N fu : Nat) (rest q : U64) (i : I64), i.val = (N : Int) - 1 → N < fu → N ≤ 64 → rest.val < d.val → (q.val + 1) * 2 ^ N ≤ 18446744073709551616 →
    ∃ q' r' : U64, F_spec_l02Divide_L0 fu lo d qh rest q i = (qh, q', r') ∧ q'.val * d.val + r'.val = q.val * 2 ^ N * d.val + rest.val * 2 ^ N + lo.val % 2 ^ N ∧ r'.val < d.val
  | 0, fu, rest, q, i, hi, hf, hN, hr, hq => by
    obtain ⟨f, rfl⟩ := Nat.exists_eq_succ_of_ne_zero (by omega : fu ≠ 0)
    have hneg : ¬ i.val ≥ 0 := by omega
    refine ⟨q, rest, ?_, ?_, hr⟩
    · unfold F_spec_l02Divide_L0
      simp only [hneg, decide_false, cond_false]
    · simp only [Int.pow_zero, Int.mul_one, Int.emod_one]
      omega
  | N + 1, fu, rest, q, i, hi, hf, hN, hr, hq => by
    obtain ⟨f, rfl⟩ := Nat.exists_eq_succ_of_ne_zero (by omega : fu ≠ 0)
    have hpos : i.val ≥ 0 := by omega
    have hiN : i.val = N := by omega
    have hwi : (wu64 i.val).val = i.val := by rw [wu64_val]; omega
    have d1 := d.hi
    have r0 := rest.lo
    have r1 := rest.hi
    have q0 := q.lo
    have l0 := lo.lo
    have hp : (0 : Int) < 2 ^ N := Int.pow_pos (by decide)
    have hpp : (2 : Int) ^ (N + 1) = 2 * 2 ^ N := by rw [Int.pow_succ]; omega
    have hq2 : (q.val + 1) * 2 * 2 ^ N ≤ 18446744073709551616 := by rw [Int.mul_assoc, ← hpp]; exact hq
    have hq3 : (q.val + 1) * 2 ≤ (q.val + 1) * 2 * 2 ^ N := by
      have := Int.mul_le_mul_of_nonneg_left (by omega : (1 : Int) ≤ 2 ^ N) (by omega : 0 ≤ (q.val + 1) * 2)
      omega
    have hbit : (iand .u64 (ishr lo (wu64 i.val).val).val 1).val = (lo.val / 2 ^ N) % 2 := by
      rw [and_one, hwi, shr_val lo i.val hpos (by omega), hiN]
      rfl
    have hbr := bring lo.val N
    have hb0 : 0 ≤ (lo.val / 2 ^ N) % 2 := Int.emod_nonneg _ (by decide)
    have hb1 : (lo.val / 2 ^ N) % 2 < 2 := Int.emod_lt_of_pos _ (by decide)
    generalize (lo.val / 2 ^ N) % 2 = b at *
    have hor : (ior .u64 (ishl .u64 rest.val 1).val (iand .u64 (ishr lo (wu64 i.val).val).val 1).val).val = (rest.val * 2) % 18446744073709551616 + b := by
      rw [hbit, shl1_val]
      exact or_add 1 _ b (by omega) (by omega) (by show _ % 2 = 0; omega) hb0 (by show b < 2; omega) (by omega)
    have hqs : (ishl .u64 q.val 1).val = q.val * 2 := by rw [shl1_val]; omega
    have hqo : (ior .u64 (ishl .u64 q.val 1).val 1).val = q.val * 2 + 1 := by
      rw [hqs]
      exact or_add 1 _ 1 (by omega) (by omega) (by show _ % 2 = 0; omega) (by omega) (by show (1 : Int) < 2; omega) (by omega)
    have htop : (ishr rest 63).val = rest.val / 9223372036854775808 := shr_val rest 63 (by omega) (by omega)
    have hi' : (w64 (i.val - 1)).val = (N : Int) - 1 := by rw [w64_val]; omega
    have fin : ∀ (rest' q2 : U64), rest'.val < d.val → q2.val * 1 * d.val + rest'.val = q.val * 2 * d.val + rest.val * 2 + b → q2.val ≤ q.val * 2 + 1 →
        ∃ q' r' : U64, F_spec_l02Divide_L0 f lo d qh rest' q2 (w64 (i.val - 1)) = (qh, q', r') ∧ q'.val * d.val + r'.val = q.val * 2 ^ (N + 1) * d.val + rest.val * 2 ^ (N + 1) + lo.val % 2 ^ (N + 1) ∧ r'.val < d.val := fun rest' q2 h1 h2 h3 => by
      have hq4 : (q2.val + 1) * 2 ^ N ≤ 18446744073709551616 := by
        have := Int.mul_le_mul_of_nonneg_right (by omega : q2.val + 1 ≤ (q.val + 1) * 2) (Int.le_of_lt hp)
        omega
      obtain ⟨q', r', e1, e2, e3⟩ := sp_Divide_loop lo d qh hd N f rest' q2 (w64 (i.val - 1)) hi' (by omega) (by omega) h1 hq4
      refine ⟨q', r', e1, ?_, e3⟩
      rw [e2, hbr, hpp]
      have : (q2.val * 1 * d.val + rest'.val) * 2 ^ N = (q.val * 2 * d.val + rest.val * 2 + b) * 2 ^ N := by rw [h2]
      generalize lo.val % 2 ^ N = m at *
      generalize (2 : Int) ^ N = p at *
      grind
    unfold F_spec_l02Divide_L0
    simp only [hpos, decide_true, cond_true]
    by_cases ht : (ishr rest 63).val = 1
    · have hb : ((ishr rest 63).val == 1) = true := by simpa using ht
      rw [hb, cond_true]
      have hv : (wu64 ((ior .u64 (ishl .u64 rest.val 1).val (iand .u64 (ishr lo (wu64 i.val).val).val 1).val).val - d.val)).val = rest.val * 2 + b - d.val := by
        rw [wu64_val, hor]
        omega
      refine fin _ _ (by rw [hv]; omega) ?_ (by rw [hqo]; omega)
      rw [hv, hqo]
      grind
    · have hb : ((ishr rest 63).val == 1) = false := by simpa using ht
      rw [hb, cond_false]
      have hor2 : (ior .u64 (ishl .u64 rest.val 1).val (iand .u64 (ishr lo (wu64 i.val).val).val 1).val).val = rest.val * 2 + b := by rw [hor]; omega
      by_cases hge : (ior .u64 (ishl .u64 rest.val 1).val (iand .u64 (ishr lo (wu64 i.val).val).val 1).val).val ≥ d.val
      · simp only [hge, decide_true, cond_true]
        have hv : (wu64 ((ior .u64 (ishl .u64 rest.val 1).val (iand .u64 (ishr lo (wu64 i.val).val).val 1).val).val - d.val)).val = rest.val * 2 + b - d.val := by
          rw [wu64_val, hor2]
          omega
        refine fin _ _ (by rw [hv]; omega) ?_ (by rw [hqo]; omega)
        rw [hv, hqo]
        grind
      · simp only [hge, decide_false, cond_false]
        refine fin _ _ (by omega) ?_ (by rw [hqs]; omega)
        rw [hor2, hqs]
        grind

theorem sp_Divide (hi lo d : U64) (hd : 0 < d.val) : ∃ q r : U64, F_spec_l02Divide hi lo d = (wu64 (Int.tdiv hi.val d.val), q, r) ∧ q.val * d.val + r.val = hi.val % d.val * 18446744073709551616 + lo.val ∧ r.val < d.val := by
  have hm : (imod hi d.val).val = hi.val % d.val := by rw [imod_val, Int.tmod_eq_emod_of_nonneg hi.lo]
  obtain ⟨q, r, e1, e2, e3⟩ := sp_Divide_loop lo d (wu64 (Int.tdiv hi.val d.val)) hd 64 65 (imod hi d.val) (cu64 0) (c64 63) rfl (by omega) (by omega) (imod_lt _ _ (by omega)) (by decide)
  refine ⟨q, r, e1, ?_, e3⟩
  rw [e2, hm]
  have h : lo.val % 2 ^ 64 = lo.val := Int.emod_eq_of_lt lo.lo (by have := lo.hi; omega)
  rw [h]
  show 0 * 2 ^ 64 * d.val + hi.val % d.val * 18446744073709551616 + lo.val = _
  omega

end Go.Proofs.YtgofhiehdpggkaaGreat.Abs
