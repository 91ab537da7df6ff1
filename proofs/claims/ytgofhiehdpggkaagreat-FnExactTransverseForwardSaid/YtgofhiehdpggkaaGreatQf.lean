/- Plain laws of the functions on numbers: what the program computes is what the reference computes. -/
import Derived.Test.YtgofhiehdpggkaaGreatQe
import Derived.Test.YtgofhiehdpggkaaGreatF5
set_option linter.unusedVariables false
set_option linter.unusedSimpArgs false
namespace Go.Proofs.YtgofhiehdpggkaaGreat.Abs
open Go

theorem sp_Div64 (hi lo d : U64) (h : hi.val < d.val) : ∃ q r : U64, F_bits_Div64 hi lo d = (q, r) ∧ q.val * d.val + r.val = hi.val * 18446744073709551616 + lo.val ∧ r.val < d.val := by
  have hi0 := hi.lo
  have lo0 := lo.lo
  have loh := lo.hi
  have dh := d.hi
  unfold F_bits_Div64
  simp only [bindP_eq]
  by_cases hz : hi.val = 0
  · have hb : (hi.val == 0) = true := by simpa using hz
    rw [hb, cond_true]
    have e := Int.emod_add_mul_ediv lo.val d.val
    have hc : d.val * (lo.val / d.val) = lo.val / d.val * d.val := Int.mul_comm _ _
    refine ⟨_, _, rfl, ?_, imod_lt _ _ (by omega)⟩
    rw [est lo d (by omega), imod_val, Int.tmod_eq_emod_of_nonneg lo0, hz]
    omega
  · have hb : (hi.val == 0) = false := by simpa using hz
    rw [hb, cond_false]
    obtain ⟨s, hs, e1, e2, e3, e4⟩ := norm_y d (by omega)
    have hn := norm_yn d (by omega)
    have hp : (0 : Int) < 2 ^ s := Int.pow_pos (by decide)
    have hcp : (0 : Int) < 2 ^ (64 - s) := Int.pow_pos (by decide)
    have hpc : (2 : Int) ^ s * 2 ^ (64 - s) = 18446744073709551616 := by rw [← Int.pow_add, show s + (64 - s) = 64 by omega]; rfl
    have ple : (2 : Int) ^ s ≤ 18446744073709551616 := by
      have := Int.mul_le_mul_of_nonneg_left (by omega : (1 : Int) ≤ 2 ^ (64 - s)) (Int.le_of_lt hp)
      omega
    have hdp : (hi.val + 1) * 2 ^ s ≤ d.val * 2 ^ s := Int.mul_le_mul_of_nonneg_right (by omega) (Int.le_of_lt hp)
    have hdp2 : (hi.val + 1) * 2 ^ s = hi.val * 2 ^ s + 2 ^ s := by rw [Int.add_mul, Int.one_mul]
    have hp0 : 0 ≤ hi.val * 2 ^ s := Int.mul_nonneg hi0 (Int.le_of_lt hp)
    have shl : ∀ x : U64, (ishl .u64 x.val (wu64 (F_bits_LeadingZeros64 d).val).val).val = (x.val * 2 ^ s) % 18446744073709551616 := fun x => by
      rw [e1]
      show IntKind.u64.wrap (x.val * 2 ^ (min ((s : Int).toNat) 64)) = _
      rw [Int.toNat_natCast, Nat.min_eq_left (by omega), IntKind.wrap_u64]
    have hsh : (ishl .u64 hi.val (wu64 (F_bits_LeadingZeros64 d).val).val).val = hi.val * 2 ^ s := by rw [shl]; omega
    have h64 : (wu64 (64 - (wu64 (F_bits_LeadingZeros64 d).val).val)).val = ((64 - s : Nat) : Int) := by rw [e1, wu64_val]; omega
    have hlo : (ishr lo (wu64 (64 - (wu64 (F_bits_LeadingZeros64 d).val).val)).val).val = lo.val / 2 ^ (64 - s) := by
      rw [h64, shr_val lo _ (by omega) (by omega), Int.toNat_natCast]
    have l0 : 0 ≤ lo.val / 2 ^ (64 - s) := Int.ediv_nonneg lo0 (Int.le_of_lt hcp)
    have l1 : lo.val / 2 ^ (64 - s) < 2 ^ s := by
      rw [Int.ediv_lt_iff_lt_mul hcp, hpc]
      omega
    have hor : (ior .u64 (ishl .u64 hi.val (wu64 (F_bits_LeadingZeros64 d).val).val).val (ishr lo (wu64 (64 - (wu64 (F_bits_LeadingZeros64 d).val).val)).val).val).val = hi.val * 2 ^ s + lo.val / 2 ^ (64 - s) := by
      rw [hsh, hlo]
      exact or_add s _ _ hp0 (by omega) (Int.mul_emod_left _ _) l0 l1 (by omega)
    have hm := shl lo
    have hdiv : (lo.val * 2 ^ s) / 18446744073709551616 = lo.val / 2 ^ (64 - s) := by
      rw [← hpc, Int.mul_comm lo.val, Int.mul_ediv_mul_of_pos _ _ hp]
    have hem := Int.emod_add_mul_ediv (lo.val * 2 ^ s) 18446744073709551616
    rw [hdiv] at hem
    have m0 : 0 ≤ (ishl .u64 lo.val (wu64 (F_bits_LeadingZeros64 d).val).val).val := U64.lo _
    have m1 : (ishl .u64 lo.val (wu64 (F_bits_LeadingZeros64 d).val).val).val ≤ 18446744073709551615 := U64.hi _
    have un1 := shr32 (ishl .u64 lo.val (wu64 (F_bits_LeadingZeros64 d).val).val)
    have un0 := and_mask _ m0 (by omega)
    have yn1 := shr32 (ishl .u64 d.val (wu64 (F_bits_LeadingZeros64 d).val).val)
    have yn0 := and_mask (ishl .u64 d.val (wu64 (F_bits_LeadingZeros64 d).val).val).val (U64.lo _) (by have := U64.hi (ishl .u64 d.val (wu64 (F_bits_LeadingZeros64 d).val).val); omega)
    have hse : (wu64 (F_bits_LeadingZeros64 d).val).val = s := e1
    have hy : (ishl .u64 d.val (wu64 (F_bits_LeadingZeros64 d).val).val).val = d.val * 2 ^ s := e2
    clear shl e1 e2 h64 hlo hsh
    generalize (wu64 (F_bits_LeadingZeros64 d).val) = sv at *
    generalize ishl .u64 d.val sv.val = y at *
    generalize ishl .u64 lo.val sv.val = ll at *
    generalize ior .u64 (ishl .u64 hi.val sv.val).val (ishr lo (wu64 (64 - sv.val)).val).val = un32 at *
    generalize ishr y 32 = y1 at *
    generalize iand .u64 y.val 4294967295 = y0 at *
    generalize ishr ll 32 = w at *
    generalize iand .u64 ll.val 4294967295 = w0 at *
    have hu : un32.val < y.val := by rw [hor, hy]; omega
    have D := Digit.first (u := un32.val) (w := w.val) (y := y.val) (y1 := y1.val) (y0 := y0.val) (by omega) hn.1 hn.2 (by omega) (by omega) (by omega) (by omega) (U64.lo un32) hu
    have hr := rem_eq un32 y1 hn.1
    have hq := est un32 y1 hn.1
    have hlt := rem_lt un32 y1 hn.1 hn.2
    rw [← hr, ← hq] at D
    obtain ⟨q', r', k1, k2, k3, k4⟩ := Div64_L0 y sv y1 y0 un32 w w0 (by omega) _ _ _ _ D hlt (Nat.lt_succ_self _)
    have tot : q'.val * y.val + r'.val = (hi.val * 18446744073709551616 + lo.val) * 2 ^ s := by
      rw [k2, hor, Int.add_mul (hi.val * 18446744073709551616)]
      have : hi.val * 18446744073709551616 * 2 ^ s = hi.val * 2 ^ s * 18446744073709551616 := by rw [Int.mul_assoc, Int.mul_comm 18446744073709551616, ← Int.mul_assoc]
      rw [this]
      omega
    rw [hy] at tot k4
    have hre : r'.val = (hi.val * 18446744073709551616 + lo.val - q'.val * d.val) * 2 ^ s := by
      rw [Int.sub_mul, ← tot, ← Int.mul_assoc]
      omega
    have hsr : (ishr r' sv.val).val = hi.val * 18446744073709551616 + lo.val - q'.val * d.val := by
      rw [hse, shr_val r' _ (by omega) (by omega), Int.toNat_natCast, hre, Int.mul_ediv_cancel _ (by omega)]
    refine ⟨q', ishr r' sv.val, k1, by rw [hsr]; omega, ?_⟩
    rw [hsr]
    rw [hre] at k4
    exact Int.lt_of_mul_lt_mul_right k4 (Int.le_of_lt hp)

theorem div_unique {q1 r1 q2 r2 d : Int} (e : q1 * d + r1 = q2 * d + r2) (a0 : 0 ≤ r1) (a1 : r1 < d) (b0 : 0 ≤ r2) (b1 : r2 < d) : q1 = q2 ∧ r1 = r2 := by
  have h : q1 = q2 := by
    rcases Int.lt_trichotomy q1 q2 with h | h | h
    · have := Int.mul_le_mul_of_nonneg_right (by omega : q1 + 1 ≤ q2) (by omega : 0 ≤ d)
      rw [Int.add_mul] at this
      omega
    · exact h
    · have := Int.mul_le_mul_of_nonneg_right (by omega : q2 + 1 ≤ q1) (by omega : 0 ≤ d)
      rw [Int.add_mul] at this
      omega
  subst h
  exact ⟨rfl, by omega⟩

theorem eq_divided (hi lo d : U64) (hd : 0 < d.val) : F_impl_divided hi lo d = F_spec_l02Divide hi lo d := by
  have hm : (imod hi d.val).val = hi.val % d.val := by rw [imod_val, Int.tmod_eq_emod_of_nonneg hi.lo]
  obtain ⟨q1, r1, a1, a2, a3⟩ := sp_Div64 (imod hi d.val) lo d (imod_lt _ _ (by omega))
  obtain ⟨q2, r2, b1, b2, b3⟩ := sp_Divide hi lo d hd
  obtain ⟨h1, h2⟩ := div_unique (a2.trans (by rw [hm, b2])) r1.lo a3 r2.lo b3
  unfold F_impl_divided
  rw [bindP_eq, a1, b1, IK.eq h1, IK.eq h2]

theorem eq_negative (w : Wd) : F_impl_Wide_negative w = F_spec_l02Minus w := by
  refine Wd.z_mod ?_
  obtain ⟨k, hk⟩ := Minus_z w
  rw [hk]
  have h1 := w.lo.lo
  have h2 := w.lo.hi
  have h5 := w.hi.lo
  have h6 := w.hi.hi
  unfold F_impl_Wide_negative
  simp only [Wd.z, w64_val, wu64_val, sbb_lo_val, sbb_hi_val, cu64_val]
  refine ⟨(((((0 - w.hi.val % 18446744073709551616 - (if (0 : Int) < w.lo.val + 0 then 1 else 0)) % 18446744073709551616 + 9223372036854775808) % 18446744073709551616 - 9223372036854775808) * 18446744073709551616 + (0 - w.lo.val - 0) % 18446744073709551616 + (w.hi.val * 18446744073709551616 + w.lo.val)) / 340282366920938463463374607431768211456) - k, ?_⟩
  split <;> omega

end Go.Proofs.YtgofhiehdpggkaaGreat.Abs
