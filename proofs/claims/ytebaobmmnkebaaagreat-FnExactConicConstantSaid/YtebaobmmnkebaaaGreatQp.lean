/- Plain laws of the functions on numbers: what the program computes is what the reference computes. -/
import Derived.Test.YtebaobmmnkebaaaGreatQo
import Derived.Test.YtebaobmmnkebaaaGreatF3
set_option linter.unusedVariables false
set_option linter.unusedSimpArgs false
namespace Go.Proofs.YtebaobmmnkebaaaGreat.Abs
open Go

theorem shl_one (i : I64) (n : Nat) (h : i.val = n) (hn : n ≤ 63) : (ishl .u64 1 (wu64 i.val).val).val = 2 ^ n := by
  have e : (wu64 i.val).val = n := by rw [wu64_val, h]; omega
  rw [e]
  show IntKind.u64.wrap (1 * 2 ^ (min ((n : Int)).toNat 64)) = _
  rw [Int.toNat_natCast, Nat.min_eq_left (by omega), IntKind.wrap_u64, Int.one_mul]
  have h1 : (2 : Int) ^ n = ((2 ^ n : Nat) : Int) := by rw [Int.natCast_pow]; rfl
  have h2 : 2 ^ n ≤ 2 ^ 63 := Nat.pow_le_pow_right (by omega) hn
  have h3 : (2 : Nat) ^ 63 = 9223372036854775808 := by decide
  rw [h1]
  generalize (2 : Nat) ^ n = m at *
  omega

/-- The reference's root: the next number's square is more. -/
theorem root_next (w : Wd) (h : 0 ≤ w.hi.val) : ∀ (N fu : Nat) (x : U64) (i : I64), i.val = (N : Int) - 1 → N ≤ 64 → N < fu → x.val % 2 ^ N = 0 → x.val + 2 ^ N ≤ 18446744073709551616 → w.z < (x.val + 2 ^ N) * (x.val + 2 ^ N) →
    w.z < ((F_spec_l02Root_L0 fu w x i).val + 1) * ((F_spec_l02Root_L0 fu w x i).val + 1) := by
  intro N
  induction N with
  | zero =>
    intro fu x i hi _ hf _ _ hw
    obtain ⟨fu, rfl⟩ : ∃ k, fu = k + 1 := ⟨fu - 1, by omega⟩
    unfold F_spec_l02Root_L0
    have : decide (i.val ≥ 0) = false := decide_eq_false (by omega)
    rw [this, cond_f]
    simpa using hw
  | succ N ih =>
    intro fu x i hi hN hf hx hle hw
    obtain ⟨fu, rfl⟩ : ∃ k, fu = k + 1 := ⟨fu - 1, by omega⟩
    have hiN : i.val = (N : Int) := by omega
    have e2 : (w64 (i.val - 1)).val = (N : Int) - 1 := by rw [w64_val]; omega
    have x0 := x.lo
    have hp : (2 : Int) ^ (N + 1) = 2 * 2 ^ N := by rw [Int.pow_succ]; omega
    have pp : (0 : Int) < 2 ^ N := Int.pow_pos (by decide)
    have hpn : ((2 : Int) ^ N) = ((2 ^ N : Nat) : Int) := by rw [Int.natCast_pow]; rfl
    have ey : (ior .u64 x.val (ishl .u64 1 (wu64 i.val).val).val).val = x.val + 2 ^ N := by
      rw [shl_one i N hiN (by omega)]
      exact or_add (N + 1) x.val (2 ^ N) x0 (by omega) hx (by omega) (by omega) hN
    have hxN : x.val % 2 ^ N = 0 := by
      have h1 : (2 : Int) ^ N ∣ 2 ^ (N + 1) := ⟨2, by rw [hp, Int.mul_comm]⟩
      exact Int.emod_eq_zero_of_dvd (Int.dvd_trans h1 (Int.dvd_of_emod_eq_zero hx))
    have hyN : (x.val + 2 ^ N) % 2 ^ N = 0 := by rw [Int.add_emod_right]; exact hxN
    unfold F_spec_l02Root_L0
    simp only [bindP_e]
    have hge : decide (i.val ≥ 0) = true := decide_eq_true (by omega)
    rw [hge, cond_t]
    generalize ior .u64 x.val (ishl .u64 1 (wu64 i.val).val).val = y at *
    have yes : w.z < (y.val + 2 ^ N) * (y.val + 2 ^ N) := by
      have : y.val + 2 ^ N = x.val + 2 ^ (N + 1) := by omega
      rw [this]; exact hw
    have goY := ih fu y (w64 (i.val - 1)) e2 (by omega) (by omega) (by rw [ey]; exact hyN) (by omega) yes
    have goX := fun (q : w.z < (x.val + 2 ^ N) * (x.val + 2 ^ N)) => ih fu x (w64 (i.val - 1)) e2 (by omega) (by omega) hxN (by omega) q
    have e := sp_Times y y
    have a1 := (F_spec_l02Times y y).2.lo
    have a2 := (F_spec_l02Times y y).2.hi
    have a3 := w.lo.lo
    have a4 := w.lo.hi
    have a5 := w.hi.hi
    have eh : (wu64 w.hi.val).val = w.hi.val := by rw [wu64_val]; omega
    have hz : w.z = w.hi.val * 18446744073709551616 + w.lo.val := rfl
    rw [eh]
    by_cases c1 : (F_spec_l02Times y y).1.val < w.hi.val
    · rw [decide_eq_true c1, cond_t]; exact goY
    · rw [decide_eq_false c1, cond_f]
      by_cases c2 : (F_spec_l02Times y y).1.val = w.hi.val
      · have b2 : ((F_spec_l02Times y y).1.val == w.hi.val) = true := by simp only [beq_iff_eq]; exact c2
        rw [b2, cond_t]
        by_cases c3 : (F_spec_l02Times y y).2.val ≤ w.lo.val
        · rw [decide_eq_true c3, cond_t]; exact goY
        · rw [decide_eq_false c3, cond_f]
          refine goX ?_
          rw [← ey]
          generalize y.val * y.val = q at *
          omega
      · have b2 : ((F_spec_l02Times y y).1.val == w.hi.val) = false := by simp only [beq_eq_false_iff_ne, ne_eq]; exact c2
        rw [b2, cond_f]
        refine goX ?_
        rw [← ey]
        generalize y.val * y.val = q at *
        omega

/-- The reference's root of a number that is not negative. -/
theorem Root_val (w : Wd) (h : 0 ≤ w.hi.val) : (F_spec_l02Root w).val * (F_spec_l02Root w).val ≤ w.z ∧ w.z < ((F_spec_l02Root w).val + 1) * ((F_spec_l02Root w).val + 1) := by
  have h1 := w.hi.hi
  have h2 := w.lo.hi
  have h3 := w.lo.lo
  have hz : w.z = w.hi.val * 18446744073709551616 + w.lo.val := rfl
  unfold F_spec_l02Root
  refine ⟨root_sq w h 65 (cu64 0) (c64 63) (by rw [cu64_val]; omega), root_next w h 64 65 (cu64 0) (c64 63) (by rw [c64_v]; rfl) (by decide) (by decide) (by rw [cu64_val]; rfl) (by rw [cu64_val]; decide) ?_⟩
  rw [cu64_val]
  have : ((0 : Int) + 2 ^ 64) * (0 + 2 ^ 64) = 340282366920938463463374607431768211456 := by decide
  rw [this]
  omega

theorem sq_lt {a b : Int} (ha : 0 ≤ a) (hb : 0 ≤ b) (h : a * a < b * b) : a < b := by
  by_cases q : a < b
  · exact q
  · have : b * b ≤ a * a := Int.mul_le_mul (by omega) (by omega) hb ha
    omega

theorem root_mono {v w : Wd} (hv : 0 ≤ v.hi.val) (hw : 0 ≤ w.hi.val) (h : v.z ≤ w.z) : (F_spec_l02Root v).val ≤ (F_spec_l02Root w).val := by
  obtain ⟨a1, _⟩ := Root_val v hv
  obtain ⟨_, b2⟩ := Root_val w hw
  have x0 := (F_spec_l02Root v).lo
  have y0 := (F_spec_l02Root w).lo
  have := sq_lt x0 (by omega : (0 : Int) ≤ (F_spec_l02Root w).val + 1) (by omega)
  omega

theorem ixor_nonneg (x y : Int) (hx : 0 ≤ x) (hx2 : x ≤ 9223372036854775807) (hy : 0 ≤ y) (hy2 : y ≤ 9223372036854775807) : 0 ≤ (ixor .i64 x y).val := by
  obtain ⟨a, rfl⟩ := Int.eq_ofNat_of_zero_le hx
  obtain ⟨b, rfl⟩ := Int.eq_ofNat_of_zero_le hy
  show 0 ≤ IntKind.i64.wrap ((BitVec.ofInt 64 (a : Int) ^^^ BitVec.ofInt 64 (b : Int)).toNat : Int)
  have e : (BitVec.ofInt 64 (a : Int) ^^^ BitVec.ofInt 64 (b : Int)).toNat = a ^^^ b := by
    rw [BitVec.toNat_xor, BitVec.toNat_ofInt, BitVec.toNat_ofInt]
    have e1 : ((a : Int) % (2 ^ 64 : Nat)).toNat = a := by omega
    have e2 : ((b : Int) % (2 ^ 64 : Nat)).toNat = b := by omega
    rw [e1, e2]
  have hlt : a ^^^ b < 2 ^ 63 := Nat.xor_lt_two_pow (by omega) (by omega)
  rw [e, IntKind.wrap_i64]
  omega

theorem iand_nonneg (x y : Int) (hx : 0 ≤ x) (hx2 : x ≤ 9223372036854775807) : 0 ≤ (iand .i64 x y).val := by
  obtain ⟨a, rfl⟩ := Int.eq_ofNat_of_zero_le hx
  show 0 ≤ IntKind.i64.wrap ((BitVec.ofInt 64 (a : Int) &&& BitVec.ofInt 64 y).toNat : Int)
  have e : (BitVec.ofInt 64 (a : Int) &&& BitVec.ofInt 64 y).toNat ≤ a := by
    rw [BitVec.toNat_and, BitVec.toNat_ofInt]
    have e1 : ((a : Int) % (2 ^ 64 : Nat)).toNat = a := by omega
    rw [e1]
    exact Nat.and_le_left
  rw [IntKind.wrap_i64]
  omega

theorem cos_bad {x : Iv} (h : F_spec_l04Ok x = false) : F_spec_CosI x = F_spec_l06Ring := by
  unfold F_spec_CosI F_spec_l06Over F_spec_l06Fits F_spec_ValidInterval
  simp only [bindP_e, h, cond_f, Bool.not_false, cond_t]

theorem whole_bad : F_spec_l04Ok F_spec_l04Whole = false := by decide

end Go.Proofs.YtebaobmmnkebaaaGreat.Abs
