/- Plain laws of the functions on numbers: what the program computes is what the reference computes. -/
import Derived.Test.YtgofhiehdpggkaaGreatQo
import Derived.Test.YtgofhiehdpggkaaGreatF5
set_option linter.unusedVariables false
set_option linter.unusedSimpArgs false
namespace Go.Proofs.YtgofhiehdpggkaaGreat.Abs
open Go

theorem shl_one (i : I64) (n : Nat) (h : i.val = n) (hn : n ≤ 63) : (ishl .u64 1 (wu64 i.val).val).val = 2 ^ n := by
  have e : (wu64 i.val).val = n := by rw [wu64_val, h]; omega
  rw [e]
  show IntKind.u64.wrap (1 * 2 ^ (min ((n : Int)).toNat 64)) = _
  rw [Int.toNat_natCast, Nat.min_eq_left (by omega), IntKind.wrap_u64, Int.one_mul]
  have h1 : (2 : Int) ^ n = ((2 ^ n : Nat) : Int) := by rw [Int.natCast_pow]; rfl
  have h2 : 2 ^ n ≤ 2 ^ 63 := Nat.pow_le_pow_right (by omega) hn
  have h3 : (2 : Nat) ^ 63 = 9223372036854775808 := by decide
  rw [h1]
  generalize (2 : Nat) ^ n = m at *
  omega

/-- The reference's root: the next number's square is more. -/
theorem root_next (w : Wd) (h : 0 ≤ w.hi.val) : ∀ (N fu : Nat) (x : U64) (i : I64), i.val = (N : Int) - 1 → N ≤ 64 → N < fu → x.val % 2 ^ N = 0 → x.val + 2 ^ N ≤ 18446744073709551616 → w.z < (x.val + 2 ^ N) * (x.val + 2 ^ N) →
    w.z < ((F_spec_l02Root_L0 fu w x i).val + 1) * ((F_spec_l02Root_L0 fu w x i).val + 1) := by
  intro N
  induction N with
  | zero =>
    intro fu x i hi _ hf _ _ hw
    obtain ⟨fu, rfl⟩ : ∃ k, fu = k + 1 := ⟨fu - 1, by omega⟩
    unfold F_spec_l02Root_L0
    have : decide (i.val ≥ 0) = false := decide_eq_false (by omega)
    rw [this, cond_f]
    simpa using hw
  | succ N ih =>
    intro fu x i hi hN hf hx hle hw
    obtain ⟨fu, rfl⟩ : ∃ k, fu = k + 1 := ⟨fu - 1, by omega⟩
    have hiN : i.val = (N : Int) := by omega
    have e2 : (w64 (i.val - 1)).val = (N : Int) - 1 := by rw [w64_val]; omega
    have x0 := x.lo
    have hp : (2 : Int) ^ (N + 1) = 2 * 2 ^ N := by rw [Int.pow_succ]; omega
    have pp : (0 : Int) < 2 ^ N := Int.pow_pos (by decide)
    have hpn : ((2 : Int) ^ N) = ((2 ^ N : Nat) : Int) := by rw [Int.natCast_pow]; rfl
    have ey : (ior .u64 x.val (ishl .u64 1 (wu64 i.val).val).val).val = x.val + 2 ^ N := by
      rw [shl_one i N hiN (by omega)]
      exact or_add (N + 1) x.val (2 ^ N) x0 (by omega) hx (by omega) (by omega) hN
    have hxN : x.val % 2 ^ N = 0 := by
      have h1 : (2 : Int) ^ N ∣ 2 ^ (N + 1) := ⟨2, by rw [hp, Int.mul_comm]⟩
      exact Int.emod_eq_zero_of_dvd (Int.dvd_trans h1 (Int.dvd_of_emod_eq_zero hx))
    have hyN : (x.val + 2 ^ N) % 2 ^ N = 0 := by rw [Int.add_emod_right]; exact hxN
    unfold F_spec_l02Root_L0
    simp only [bindP_e]
    have hge : decide (i.val ≥ 0) = true := decide_eq_true (by omega)
    rw [hge, cond_t]
    generalize ior .u64 x.val (ishl .u64 1 (wu64 i.val).val).val = y at *
    have yes : w.z < (y.val + 2 ^ N) * (y.val + 2 ^ N) := by
      have : y.val + 2 ^ N = x.val + 2 ^ (N + 1) := by omega
      rw [this]; exact hw
    have goY := ih fu y (w64 (i.val - 1)) e2 (by omega) (by omega) (by rw [ey]; exact hyN) (by omega) yes
    have goX := fun (q : w.z < (x.val + 2 ^ N) * (x.val + 2 ^ N)) => ih fu x (w64 (i.val - 1)) e2 (by omega) (by omega) hxN (by omega) q
    have e := sp_Times y y
    have a1 := (F_spec_l02Times y y).2.lo
    have a2 := (F_spec_l02Times y y).2.hi
    have a3 := w.lo.lo
    have a4 := w.lo.hi
    have a5 := w.hi.hi
    have eh : (wu64 w.hi.val).val = w.hi.val := by rw [wu64_val]; omega
    have hz : w.z = w.hi.val * 18446744073709551616 + w.lo.val := rfl
    rw [eh]
    by_cases c1 : (F_spec_l02Times y y).1.val < w.hi.val
    · rw [decide_eq_true c1, cond_t]; exact goY
    · rw [decide_eq_false c1, cond_f]
      by_cases c2 : (F_spec_l02Times y y).1.val = w.hi.val
      · have b2 : ((F_spec_l02Times y y).1.val == w.hi.val) = true := by simp only [beq_iff_eq]; exact c2
        rw [b2, cond_t]
        by_cases c3 : (F_spec_l02Times y y).2.val ≤ w.lo.val
        · rw [decide_eq_true c3, cond_t]; exact goY
        · rw [decide_eq_false c3, cond_f]
          refine goX ?_
          rw [← ey]
          generalize y.val * y.val = q at *
          omega
      · have b2 : ((F_spec_l02Times y y).1.val == w.hi.val) = false := by simp only [beq_eq_false_iff_ne, ne_eq]; exact c2
        rw [b2, cond_f]
        refine goX ?_
        rw [← ey]
        generalize y.val * y.val = q at *
        omega

/-- The reference's root of a number that is not negative. -/
theorem Root_val (w : Wd) (h : 0 ≤ w.hi.val) : (F_spec_l02Root w).val * (F_spec_l02Root w).val ≤ w.z ∧ w.z < ((F_spec_l02Root w).val + 1) * ((F_spec_l02Root w).val + 1) := by
  have h1 := w.hi.hi
  have h2 := w.lo.hi
  have h3 := w.lo.lo
  have hz : w.z = w.hi.val * 18446744073709551616 + w.lo.val := rfl
  unfold F_spec_l02Root
  refine ⟨root_sq w h 65 (cu64 0) (c64 63) (by rw [cu64_val]; omega), root_next w h 64 65 (cu64 0) (c64 63) (by rw [c64_v]; rfl) (by decide) (by decide) (by rw [cu64_val]; rfl) (by rw [cu64_val]; decide) ?_⟩
  rw [cu64_val]
  have : ((0 : Int) + 2 ^ 64) * (0 + 2 ^ 64) = 340282366920938463463374607431768211456 := by decide
  rw [this]
  omega

theorem sq_lt {a b : Int} (ha : 0 ≤ a) (hb : 0 ≤ b) (h : a * a < b * b) : a < b := by
  by_cases q : a < b
  · exact q
  · have : b * b ≤ a * a := Int.mul_le_mul (by omega) (by omega) hb ha
    omega

theorem root_mono {v w : Wd} (hv : 0 ≤ v.hi.val) (hw : 0 ≤ w.hi.val) (h : v.z ≤ w.z) : (F_spec_l02Root v).val ≤ (F_spec_l02Root w).val := by
  obtain ⟨a1, _⟩ := Root_val v hv
  obtain ⟨_, b2⟩ := Root_val w hw
  have x0 := (F_spec_l02Root v).lo
  have y0 := (F_spec_l02Root w).lo
  have := sq_lt x0 (by omega : (0 : Int) ≤ (F_spec_l02Root w).val + 1) (by omega)
  omega

theorem ixor_nonneg (x y : Int) (hx : 0 ≤ x) (hx2 : x ≤ 9223372036854775807) (hy : 0 ≤ y) (hy2 : y ≤ 9223372036854775807) : 0 ≤ (ixor .i64 x y).val := by
  obtain ⟨a, rfl⟩ := Int.eq_ofNat_of_zero_le hx
  obtain ⟨b, rfl⟩ := Int.eq_ofNat_of_zero_le hy
  show 0 ≤ IntKind.i64.wrap ((BitVec.ofInt 64 (a : Int) ^^^ BitVec.ofInt 64 (b : Int)).toNat : Int)
  have e : (BitVec.ofInt 64 (a : Int) ^^^ BitVec.ofInt 64 (b : Int)).toNat = a ^^^ b := by
    rw [BitVec.toNat_xor, BitVec.toNat_ofInt, BitVec.toNat_ofInt]
    have e1 : ((a : Int) % (2 ^ 64 : Nat)).toNat = a := by omega
    have e2 : ((b : Int) % (2 ^ 64 : Nat)).toNat = b := by omega
    rw [e1, e2]
  have hlt : a ^^^ b < 2 ^ 63 := Nat.xor_lt_two_pow (by omega) (by omega)
  rw [e, IntKind.wrap_i64]
  omega

theorem iand_nonneg (x y : Int) (hx : 0 ≤ x) (hx2 : x ≤ 9223372036854775807) : 0 ≤ (iand .i64 x y).val := by
  obtain ⟨a, rfl⟩ := Int.eq_ofNat_of_zero_le hx
  show 0 ≤ IntKind.i64.wrap ((BitVec.ofInt 64 (a : Int) &&& BitVec.ofInt 64 y).toNat : Int)
  have e : (BitVec.ofInt 64 (a : Int) &&& BitVec.ofInt 64 y).toNat ≤ a := by
    rw [BitVec.toNat_and, BitVec.toNat_ofInt]
    have e1 : ((a : Int) % (2 ^ 64 : Nat)).toNat = a := by omega
    rw [e1]
    exact Nat.and_le_left
  rw [IntKind.wrap_i64]
  omega

theorem eq_WideAdd (a b : Wd) (ha : 0 ≤ a.hi.val) (hb : 0 ≤ b.hi.val) (h : a.z + b.z < 170141183460469231731687303715884105728) : F_impl_WideAdd a b = (F_spec_l02Plus a b, true) ∧ (F_spec_l02Plus a b).z = a.z + b.z ∧ 0 ≤ (F_spec_l02Plus a b).hi.val := by
  have a1 := a.lo.lo
  have a2 := a.lo.hi
  have b1 := b.lo.lo
  have b2 := b.lo.hi
  have a3 := a.hi.hi
  have b3 := b.hi.hi
  have za : a.z = a.hi.val * 18446744073709551616 + a.lo.val := rfl
  have zb : b.z = b.hi.val * 18446744073709551616 + b.lo.val := rfl
  have ca : (adc_hi a.lo b.lo (cu64 0)).val = (a.lo.val + b.lo.val) / 18446744073709551616 := by rw [adc_hi_val, cu64_val, Int.add_zero]
  have cl : (adc_lo a.lo b.lo (cu64 0)).val = (a.lo.val + b.lo.val) % 18446744073709551616 := by rw [adc_lo_val, cu64_val, Int.add_zero]
  have ch : (w64 (adc_lo (wu64 a.hi.val) (wu64 b.hi.val) (adc_hi a.lo b.lo (cu64 0))).val).val = a.hi.val + b.hi.val + (a.lo.val + b.lo.val) / 18446744073709551616 := by
    rw [w64_val, adc_lo_val, ca, wu64_val, wu64_val]
    omega
  have pz : (F_spec_l02Plus a b).z = a.z + b.z := by
    obtain ⟨k, hk⟩ := Plus_z a b
    generalize F_spec_l02Plus a b = Y at *
    have y1 := Y.lo.lo
    have y2 := Y.lo.hi
    have y3 := Y.hi.lo
    have y4 := Y.hi.hi
    have : Y.z = Y.hi.val * 18446744073709551616 + Y.lo.val := rfl
    omega
  refine ⟨?_, pz, ?_⟩
  · unfold F_impl_WideAdd
    have x1 := ixor_nonneg a.hi.val (w64 (adc_lo (wu64 a.hi.val) (wu64 b.hi.val) (adc_hi a.lo b.lo (cu64 0))).val).val ha a3 (by omega) (by omega)
    have x2 := I64.hi (ixor .i64 a.hi.val (w64 (adc_lo (wu64 a.hi.val) (wu64 b.hi.val) (adc_hi a.lo b.lo (cu64 0))).val).val)
    have x3 := iand_nonneg _ (ixor .i64 b.hi.val (w64 (adc_lo (wu64 a.hi.val) (wu64 b.hi.val) (adc_hi a.lo b.lo (cu64 0))).val).val).val x1 x2
    rw [decide_eq_false (by omega), cond_f]
    have : (⟨w64 (adc_lo (wu64 a.hi.val) (wu64 b.hi.val) (adc_hi a.lo b.lo (cu64 0))).val, adc_lo a.lo b.lo (cu64 0)⟩ : Wd) = F_spec_l02Plus a b := by
      refine Wd.z_inj ?_
      rw [pz]
      show (w64 (adc_lo (wu64 a.hi.val) (wu64 b.hi.val) (adc_hi a.lo b.lo (cu64 0))).val).val * 18446744073709551616 + (adc_lo a.lo b.lo (cu64 0)).val = _
      rw [ch, cl, za, zb]
      omega
    rw [this]
  · generalize F_spec_l02Plus a b = Y at *
    have y1 := Y.lo.lo
    have y2 := Y.lo.hi
    have : Y.z = Y.hi.val * 18446744073709551616 + Y.lo.val := rfl
    omega

theorem Sum_val (a b c : I64) (ha : 0 ≤ a.val ∧ a.val < 1152921504606846976) (hb : 0 ≤ b.val ∧ b.val < 1152921504606846976) (hc : 0 ≤ c.val ∧ c.val < 1152921504606846976) :
    (F_spec_l10Sum a b c).z = a.val * a.val + b.val * b.val + c.val * c.val ∧ 0 ≤ (F_spec_l10Sum a b c).hi.val ∧ F_impl_WideAdd (F_spec_l02Mul a a) (F_spec_l02Mul b b) = (F_spec_l02Plus (F_spec_l02Mul a a) (F_spec_l02Mul b b), true) ∧
      F_impl_WideAdd (F_spec_l02Plus (F_spec_l02Mul a a) (F_spec_l02Mul b b)) (F_spec_l02Mul c c) = (F_spec_l10Sum a b c, true) ∧ (F_spec_l10Sum a b c).z < 3987683987354747618711421180841033728 := by
  have key : ∀ x : I64, 0 ≤ x.val ∧ x.val < 1152921504606846976 → 0 ≤ x.val * x.val ∧ x.val * x.val ≤ 1152921504606846975 * 1152921504606846975 := fun x hx => ⟨Int.mul_nonneg hx.1 hx.1, Int.mul_le_mul (by omega) (by omega) hx.1 (by decide)⟩
  have k1 := key a ha
  have k2 := key b hb
  have k3 := key c hc
  have m1 := sp_Mul a a
  have m2 := sp_Mul b b
  have m3 := sp_Mul c c
  obtain ⟨p1, p2, p3⟩ := eq_WideAdd (F_spec_l02Mul a a) (F_spec_l02Mul b b) (mul_hi a a ha.1 ha.1) (mul_hi b b hb.1 hb.1) (by omega)
  obtain ⟨q1, q2, q3⟩ := eq_WideAdd (F_spec_l02Plus (F_spec_l02Mul a a) (F_spec_l02Mul b b)) (F_spec_l02Mul c c) p3 (mul_hi c c hc.1 hc.1) (by omega)
  have es : F_spec_l10Sum a b c = F_spec_l02Plus (F_spec_l02Plus (F_spec_l02Mul a a) (F_spec_l02Mul b b)) (F_spec_l02Mul c c) := by
    unfold F_spec_l10Sum
    simp only [bindP_e]
  rw [es]
  exact ⟨by omega, q3, p1, q1, by omega⟩

theorem eq_NormV (v : Vc) : F_impl_NormV v = F_spec_NormV v := by
  unfold F_impl_NormV F_spec_NormV F_spec_IsWhole F_spec_Whole F_spec_l10Ends
  simp only [bindP_e, eq_areBounded, eq_Whole, eq_IsWhole, eq_AbsI2, eq_bounded]
  cases hx : F_spec_l04Ok v.x with
  | false => simp only [Bool.false_and, Bool.not_false, cond_t]
  | true =>
    cases hy : F_spec_l04Ok v.y with
    | false => simp only [Bool.and_false, Bool.not_false, Bool.not_true, cond_t, cond_f]
    | true =>
      cases hz : F_spec_l04Ok v.z with
      | false => simp only [Bool.and_self, Bool.not_false, Bool.not_true, cond_t, cond_f]
      | true =>
        simp only [Bool.and_self, Bool.not_true, cond_f, AbsI_val hx, AbsI_val hy, AbsI_val hz]
        obtain ⟨x1, x2, x3⟩ := Ends_val hx
        obtain ⟨y1, y2, y3⟩ := Ends_val hy
        obtain ⟨z1, z2, z3⟩ := Ends_val hz
        generalize F_spec_l04Ends v.x = x at *
        generalize F_spec_l04Ends v.y = y at *
        generalize F_spec_l04Ends v.z = z at *
        obtain ⟨a1, a2, a3, a4, a5⟩ := Sum_val x.1 y.1 z.1 (by omega) (by omega) (by omega)
        obtain ⟨b1, b2, b3, b4, b5⟩ := Sum_val x.2 y.2 z.2 (by omega) (by omega) (by omega)
        have hle : (F_spec_l10Sum x.1 y.1 z.1).z ≤ (F_spec_l10Sum x.2 y.2 z.2).z := by
          have s1 : x.1.val * x.1.val ≤ x.2.val * x.2.val := Int.mul_le_mul x2 x2 x1 (by omega)
          have s2 : y.1.val * y.1.val ≤ y.2.val * y.2.val := Int.mul_le_mul y2 y2 y1 (by omega)
          have s3 : z.1.val * z.1.val ≤ z.2.val * z.2.val := Int.mul_le_mul z2 z2 z1 (by omega)
          omega
        have mono := root_mono a2 b2 hle
        unfold F_impl_rootOfSquares
        simp only [bindP_e, eq_WideMul, a3, a4, b3, b4, eq_WideSqrt _ a2, eq_WideSqrt _ b2]
        have r0 := (F_spec_l02Root (F_spec_l10Sum x.1 y.1 z.1)).lo
        have s0 := (F_spec_l02Root (F_spec_l10Sum x.2 y.2 z.2)).lo
        have rb := (Root_val _ b2).1
        have ru : (F_spec_l02Root (F_spec_l10Sum x.2 y.2 z.2)).val < 2305843009213693952 := by
          refine sq_lt s0 (by decide) ?_
          omega
        generalize F_spec_l02Root (F_spec_l10Sum x.1 y.1 z.1) = r at *
        generalize F_spec_l02Root (F_spec_l10Sum x.2 y.2 z.2) = s at *
        generalize F_spec_l10Sum x.2 y.2 z.2 = S2 at *
        have er : (w64 r.val).val = r.val := by rw [w64_val]; omega
        have e2 : (w64 s.val).val = s.val := by rw [w64_val]; omega
        have e3 : (w64 ((w64 s.val).val + 1)).val = s.val + 1 := by rw [w64_val]; omega
        have c1 : ∀ (b : Bool) (x y z : I64), (bif b then (x, y) else (x, z)).1 = x := fun b x y z => by cases b <;> rfl
        rw [c1]
        generalize ((F_spec_l02Mul (w64 s.val) (w64 s.val)).hi.val == S2.hi.val && (F_spec_l02Mul (w64 s.val) (w64 s.val)).lo.val == S2.lo.val) = bb
        cases bb with
        | true =>
          simp only [Bool.not_true, cond_f]
          by_cases q : (w64 s.val).val ≥ 1152921504606846976
          · rw [decide_eq_true q, cond_t, Make_bad (by omega)]
          · rw [decide_eq_false q, cond_f, Make_ok (by omega)]
        | false =>
          simp only [Bool.not_false, cond_t]
          by_cases q : (w64 ((w64 s.val).val + 1)).val ≥ 1152921504606846976
          · rw [decide_eq_true q, cond_t, Make_bad (by omega)]
          · rw [decide_eq_false q, cond_f, Make_ok (by omega)]

theorem eq_fromAxis (v : Vc) : F_impl_fromAxis v = F_spec_l15Flat v := by
  unfold F_impl_fromAxis F_spec_l15Flat
  simp only [bindP_e, eq_NormV]

theorem eq_isAzimuthalOne (p : Pj) : F_impl_isAzimuthalOne p = F_spec_l18Ok__pPj p := by
  unfold F_impl_isAzimuthalOne F_spec_l18Ok__pPj F_impl_isAzimuthal F_spec_l18Kind
  simp only [bindP_e, eq_ValidProjection, eq_in]
  cases F_spec_ValidProjection p <;> cases F_spec_l00In p.kind (c64 5) (c64 9) <;> rfl

theorem ok18_proj {p : Pj} (h : F_spec_l18Ok__pPj p = true) : F_spec_ValidProjection p = true := by
  unfold F_spec_l18Ok__pPj at h
  simp only [bindP_e] at h
  cases hk : F_spec_l18Kind p.kind with
  | false => rw [hk, cond_f] at h; cases h
  | true => rw [hk, cond_t] at h; exact h

theorem centre_ok {p : Pj} (h : F_spec_ValidProjection p = true) : F_spec_l11Ok (F_impl_Projection_centre p) = true := by
  unfold F_spec_ValidProjection F_spec_l17Ok at h
  simp only [bindP_e] at h
  show F_spec_l11Ok ⟨p.lat0, p.lon0⟩ = true
  cases hk : F_spec_l11Ok ⟨p.lat0, p.lon0⟩ with
  | true => rfl
  | false => rw [hk, Bool.not_false, cond_t] at h; cases h

theorem cos_bad {x : Iv} (h : F_spec_l04Ok x = false) : F_spec_CosI x = F_spec_l06Ring := by
  unfold F_spec_CosI F_spec_l06Over F_spec_l06Fits F_spec_ValidInterval
  simp only [bindP_e, h, cond_f, Bool.not_false, cond_t]

theorem whole_bad : F_spec_l04Ok F_spec_l04Whole = false := by decide

end Go.Proofs.YtgofhiehdpggkaaGreat.Abs
