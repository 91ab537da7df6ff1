/- Plain laws of the functions on numbers: what the program computes is what the reference computes. -/
import Derived.Test.YtgofhiehdpggkaaGreatQj
import Derived.Test.YtgofhiehdpggkaaGreatF5
set_option linter.unusedVariables false
set_option linter.unusedSimpArgs false
namespace Go.Proofs.YtgofhiehdpggkaaGreat.Abs
open Go

theorem c64_v (n : Int) (h : IntKind.i64.min ≤ n ∧ n ≤ IntKind.i64.max) : (c64 n h).val = n := by have := c64_val n h; omega

theorem Make_bad {a b : I64} (h : ¬ (-1152921504606846976 < a.val ∧ a.val ≤ b.val ∧ b.val < 1152921504606846976)) : F_spec_l04Make a b = F_spec_l04Whole := by
  unfold F_spec_l04Make
  have : F_spec_l04Ok ⟨a, b⟩ = false := by
    cases hq : F_spec_l04Ok ⟨a, b⟩ with
    | false => rfl
    | true => exact absurd (Ok4 hq) h
  simp only [bindP_eq, this, Bool.not_false, cond_true]

theorem eq_Integer (n : I64) : F_impl_Integer n = F_spec_Integer n := by
  have h1 := n.lo
  have h2 := n.hi
  unfold F_impl_Integer F_spec_Integer
  simp only [bindP_eq, eq_bounded, eq_Whole, sp_in, sp_within, c64_v]
  by_cases h : n.val = 268435456 ∨ n.val = -268435456
  · have hm : F_spec_l04Make (w64 (n.val * 4294967296)) (w64 (n.val * 4294967296)) = F_spec_l04Whole := Make_bad (by simp only [w64_val]; omega)
    rw [hm]
    generalize (decide (-268435456 ≤ n.val) && decide (n.val ≤ 268435456)) = p
    generalize (decide (-268435455 ≤ n.val) && decide (n.val ≤ 268435455)) = q
    cases p <;> cases q <;> rfl
  · have e : (decide (-268435456 ≤ n.val) && decide (n.val ≤ 268435456)) = (decide (-268435455 ≤ n.val) && decide (n.val ≤ 268435455)) := by
      rw [Bool.eq_iff_iff]
      simp only [Bool.and_eq_true, decide_eq_true_eq]
      omega
    rw [e]

theorem eq_QuarterOf (n : I64) : F_impl_QuarterOf n = F_spec_QuarterOf n := by
  unfold F_impl_QuarterOf F_spec_QuarterOf F_impl_isAngle F_spec_l06Angle F_spec_l06Floor
  simp only [bindP_eq, eq_in]
  cases h : F_spec_l00In n (c64 (-1099511627776)) (c64 1099511627776) with
  | false => rfl
  | true =>
    rw [sp_in] at h
    simp only [Bool.and_eq_true, decide_eq_true_eq, c64_v] at h
    simp only [Bool.not_true, cond_false]
    have e : (w64 (n.val + 3373259426)).val = n.val + 3373259426 := by rw [w64_val]; omega
    generalize w64 (n.val + 3373259426) = a at *
    have q1 := Int.mul_tdiv_add_tmod a.val 6746518852
    have q2 : -6746518852 < Int.tmod a.val 6746518852 ∧ Int.tmod a.val 6746518852 < 6746518852 := by
      by_cases hs : 0 ≤ a.val
      · rw [Int.tmod_eq_emod_of_nonneg hs]; omega
      · have : Int.tmod a.val 6746518852 = -((-a.val) % 6746518852) := by
          rw [← Int.tmod_eq_emod_of_nonneg (by omega), Int.neg_tmod, Int.neg_neg]
        rw [this]; omega
    have e4 : (imod a (c64 6746518852).val).val = Int.tmod a.val 6746518852 := rfl
    have e5 : Int.tdiv a.val (c64 6746518852).val = Int.tdiv a.val 6746518852 := rfl
    rw [e4, e5]
    generalize Int.tdiv a.val 6746518852 = q at *
    generalize Int.tmod a.val 6746518852 = r at *
    have e2 : (w64 ((w64 q).val * 6746518852)).val = q * 6746518852 := by simp only [w64_val]; omega
    have e3 : decide ((w64 ((w64 q).val * 6746518852)).val > a.val) = decide (r < 0) := by
      rw [Bool.eq_iff_iff]
      simp only [decide_eq_true_eq, e2]
      omega
    rw [e3]

theorem Turn_val (a : I64) (h0 : 0 < a.val) (h1 : a.val ≤ 4096) : ∃ r : I64, F_spec_MulFloor a (c64 7244019458077122842) (c64 30) = (r, true) ∧ r.val = a.val * 7244019458077122842 / 1073741824 := by
  have hz : (F_spec_l02Shift (F_spec_l02Mul a (c64 7244019458077122842)) (c64 30)).z = a.val * 7244019458077122842 / 1073741824 := by rw [Shift_z30, sp_Mul, c64_val]
  obtain ⟨n, e1, e2⟩ := Int_in (F_spec_l02Shift (F_spec_l02Mul a (c64 7244019458077122842)) (c64 30)) (by rw [hz]; omega) (by rw [hz]; omega)
  refine ⟨n, ?_, by rw [e1, hz]⟩
  unfold F_spec_MulFloor
  have e3 : F_spec_l00In (c64 30) (c64 0) (c64 126) = true := by decide
  simp only [bindP_eq, e2, e3, Bool.not_true, cond_false]

theorem eq_TurnI (a : I64) : F_impl_TurnI a = F_spec_TurnI a := by
  unfold F_impl_TurnI F_spec_TurnI F_spec_l05Turn F_impl_TurnI_r F_spec_l05Turn_r F_spec_Whole
  simp only [bindP_eq, eq_in, eq_Whole, eq_MulFloor, eq_NegI]
  cases h : F_spec_l00In a (c64 (-4096)) (c64 4096) with
  | false => rfl
  | true =>
    have h' := h
    rw [sp_in] at h'
    simp only [Bool.and_eq_true, decide_eq_true_eq, c64_v] at h'
    simp only [Bool.not_true, cond_false]
    by_cases hn : a.val < 0
    · have en : (w64 (0 - a.val)).val = -a.val := by rw [w64_val]; omega
      have e0 : (a.val == 0) = false := by simp; omega
      simp only [hn, decide_true, cond_true, e0, cond_false]
      unfold F_impl_TurnI_r F_spec_l05Turn_r
      have h2 : F_spec_l00In (w64 (0 - a.val)) (c64 (-4096)) (c64 4096) = true := by
        rw [sp_in]
        simp only [Bool.and_eq_true, decide_eq_true_eq, c64_v, en]
        omega
      have e1 : decide ((w64 (0 - a.val)).val < 0) = false := by rw [en]; exact decide_eq_false (by omega)
      have e2 : ((w64 (0 - a.val)).val == 0) = false := by rw [en]; simp; omega
      obtain ⟨r, r1, r2⟩ := Turn_val (w64 (0 - a.val)) (by omega) (by omega)
      rw [en] at r2
      have hr : 0 ≤ r.val ∧ r.val ≤ 30000000000000 := by omega
      clear r2
      simp only [bindP_eq, eq_in, h2, e1, e2, Bool.not_true, cond_false, eq_MulFloor, r1]
      unfold F_spec_NegI
      have ho : F_spec_l04Ok ⟨r, w64 (r.val + 1)⟩ = true := Ok4_of (by simp only [w64_val]; omega)
      simp only [bindP_eq, ho, Bool.not_true, cond_false]
      rw [Make_ok (by simp only [w64_val]; omega)]
    · simp only [hn, decide_false, cond_false]

theorem eq_InsideI (a b : Iv) : F_impl_InsideI a b = F_spec_InsideI a b := by
  unfold F_impl_InsideI F_spec_InsideI F_impl_IsWhole
  simp only [bindP_eq, eq_Valid]
  cases F_spec_l04Ok a <;> cases F_spec_l04Ok b <;> rfl

theorem eq_MeetI (a b : Iv) : F_impl_MeetI a b = F_spec_MeetI a b := by
  unfold F_impl_MeetI F_spec_MeetI F_impl_IsWhole
  simp only [bindP_eq, eq_Valid, eq_Whole, eq_mn, eq_mx]

theorem eq_OverlapI (a b : Iv) : F_impl_OverlapI a b = F_spec_OverlapI a b := by
  unfold F_impl_OverlapI F_spec_OverlapI
  rw [eq_MeetI]

theorem eq_HullI (a b : Iv) : F_impl_HullI a b = F_spec_HullI a b := by
  unfold F_impl_HullI F_spec_HullI
  simp only [bindP_eq, eq_areBounded, eq_Whole, eq_mn, eq_mx]
  cases ha : F_spec_l04Ok a with
  | false => rfl
  | true =>
    cases hb : F_spec_l04Ok b with
    | false => rfl
    | true =>
      obtain ⟨a1, a2, a3⟩ := Ok4 ha
      obtain ⟨b1, b2, b3⟩ := Ok4 hb
      have m := mn_spec a.lo b.lo
      have n := mx_spec a.hi b.hi
      simp only [Bool.and_self, Bool.not_true, cond_false]
      rw [Make_ok (by omega)]

theorem bindP_e {α β : Type} (x : α) (φ : α → β) : bindP x φ = φ x := Eq.trans rfl rfl

theorem eq_IsWhole (a : Iv) : F_impl_IsWhole a = !F_spec_l04Ok a := Eq.trans rfl rfl

theorem cond_t {α : Type} (x y : α) : cond true x y = x := Eq.trans rfl rfl

theorem cond_f {α : Type} (x y : α) : cond false x y = y := Eq.trans rfl rfl

theorem eq_AbsI {a : Iv} (h : F_spec_l04Ok a = true) : F_impl_AbsI a = ⟨(F_spec_l04Ends a).1, (F_spec_l04Ends a).2⟩ := by
  have e1 : F_impl_AbsI a = bif F_spec_l00In (c64 0) a.lo a.hi then ⟨c64 0, mx (mx a.lo (w64 (0 - a.lo.val))) (mx a.hi (w64 (0 - a.hi.val)))⟩ else ⟨mn (mx a.lo (w64 (0 - a.lo.val))) (mx a.hi (w64 (0 - a.hi.val))), mx (mx a.lo (w64 (0 - a.lo.val))) (mx a.hi (w64 (0 - a.hi.val)))⟩ := by
    unfold F_impl_AbsI F_impl_HasI F_impl_abs
    simp only [bindP_e, eq_IsWhole, h, Bool.not_true, cond_f, eq_in]
  have e2 : F_spec_l04Ends a = bif F_spec_l00In (c64 0) a.lo a.hi then (c64 0, mx (mx a.lo (w64 (0 - a.lo.val))) (mx a.hi (w64 (0 - a.hi.val)))) else (mn (mx a.lo (w64 (0 - a.lo.val))) (mx a.hi (w64 (0 - a.hi.val))), mx (mx a.lo (w64 (0 - a.lo.val))) (mx a.hi (w64 (0 - a.hi.val)))) := by
    unfold F_spec_l04Ends F_spec_l04Has
    simp only [bindP_e, eq_mn, eq_mx]
  rw [e1, e2]
  generalize mn (mx a.lo (w64 (0 - a.lo.val))) (mx a.hi (w64 (0 - a.hi.val))) = p
  generalize mx (mx a.lo (w64 (0 - a.lo.val))) (mx a.hi (w64 (0 - a.hi.val))) = q
  cases F_spec_l00In (c64 0) a.lo a.hi
  · rw [cond_f, cond_f]
  · rw [cond_t, cond_t]

theorem eq_SqrI (a : Iv) : F_impl_SqrI a = F_spec_SqrI a := by
  unfold F_impl_SqrI F_spec_SqrI
  simp only [bindP_e, eq_IsWhole]
  cases ha : F_spec_l04Ok a with
  | false => simp only [Bool.not_false, cond_t]; exact eq_Whole
  | true =>
    simp only [Bool.not_true, cond_f, eq_AbsI ha, eq_MulDown, eq_MulUp]
    generalize F_spec_l04Ends a = e
    generalize F_spec_l03MulDown e.1 e.1 = p
    generalize F_spec_l03MulUp e.2 e.2 = q
    exact make_pair p q

theorem bindP_congr {α β : Type} {x y : α} {φ ψ : α → β} (h : x = y) (h2 : ∀ r, φ r = ψ r) : bindP x φ = bindP y ψ := by
  subst h
  exact h2 x

theorem eq_series2 (y : Iv) : F_impl_series y (c64 2) = F_spec_l06Series y (c64 0) := by
  unfold F_impl_series F_spec_l06Series
  repeat (refine bindP_congr (by first | exact eq_DivI _ _ | exact eq_MulI _ _ | exact eq_SubI _ _ | exact (eq_Integer _).trans (congrArg _ (IK.eq (by decide)))) fun r => ?_)
  rfl

theorem eq_series1 (y : Iv) : F_impl_series y (c64 1) = F_spec_l06Series y (c64 (-1)) := by
  unfold F_impl_series F_spec_l06Series
  repeat (refine bindP_congr (by first | exact eq_DivI _ _ | exact eq_MulI _ _ | exact eq_SubI _ _ | exact (eq_Integer _).trans (congrArg _ (IK.eq (by decide)))) fun r => ?_)
  rfl

theorem eq_SinSeries (x : Iv) : F_impl_SinSeries x = F_spec_SinSeries x := by
  unfold F_impl_SinSeries F_spec_SinSeries F_spec_Whole
  simp only [bindP_eq, eq_InsideI, eq_Whole, eq_SqrI, eq_series2, eq_MulI, eq_AddI]
  rfl

theorem eq_CosSeries (x : Iv) : F_impl_CosSeries x = F_spec_CosSeries x := by
  unfold F_impl_CosSeries F_spec_CosSeries F_spec_Whole
  simp only [bindP_eq, eq_InsideI, eq_Whole, eq_SqrI, eq_series1, eq_MulI, eq_AddI]
  rfl

theorem Integer_val (c : I64) (h0 : -268435455 ≤ c.val) (h1 : c.val ≤ 268435455) : ∃ z : Iv, F_spec_Integer c = z ∧ F_spec_l04Ok z = true ∧ z.lo.val = c.val * 4294967296 ∧ z.hi.val = c.val * 4294967296 := by
  have h2 : F_spec_l00In c (c64 (-268435455)) (c64 268435455) = true := by
    rw [sp_in]
    simp only [Bool.and_eq_true, decide_eq_true_eq, c64_v]
    omega
  have e : (w64 (c.val * 4294967296)).val = c.val * 4294967296 := by rw [w64_val]; omega
  have hb : -1152921504606846976 < (w64 (c.val * 4294967296)).val ∧ (w64 (c.val * 4294967296)).val ≤ (w64 (c.val * 4294967296)).val ∧ (w64 (c.val * 4294967296)).val < 1152921504606846976 := by omega
  refine ⟨⟨w64 (c.val * 4294967296), w64 (c.val * 4294967296)⟩, ?_, Ok4_of hb, e, e⟩
  unfold F_spec_Integer
  simp only [bindP_eq, h2, Bool.not_true, cond_false]
  rw [Make_ok hb]

/-- A factor of the series: 1 - y / c · s, for y and s from 0 to 1. -/
theorem factor_in (y s : Iv) (c : I64) (hc : 2 ≤ c.val) (hc2 : c.val ≤ 100000) (hy : F_spec_l04Ok y = true) (hy0 : 0 ≤ y.lo.val) (hy1 : y.hi.val ≤ 4294967296) (hs : F_spec_l04Ok s = true) (hs0 : 0 ≤ s.lo.val) (hs1 : s.hi.val ≤ 4294967296) :
    ∃ z : Iv, F_spec_SubI (F_spec_Integer (c64 1)) (F_spec_MulI (F_spec_DivI y (F_spec_Integer c)) s) = z ∧ F_spec_l04Ok z = true ∧ 0 ≤ z.lo.val ∧ z.hi.val ≤ 4294967296 := by
  obtain ⟨i1, e1, o1, l1, u1⟩ := Integer_val (c64 1) (by decide) (by decide)
  obtain ⟨ic, ec, oc, lc, uc⟩ := Integer_val c (by omega) (by omega)
  have yb := Ok4 hy
  have sb := Ok4 hs
  rw [e1, ec]
  obtain ⟨d, ed, od, d0, d1⟩ := DivI_in hy oc (by omega) (L := 0) (U := 2147483648) (by decide) (by decide) (by omega) (by omega) (by omega) (by omega)
  rw [ed]
  have db := Ok4 od
  have key : ∀ p q : Int, 0 ≤ p → p ≤ 2147483648 → 0 ≤ q → q ≤ 4294967296 → 0 * 4294967296 ≤ p * q ∧ p * q ≤ 2147483648 * 4294967296 := fun p q h1 h2 h3 h4 =>
    ⟨by rw [Int.zero_mul]; exact Int.mul_nonneg h1 h3, Int.mul_le_mul h2 h4 h3 (by decide)⟩
  obtain ⟨m, em, om, m0, m1, _⟩ := MulI_in od hs (L := 0) (U := 2147483648) (by decide) (by decide) (key _ _ (by omega) (by omega) (by omega) (by omega)) (key _ _ (by omega) (by omega) (by omega) (by omega)) (key _ _ (by omega) (by omega) (by omega) (by omega)) (key _ _ (by omega) (by omega) (by omega) (by omega))
  rw [em]
  have mb := Ok4 om
  rw [c64_val] at l1 u1
  have hb : -1152921504606846976 < (w64 (i1.lo.val - m.hi.val)).val ∧ (w64 (i1.lo.val - m.hi.val)).val ≤ (w64 (i1.hi.val - m.lo.val)).val ∧ (w64 (i1.hi.val - m.lo.val)).val < 1152921504606846976 := by simp only [w64_val]; omega
  refine ⟨⟨w64 (i1.lo.val - m.hi.val), w64 (i1.hi.val - m.lo.val)⟩, ?_, Ok4_of hb, by show 0 ≤ (w64 _).val; rw [w64_val]; omega, by show (w64 _).val ≤ _; rw [w64_val]; omega⟩
  unfold F_spec_SubI
  simp only [bindP_eq, o1, om, Bool.not_true, cond_false]
  rw [Make_ok hb]

/-- From 0 to 1. -/
def Unit01 (z : Iv) : Prop := F_spec_l04Ok z = true ∧ 0 ≤ z.lo.val ∧ z.hi.val ≤ 4294967296

theorem factor_unit {y s : Iv} (hy : Unit01 y) (hs : Unit01 s) {c : I64} (hc : 2 ≤ c.val ∧ c.val ≤ 100000) : Unit01 (F_spec_SubI (F_spec_Integer (c64 1)) (F_spec_MulI (F_spec_DivI y (F_spec_Integer c)) s)) := by
  obtain ⟨z, e, h1, h2, h3⟩ := factor_in y s c hc.1 hc.2 hy.1 hy.2.1 hy.2.2 hs.1 hs.2.1 hs.2.2
  rw [e]
  exact ⟨h1, h2, h3⟩

theorem one_unit : Unit01 (F_spec_Integer (c64 1)) := by
  obtain ⟨z, e, h1, h2, h3⟩ := Integer_val (c64 1) (by decide) (by decide)
  rw [c64_val] at h2 h3
  rw [e]
  exact ⟨h1, by omega, by omega⟩

theorem series_unit0 {y : Iv} (hy : Unit01 y) : Unit01 (F_spec_l06Series y (c64 0)) := by
  unfold F_spec_l06Series
  simp only [bindP_eq]
  refine factor_unit hy (factor_unit hy (factor_unit hy (factor_unit hy (factor_unit hy (factor_unit hy (factor_unit hy (factor_unit hy one_unit ?_) ?_) ?_) ?_) ?_) ?_) ?_) ?_ <;> decide

theorem series_unit1 {y : Iv} (hy : Unit01 y) : Unit01 (F_spec_l06Series y (c64 (-1))) := by
  unfold F_spec_l06Series
  simp only [bindP_eq]
  refine factor_unit hy (factor_unit hy (factor_unit hy (factor_unit hy (factor_unit hy (factor_unit hy (factor_unit hy (factor_unit hy one_unit ?_) ?_) ?_) ?_) ?_) ?_) ?_) ?_ <;> decide

theorem inside_ring {x : Iv} (h : F_spec_InsideI x F_spec_l06Ring = true) : F_spec_l04Ok x = true ∧ -4294967296 ≤ x.lo.val ∧ x.hi.val ≤ 4294967296 := by
  have hr : F_spec_l04Ok F_spec_l06Ring = true := by decide
  unfold F_spec_InsideI at h
  simp only [bindP_eq, hr, Bool.not_true, cond_false] at h
  cases hx : F_spec_l04Ok x with
  | false => rw [hx] at h; cases h
  | true =>
    rw [hx] at h
    simp only [cond_true] at h
    have e1 : F_spec_l06Ring.lo.val = -4294967296 := rfl
    have e2 : F_spec_l06Ring.hi.val = 4294967296 := rfl
    rw [e1, e2] at h
    by_cases q : -4294967296 ≤ x.lo.val
    · simp only [q, decide_true, cond_true, decide_eq_true_eq] at h
      exact ⟨rfl, q, h⟩
    · simp only [q, decide_false, cond_false] at h
      cases h

theorem sqr_unit {x : Iv} (h : F_spec_l04Ok x = true) (h0 : -4294967296 ≤ x.lo.val) (h1 : x.hi.val ≤ 4294967296) : Unit01 (F_spec_SqrI x) := by
  have xb := Ok4 h
  have key : ∀ p q : I64, 0 ≤ p.val → p.val ≤ q.val → q.val ≤ 4294967296 → Unit01 (bif (!(F_spec_l03MulDown p p).2) then F_spec_l04Whole else bif (!(F_spec_l03MulUp q q).2) then F_spec_l04Whole else F_spec_l04Make (F_spec_l03MulDown p p).1 (F_spec_l03MulUp q q).1) := fun p q a1 a2 a3 => by
    have s0 : 0 ≤ p.val * p.val := Int.mul_nonneg a1 a1
    have s1 : p.val * p.val ≤ q.val * q.val := Int.mul_le_mul a2 a2 a1 (by omega)
    have s2 : q.val * q.val ≤ 4294967296 * 4294967296 := Int.mul_le_mul a3 a3 (by omega) (by decide)
    obtain ⟨d, de, dv⟩ := MulDown_val (a := p) (b := p) (Ok3_of (by omega) (by omega)) (Ok3_of (by omega) (by omega)) (by omega) (by omega)
    obtain ⟨u, ue, uv⟩ := MulUp_val (a := q) (b := q) (Ok3_of (by omega) (by omega)) (Ok3_of (by omega) (by omega)) (by omega) (by omega)
    rw [de, ue]
    simp only [Bool.not_true, cond_false]
    have hb : -1152921504606846976 < d.val ∧ d.val ≤ u.val ∧ u.val < 1152921504606846976 := by omega
    rw [Make_ok hb]
    exact ⟨Ok4_of hb, by show 0 ≤ d.val; omega, by show u.val ≤ 4294967296; omega⟩
  unfold F_spec_SqrI F_spec_l04Ends F_spec_l04Has
  simp only [bindP_eq, h, Bool.not_true, cond_false, eq_mn, eq_mx, sp_in, c64_v]
  have e1 : (w64 (0 - x.lo.val)).val = -x.lo.val := by rw [w64_val]; omega
  have e2 : (w64 (0 - x.hi.val)).val = -x.hi.val := by rw [w64_val]; omega
  have m1 := mx_spec x.lo (w64 (0 - x.lo.val))
  have m2 := mx_spec x.hi (w64 (0 - x.hi.val))
  rw [e1] at m1
  rw [e2] at m2
  generalize mx x.lo (w64 (0 - x.lo.val)) = p at *
  generalize mx x.hi (w64 (0 - x.hi.val)) = q at *
  have n1 := mx_spec p q
  have n2 := mn_spec p q
  cases (decide (x.lo.val ≤ 0) && decide (0 ≤ x.hi.val)) with
  | true =>
    simp only [cond_true]
    exact key (c64 0) (mx p q) (by rw [c64_val]; omega) (by rw [c64_val]; omega) (by omega)
  | false =>
    simp only [cond_false]
    exact key (mn p q) (mx p q) (by omega) (by omega) (by omega)

/-- If it is bounded, it meets the ring. -/
def Near (x : Iv) : Prop := F_spec_l04Ok x = true → x.lo.val ≤ 4294967296 ∧ -4294967296 ≤ x.hi.val

theorem meet_near {x : Iv} (h : Near x) : (F_spec_MeetI x F_spec_l06Ring).2 = true := by
  have hr : F_spec_l04Ok F_spec_l06Ring = true := by decide
  unfold F_spec_MeetI
  simp only [bindP_eq, hr, eq_mn, eq_mx, Bool.not_true, cond_false]
  cases hx : F_spec_l04Ok x with
  | false => rfl
  | true =>
    obtain ⟨h1, h2⟩ := h hx
    have xb := Ok4 hx
    have m := mx_spec x.lo F_spec_l06Ring.lo
    have n := mn_spec x.hi F_spec_l06Ring.hi
    have e1 : F_spec_l06Ring.lo.val = -4294967296 := rfl
    have e2 : F_spec_l06Ring.hi.val = 4294967296 := rfl
    rw [e1] at m
    rw [e2] at n
    have : decide ((mx x.lo F_spec_l06Ring.lo).val > (mn x.hi F_spec_l06Ring.hi).val) = false := decide_eq_false (by omega)
    simp only [this, Bool.not_true, cond_false]

theorem near_whole : Near F_spec_l04Whole := fun h => absurd h (by decide)

theorem near_neg {x : Iv} (h : Near x) : Near (F_spec_NegI x) := by
  unfold F_spec_NegI
  simp only [bindP_eq]
  cases hx : F_spec_l04Ok x with
  | false => exact near_whole
  | true =>
    obtain ⟨h1, h2⟩ := h hx
    have xb := Ok4 hx
    simp only [Bool.not_true, cond_false]
    rw [Make_ok (by simp only [w64_val]; omega)]
    intro _
    simp only [w64_val]
    omega

theorem near_tiny {x : Iv} (h : F_spec_l04Ok x = true) (h0 : -4294967296 ≤ x.lo.val) (h1 : x.hi.val ≤ 4294967296) : Near (F_spec_AddI x F_spec_l06Tiny) := by
  have ht : F_spec_l04Ok F_spec_l06Tiny = true := by decide
  have e1 : F_spec_l06Tiny.lo.val = -1 := rfl
  have e2 : F_spec_l06Tiny.hi.val = 1 := rfl
  have xb := Ok4 h
  unfold F_spec_AddI
  simp only [bindP_eq, h, ht, e1, e2, Bool.not_true, cond_false]
  rw [Make_ok (by simp only [w64_val]; omega)]
  intro _
  simp only [w64_val]
  omega

theorem near_sin (x : Iv) : Near (F_spec_SinSeries x) := by
  unfold F_spec_SinSeries F_spec_Whole
  simp only [bindP_eq]
  cases hi : F_spec_InsideI x F_spec_l06Ring with
  | false => exact near_whole
  | true =>
    obtain ⟨h1, h2, h3⟩ := inside_ring hi
    have xb := Ok4 h1
    have su := series_unit0 (sqr_unit h1 h2 h3)
    have sb := Ok4 su.1
    have key : ∀ p q : Int, -4294967296 ≤ p → p ≤ 4294967296 → 0 ≤ q → q ≤ 4294967296 → -4294967296 * 4294967296 ≤ p * q ∧ p * q ≤ 4294967296 * 4294967296 := fun p q a1 a2 a3 a4 => by
      have b1 : p * q ≤ 4294967296 * q := Int.mul_le_mul_of_nonneg_right a2 a3
      have b2 : -4294967296 * q ≤ p * q := Int.mul_le_mul_of_nonneg_right a1 a3
      omega
    obtain ⟨m, em, om, m0, m1, _⟩ := MulI_in h1 su.1 (L := -4294967296) (U := 4294967296) (by decide) (by decide) (key _ _ (by omega) (by omega) su.2.1 (by have := su.2.2; omega)) (key _ _ (by omega) (by omega) (by have := su.2.1; omega) su.2.2) (key _ _ (by omega) (by omega) su.2.1 (by have := su.2.2; omega)) (key _ _ (by omega) (by omega) (by have := su.2.1; omega) su.2.2)
    simp only [Bool.not_true, cond_false]
    rw [em]
    exact near_tiny om m0 m1

theorem near_cos (x : Iv) : Near (F_spec_CosSeries x) := by
  unfold F_spec_CosSeries F_spec_Whole
  simp only [bindP_eq]
  cases hi : F_spec_InsideI x F_spec_l06Ring with
  | false => exact near_whole
  | true =>
    obtain ⟨h1, h2, h3⟩ := inside_ring hi
    have su := series_unit1 (sqr_unit h1 h2 h3)
    simp only [Bool.not_true, cond_false]
    exact near_tiny su.1 (by have := su.2.1; omega) su.2.2

theorem eq_inRing {x : Iv} (h : Near x) : F_impl_inRing x = F_spec_l06Meet x := by
  unfold F_impl_inRing F_spec_l06Meet
  simp only [bindP_eq, eq_MeetI]
  have e : F_impl_ring = F_spec_l06Ring := rfl
  rw [e, meet_near h]
  rfl

theorem eq_circleValue (n k : I64) : F_impl_circleValue n k = F_spec_l06At n k := by
  unfold F_impl_circleValue F_spec_l06At F_impl_isAngle F_spec_l06Angle
  have e : F_impl_ring = F_spec_l06Ring := rfl
  have e2 : ∀ m, F_impl_at m = F_spec_l05At m := fun _ => rfl
  simp only [bindP_eq, eq_in, eq_QuarterOf, eq_TurnI, e, e2, eq_SubI, eq_SinSeries, eq_CosSeries, eq_NegI, eq_inRing (near_sin _), eq_inRing (near_cos _), eq_inRing (near_neg (near_sin _)), eq_inRing (near_neg (near_cos _))]

end Go.Proofs.YtgofhiehdpggkaaGreat.Abs
