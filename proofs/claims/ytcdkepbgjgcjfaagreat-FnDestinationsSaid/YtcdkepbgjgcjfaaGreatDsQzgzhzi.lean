/- Plain laws of the functions on numbers: what the program computes is what the reference computes. -/
import Derived.Test.YtcdkepbgjgcjfaaGreatReal
import Derived.Test.YtcdkepbgjgcjfaaGreatDsQzdzezf
import Derived.Test.YtcdkepbgjgcjfaaGreatDsF3
set_option linter.unusedVariables false
set_option linter.unusedSimpArgs false
namespace Go.Proofs.YtcdkepbgjgcjfaaGreat.Abs
open Go

theorem Turn1_hi : (F_spec_l05Turn (c64 1)).hi.val = 6746518853 := by
  obtain ⟨r, hr, rv⟩ := Turn_val (c64 1) (by decide) (by decide)
  unfold F_spec_l05Turn F_spec_l05Turn_r
  have d1 : decide ((c64 1).val < 0) = false := by decide
  have d2 : ((c64 1).val == 0) = false := by decide
  simp only [bindP_e, d1, d2, cond_f, hr]
  rw [w64_val, rv, c64_v]
  decide

theorem tHullL {a b : Iv} {v va vb : Rl.R} (ha : Tr a va) (hb : Tr b vb) (h1 : va ≤ v ∨ vb ≤ v) (h2 : v ≤ va ∨ v ≤ vb) : Tr (F_spec_HullI a b) v := fun h => by
  obtain ⟨k1, k2, k3, k4, k5, k6⟩ := HullI_out h
  have A := ha k1
  have B := hb k2
  constructor
  · rcases h1 with h1 | h1
    · exact Rl.le_trans (Rl.fx_le.2 k3) (Rl.le_trans A.1 h1)
    · exact Rl.le_trans (Rl.fx_le.2 k4) (Rl.le_trans B.1 h1)
  · rcases h2 with h2 | h2
    · exact Rl.le_trans (Rl.le_trans h2 A.2) (Rl.fx_le.2 k5)
    · exact Rl.le_trans (Rl.le_trans h2 B.2) (Rl.fx_le.2 k6)

theorem tDoubleS {a : Iv} {x : Rl.R} (ha : Tr a x) : Tr (F_spec_DoubleI a) (x + x) := fun h => by
  unfold F_spec_DoubleI at h ⊢
  simp only [bindP_e] at h ⊢
  cases h1 : F_spec_l04Ok a with
  | false => rw [h1] at h; simp only [Bool.not_false, cond_t] at h; exact absurd h (by decide)
  | true =>
    rw [h1] at h
    simp only [Bool.not_true, cond_f] at h ⊢
    rw [Make_out h]
    have A := (ha h1).add (ha h1)
    have p := Ok4p h1
    show Rl.In (w64 (2 * a.lo.val)).val (w64 (2 * a.hi.val)).val _
    rw [w64_val, w64_val]
    refine A.mono ?_ ?_ <;> omega

theorem le_of_sqI {a b : Int} (h : a * a ≤ b * b) (hb : 0 ≤ b) : a ≤ b ∧ -b ≤ a := by
  constructor
  · refine Classical.byContradiction fun k => ?_
    have := Int.mul_self_lt_mul_self hb (by omega : b < a)
    omega
  · refine Classical.byContradiction fun k => ?_
    have := Int.mul_self_lt_mul_self hb (by omega : b < -a)
    rw [Int.neg_mul_neg] at this
    omega

theorem tAbsS {a : Iv} {x y : Rl.R} (ha : Tr a x) (hy : Rl.q 0 ≤ y) (e : y = x ∨ y = -x) : Tr (F_spec_AbsI a) y := fun h => by
  have h1 : F_spec_l04Ok a = true := by
    cases h1 : F_spec_l04Ok a with
    | true => rfl
    | false =>
      unfold F_spec_AbsI at h
      simp only [bindP_e, h1, Bool.not_false, cond_t] at h
      exact absurd h (by decide)
  rw [AbsI_val h1]
  have A := ha h1
  obtain ⟨e1, e2, e3⟩ := Ends_out h1
  generalize (F_spec_l04Ends a).1 = p at *
  generalize (F_spec_l04Ends a).2 = r at *
  have o := A.ord
  have u1 := e3 a.lo.val (Int.le_refl _) o
  have u2 := e3 a.hi.val o (Int.le_refl _)
  obtain ⟨a1, a2⟩ := le_of_sqI u1.2 e2
  obtain ⟨b1, b2⟩ := le_of_sqI u2.2 e2
  have N := A.neg
  constructor
  · by_cases c1 : 0 ≤ a.lo.val
    · have := (le_of_sqI u1.1 c1).1
      rcases e with e | e
      · rw [e]; exact Rl.le_trans (Rl.fx_le.2 this) A.1
      · have hx : Rl.q 0 ≤ x := by rw [← Rl.fx_zero]; exact Rl.le_trans (Rl.fx_le.2 c1) A.1
        have : y ≤ x := by rw [e]; exact Rl.le_trans (Rl.neg_nonpos hx) hx
        have e4 : x = y := by
          have z : x = Rl.q 0 := Rl.le_antisymm (by rw [e] at hy; have := Rl.neg_le_neg hy; rwa [Rl.neg_neg, ← Rl.q_neg, show -(0 : Rat) = 0 from by decide] at this) hx
          rw [e, z, ← Rl.q_neg]; rfl
        rw [← e4]; exact Rl.le_trans (Rl.fx_le.2 ‹_›) A.1
    · by_cases c2 : a.hi.val ≤ 0
      · have k : p.val ≤ -a.hi.val := (le_of_sqI (a := p.val) (b := -a.hi.val) (by rw [Int.neg_mul_neg]; exact u2.1) (by omega)).1
        rcases e with e | e
        · have hx : x ≤ Rl.q 0 := by rw [← Rl.fx_zero]; exact Rl.le_trans A.2 (Rl.fx_le.2 c2)
          have z : x = Rl.q 0 := Rl.le_antisymm hx (by rw [← e]; exact hy)
          have : y = -x := by rw [e, z, ← Rl.q_neg]; rfl
          rw [this]; exact Rl.le_trans (Rl.fx_le.2 k) N.1
        · rw [e]; exact Rl.le_trans (Rl.fx_le.2 k) N.1
      · have u0 := (e3 0 (by omega) (by omega)).1
        have := (le_of_sqI u0 (Int.le_refl _)).1
        exact Rl.le_trans (Rl.fx_le.2 this) (by rw [Rl.fx_zero]; exact hy)
  · rcases e with e | e
    · rw [e]; exact Rl.le_trans A.2 (Rl.fx_le.2 b1)
    · rw [e]; exact Rl.le_trans N.2 (Rl.fx_le.2 (by show -a.lo.val ≤ r.val; omega))

theorem Floor_true {a d : I64} (ha : F_spec_l03Ok a = true) (h : (F_spec_l03Floor a d).2 = true) : 0 < d.val ∧ (F_spec_l03Floor a d).1.val * d.val ≤ a.val * 4294967296 := by
  unfold F_spec_l03Floor at h ⊢
  by_cases k : d.val ≤ 0
  · rw [decide_eq_true k, cond_t] at h; cases h
  · rw [decide_eq_false k, cond_f] at h ⊢
    simp only [bindP_e] at h ⊢
    obtain ⟨h1, h2, h3⟩ := End_true h
    have v := MulDivFloor_true ha (by omega) h1
    refine ⟨by omega, ?_⟩
    rw [h3, v]
    exact Int.ediv_mul_le _ (by omega)

theorem Ceil_true {a d : I64} (ha : F_spec_l03Ok a = true) (h : (F_spec_l03Ceil a d).2 = true) : 0 < d.val ∧ a.val * 4294967296 ≤ (F_spec_l03Ceil a d).1.val * d.val := by
  unfold F_spec_l03Ceil at h ⊢
  by_cases k : d.val ≤ 0
  · rw [decide_eq_true k, cond_t] at h; cases h
  · rw [decide_eq_false k, cond_f] at h ⊢
    simp only [bindP_e] at h ⊢
    cases hm : (F_spec_MulDivFloor a (c64 4294967296) d).2 with
    | false => rw [hm] at h; simp only [Bool.not_false, cond_t] at h; cases h
    | true =>
      rw [hm] at h
      simp only [Bool.not_true, cond_f] at h ⊢
      have v := MulDivFloor_true ha (by omega) hm
      have pr := Ok3_p ha
      generalize (F_spec_MulDivFloor a (c64 4294967296) d).1 = r at *
      refine ⟨by omega, ?_⟩
      have d1 := Int.emod_nonneg (a.val * 4294967296) (by omega : d.val ≠ 0)
      have d2 := Int.emod_lt_of_pos (a.val * 4294967296) (by omega : 0 < d.val)
      have d3 := Int.mul_ediv_add_emod (a.val * 4294967296) d.val
      rw [← v, Int.mul_comm] at d3
      generalize hr : a.val * 4294967296 % d.val = m at *
      have dh := d.hi
      have dh2 : d.val ≤ 9223372036854775807 := d.hi
      cases hb : (w64 (r.val * d.val)).val != (w64 (a.val * 4294967296)).val with
      | true =>
        rw [hb] at h
        simp only [cond_t] at h ⊢
        obtain ⟨_, h2, h3⟩ := End_true h
        rw [h3]
        have rl := r.lo
        have rh := r.hi
        have rh2 : r.val ≤ 9223372036854775807 := r.hi
        have o := Ok3_p h2
        have w : (w64 (r.val + 1)).val = r.val + 1 := by
          rw [w64_val] at o ⊢
          by_cases c : r.val = 9223372036854775807
          · rw [c] at o; exact absurd o (by decide)
          · omega
        rw [w, Int.add_mul]
        omega
      | false =>
        rw [hb] at h
        simp only [cond_f] at h ⊢
        obtain ⟨_, h2, h3⟩ := End_true h
        rw [h3]
        simp only [bne_eq_false_iff_eq, w64_val] at hb
        generalize r.val * d.val = u at *
        generalize a.val * 4294967296 = v at *
        omega

/-- A quotient of whole numbers. -/
theorem tQuotS {a b : I64} {z : Rl.R} (ha : F_spec_l03Ok a = true) (hb : 0 < b.val) (hz : z * Rl.q b.val = Rl.q a.val) : Tr (F_spec_Quotient a b) z := fun h => by
  unfold F_spec_Quotient at h ⊢
  rw [decide_eq_false (show ¬ b.val < 0 by omega), cond_f] at h ⊢
  simp only [bindP_e] at h ⊢
  cases h1 : (F_spec_l03Floor a b).2 with
  | false => rw [h1] at h; simp only [Bool.not_false, cond_t] at h; exact absurd h (by decide)
  | true =>
  cases h2 : (F_spec_l03Ceil a b).2 with
  | false => rw [h1, h2] at h; simp only [Bool.not_false, Bool.not_true, cond_t, cond_f] at h; exact absurd h (by decide)
  | true =>
    rw [h1, h2] at h
    simp only [Bool.not_true, cond_f] at h ⊢
    rw [Make_out h]
    have F := (Floor_true ha h1).2
    have C := (Ceil_true ha h2).2
    have bp : Rl.q 0 < Rl.q b.val := Rl.q_lt.2 (Rl.cast_pos hb)
    constructor
    · refine Rl.le_of_mul ?_ bp
      rw [hz, Rl.fx_q, ← Rl.q_mul]
      refine Rl.q_le.2 ?_
      have := Rl.cast_le F
      push_cast at this
      grind
    · refine Rl.le_of_mul ?_ bp
      rw [hz, Rl.fx_q, ← Rl.q_mul]
      refine Rl.q_le.2 ?_
      have := Rl.cast_le C
      push_cast at this
      grind

theorem q_one_mul (r : Rat) (n : I64) (h : r * (n.val : Rat) = 1) : Rl.q r * Rl.q n.val = Rl.q (c64 1).val := by
  rw [← Rl.q_mul, h, c64_v]
  congr 1

theorem tFrac (n : I64) (r : Rat) (h0 : 0 < n.val) (h : r * (n.val : Rat) = 1) : Tr (F_spec_Quotient (c64 1) n) (Rl.q r) :=
  tQuotS (by decide) h0 (q_one_mul r n h)

theorem tArcSeriesS {a : Iv} {x t : Rl.R} (ha : Tr a x) (h1 : -Rl.hp < t) (h2 : t < Rl.hp) (e : Rl.sn t = x * Rl.cn t) : Tr (F_spec_ArcSeries a) t := by
  unfold F_spec_ArcSeries F_spec_Whole
  simp only [bindP_e]
  cases hi : F_spec_InsideI a (⟨c64 (-1073741824), c64 1073741824⟩ : Iv) with
  | false => simp only [Bool.not_false, cond_t]; exact tWhole _
  | true =>
    simp only [Bool.not_true, cond_f]
    have hb : F_spec_l04Ok a = true ∧ -1073741824 ≤ a.lo.val ∧ a.hi.val ≤ 1073741824 := by
      unfold F_spec_InsideI at hi
      have o : F_spec_l04Ok (⟨c64 (-1073741824), c64 1073741824⟩ : Iv) = true := by decide
      simp only [bindP_e, o, Bool.not_true, cond_f] at hi
      cases hk : F_spec_l04Ok a with
      | false => rw [hk] at hi; cases hi
      | true =>
        rw [hk] at hi
        simp only [cond_t, c64_v] at hi
        by_cases c : -1073741824 ≤ a.lo.val
        · rw [decide_eq_true c] at hi
          simp only [cond_t, decide_eq_true_eq] at hi
          exact ⟨rfl, c, hi⟩
        · rw [decide_eq_false c] at hi; cases hi
    obtain ⟨h3, h4, h5⟩ := hb
    have A := ha h3
    have hx : Rl.Ab x (Rl.q (1/4)) := by
      have k1 := Rl.le_trans (Rl.fx_le.2 h4) A.1
      have k2 := Rl.le_trans A.2 (Rl.fx_le.2 h5)
      rw [show Rl.fx (-1073741824) = -Rl.q (1/4) from by rw [← Rl.q_neg, Rl.fx_q]; congr 1; decide +kernel] at k1
      rw [show Rl.fx 1073741824 = Rl.q (1/4) from by rw [Rl.fx_q]; congr 1; decide +kernel] at k2
      exact ⟨k1, k2⟩
    have hy := tSqrS ha
    have S := tMulS ha (tSubS (tFrac (c64 1) 1 (by decide) (by decide +kernel)) (tMulS hy (tSubS (tFrac (c64 3) (1/3) (by decide) (by decide +kernel)) (tMulS hy (tSubS (tFrac (c64 5) (1/5) (by decide) (by decide +kernel)) (tMulS hy (tSubS (tFrac (c64 7) (1/7) (by decide) (by decide +kernel)) (tMulS hy (tSubS (tFrac (c64 9) (1/9) (by decide) (by decide +kernel)) (tMulS hy (tSubS (tFrac (c64 11) (1/11) (by decide) (by decide +kernel)) (tMulS hy (tSubS (tFrac (c64 13) (1/13) (by decide) (by decide +kernel)) (tMulS hy (tSubS (tFrac (c64 15) (1/15) (by decide) (by decide +kernel)) (tMulS hy (tSubS (tFrac (c64 17) (1/17) (by decide) (by decide +kernel)) (tMulS hy (tSubS (tFrac (c64 19) (1/19) (by decide) (by decide +kernel)) (tMulS hy (tFrac (c64 21) (1/21) (by decide) (by decide +kernel))))))))))))))))))))))
    have S2 := tAddS S (tTiny (d := t - Rl.pol Rl.aC x) (by
      have := (Rl.atan_series h1 h2 e hx).neg
      rwa [Rl.neg_sub] at this))
    have e2 := Rl.hat_pol x
    change x * (Rl.q 1 - x * x * (Rl.q (1/3) - x * x * (Rl.q (1/5) - x * x * (Rl.q (1/7) - x * x * (Rl.q (1/9) - x * x * (Rl.q (1/11) - x * x * (Rl.q (1/13) - x * x * (Rl.q (1/15) - x * x * (Rl.q (1/17) - x * x * (Rl.q (1/19) - x * x * Rl.q (1/21))))))))))) = _ at e2
    rw [e2, add_sub_self] at S2
    exact S2

theorem tHalveS {a : Iv} {x s z : Rl.R} (ha : Tr a x) (hs : Rl.q 0 ≤ s) (es : s * s = Rl.q 1 + x * x) (ez : z * (Rl.q 1 + s) = x) : Tr (F_spec_l07Halve a) z := by
  unfold F_spec_l07Halve
  simp only [bindP_e]
  exact tDivS ha (tAddS tOneS (tSqrtS (tAddS tOneS (tSqrS ha)) hs es)) ez

theorem tCoreS {a : Iv} {x t : Rl.R} (ha : Tr a x) (h1 : -Rl.hp < t) (h2 : t < Rl.hp) (e : Rl.sn t = x * Rl.cn t) : Tr (F_spec_l07Core a) t := by
  unfold F_spec_l07Core
  simp only [bindP_e]
  obtain ⟨s, z, s0, es, ez⟩ := Rl.root_z x
  obtain ⟨b1, b2⟩ := Rl.half_lt_hp h1 h2
  have e2 := Rl.tan_half h1 h2 e s0 es ez
  have Z := tHalveS ha s0 es ez
  obtain ⟨s', z', s0', es', ez'⟩ := Rl.root_z z
  obtain ⟨c1, c2⟩ := Rl.half_lt_hp b1 b2
  have e3 := Rl.tan_half b1 b2 e2 s0' es' ez'
  have Z' := tHalveS Z s0' es' ez'
  have D := tDoubleS (tDoubleS (tArcSeriesS Z' c1 c2 e3))
  rwa [Rl.half_two, Rl.half_two] at D

theorem Quarter_tr {t : Rl.R} (h1 : -Rl.hp ≤ t) (h2 : t ≤ Rl.hp) : Tr F_spec_l07Quarter t := by
  intro _
  have p1 : (Rl.hp ≤ Rl.fx (F_spec_l05Turn (c64 1)).hi.val) := by
    obtain ⟨z, e1, e2, e3, _⟩ := Turn_in (c64 1) (by decide)
    have e4 : F_spec_TurnI (c64 1) = F_spec_l05Turn (c64 1) := by
      unfold F_spec_TurnI
      have : F_spec_l00In (c64 1) (c64 (-4096)) (c64 4096) = true := by decide
      simp only [bindP_e, this, Bool.not_true, cond_f]
    rw [← e4, e1]
    have := e3.2
    rwa [c64_v, Rl.kh_one] at this
  have e : F_spec_l07Quarter = ⟨w64 (0 - (F_spec_l05Turn (c64 1)).hi.val), (F_spec_l05Turn (c64 1)).hi⟩ := by
    unfold F_spec_l07Quarter
    simp only [bindP_e]
  rw [e]
  have v := Turn1_hi
  constructor
  · show Rl.fx (w64 (0 - (F_spec_l05Turn (c64 1)).hi.val)).val ≤ t
    rw [show (w64 (0 - (F_spec_l05Turn (c64 1)).hi.val)).val = -(F_spec_l05Turn (c64 1)).hi.val from by rw [w64_val, v]; decide, Rl.fx_neg]
    exact Rl.le_trans (Rl.neg_le_neg p1) h1
  · exact Rl.le_trans h2 p1

theorem tAtanPos {n : I64} (hn : 0 ≤ n.val) (fu : Nat) {t : Rl.R} (h1 : -Rl.hp < t) (h2 : t < Rl.hp) (e : Rl.sn t = Rl.fx n.val * Rl.cn t) : Tr (F_spec_AtanAt_r (fu + 1) n) t := by
  unfold F_spec_AtanAt_r F_spec_AtanAt_b
  simp only [bindP_e]
  cases hf : F_spec_l07Fix n with
  | false => simp only [Bool.not_false, cond_t]; exact Quarter_tr (Rl.le_of_lt h1) (Rl.le_of_lt h2)
  | true =>
    simp only [Bool.not_true, cond_f, decide_eq_false (show ¬ n.val < 0 by omega)]
    by_cases hg : n.val > 4294967296
    · simp only [decide_eq_true hg, cond_t]
      have np : Rl.q 0 < Rl.fx n.val := Rl.fx_pos (by omega)
      have tp := Rl.tan_pos h1 h2 e np
      obtain ⟨i, hi, i0⟩ := Rl.inv_ex np
      have D : Tr (F_spec_DivI (F_spec_Integer (c64 1)) (F_spec_l05At n)) i := tDivS tOneS (tAtS n) (by rw [Rl.mul_comm]; exact hi)
      have k1 : -Rl.hp < Rl.hp - t := by
        refine Rl.lt_trans Rl.neg_hp_lt ?_
        intro k
        refine h2 ?_
        have := Rl.add_le_add k (Rl.le_refl t)
        rwa [Rl.sub_add_cancel, Rl.zero_add] at this
      have k2 : Rl.hp - t < Rl.hp := by
        intro k
        refine tp ?_
        have := Rl.sub_le_sub (Rl.le_refl Rl.hp) k
        rwa [Rl.sub_self, show Rl.hp - (Rl.hp - t) = t from Rl.sub_sub_self _ _] at this
      have e3 : Rl.sn (Rl.hp - t) = i * Rl.cn (Rl.hp - t) := by
        rw [Rl.sn_hp_sub, Rl.cn_hp_sub, e, ← Rl.mul_assoc, Rl.mul_comm i, hi, Rl.one_mul]
      have C := tSubS (tTurnS (c64 1)) (tCoreS D k1 k2 e3)
      rwa [c64_v, Rl.kh_one, Rl.sub_sub_self] at C
    · simp only [decide_eq_false hg, cond_f]
      exact tCoreS (tAtS n) h1 h2 e

theorem neg_lt_hp {t : Rl.R} (h1 : -Rl.hp < t) (h2 : t < Rl.hp) : -Rl.hp < -t ∧ -t < Rl.hp := ⟨Rl.neg_lt h2, by have := Rl.neg_lt h1; rwa [Rl.neg_neg] at this⟩

theorem tAtanAtS {n : I64} {t : Rl.R} (h1 : -Rl.hp < t) (h2 : t < Rl.hp) (e : Rl.sn t = Rl.fx n.val * Rl.cn t) : Tr (F_spec_AtanAt n) t := by
  unfold F_spec_AtanAt
  by_cases hn : 0 ≤ n.val
  · exact tAtanPos hn 1 h1 h2 e
  · unfold F_spec_AtanAt_r F_spec_AtanAt_b
    simp only [bindP_e]
    cases hf : F_spec_l07Fix n with
    | false => simp only [Bool.not_false, cond_t]; exact Quarter_tr (Rl.le_of_lt h1) (Rl.le_of_lt h2)
    | true =>
      obtain ⟨o1, o2⟩ := open_val hf
      simp only [Bool.not_true, cond_f, decide_eq_true (show n.val < 0 by omega), cond_t]
      have w : (w64 (0 - n.val)).val = -n.val := by rw [w64_val]; omega
      obtain ⟨k1, k2⟩ := neg_lt_hp h1 h2
      have P := tNegS (tAtanPos (n := w64 (0 - n.val)) (by omega) 0 k1 k2 (by rw [Rl.sn_neg, Rl.cn_neg, w, Rl.fx_neg, e, Rl.neg_mul]))
      rwa [Rl.neg_neg] at P

theorem tAtanS {a : Iv} {x t : Rl.R} (ha : Tr a x) (h1 : -Rl.hp < t) (h2 : t < Rl.hp) (e : Rl.sn t = x * Rl.cn t) : Tr (F_spec_AtanI a) t := by
  unfold F_spec_AtanI F_spec_IsWhole
  simp only [bindP_e]
  cases ho : F_spec_l04Ok a with
  | false => simp only [Bool.not_false, cond_t]; exact Quarter_tr (Rl.le_of_lt h1) (Rl.le_of_lt h2)
  | true =>
    simp only [Bool.not_true, cond_f]
    have A := ha ho
    obtain ⟨u, u1, u2, ue⟩ := Rl.tan_ex (Rl.fx a.lo.val)
    obtain ⟨v, v1, v2, ve⟩ := Rl.tan_ex (Rl.fx a.hi.val)
    exact tHullL (tAtanAtS u1 u2 ue) (tAtanAtS v1 v2 ve) (.inl (Rl.tan_mono u1 u2 ue h1 h2 e A.1)) (.inr (Rl.tan_mono h1 h2 e v1 v2 ve A.2))

end Go.Proofs.YtcdkepbgjgcjfaaGreat.Abs
