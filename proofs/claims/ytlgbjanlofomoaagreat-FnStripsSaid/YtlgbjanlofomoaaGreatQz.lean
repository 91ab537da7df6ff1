/- Plain laws of the functions on numbers: what the program computes is what the reference computes. -/
import Derived.Test.YtlgbjanlofomoaaGreatQy
import Derived.Test.YtlgbjanlofomoaaGreatF3
set_option linter.unusedVariables false
set_option linter.unusedSimpArgs false
namespace Go.Proofs.YtlgbjanlofomoaaGreat.Abs
open Go

theorem cond_both {α : Type} {p : α → Prop} {c : Bool} {a b : α} (ha : p a) (hb : p b) : p (cond c a b) := by
  cases c
  · exact hb
  · exact ha

theorem bindP_all {α β : Type} {p : β → Prop} {x : α} {φ : α → β} (h : ∀ r, p (φ r)) : p (bindP x φ) := h x

theorem listAt_all {p : I64 → Prop} (L : List I64) (h : ∀ x ∈ L, p x) (h0 : p (c64 0)) (i : I64) : p (listAt L i) := by
  unfold listAt
  rw [List.getD_eq_getElem?_getD]
  cases hx : L[i.val.toNat]? with
  | none => exact h0
  | some x => exact h x (List.mem_of_getElem? hx)

def nr (m : Int) (x : I64) : Prop := -m ≤ x.val ∧ x.val ≤ m

theorem nr_mod {m : I64} (h1 : 1 ≤ m.val) (h2 : m.val < 9223372036854775807) (x : I64) : nr m.val (imod x (w64 (m.val + 1)).val) := by
  have e : (w64 (m.val + 1)).val = m.val + 1 := by rw [w64_val]; omega
  unfold nr
  rw [e, imod_val]
  have g1 : Int.tmod x.val (m.val + 1) < m.val + 1 := Int.tmod_lt_of_pos _ (by omega)
  have g2 : Int.tmod (-x.val) (m.val + 1) < m.val + 1 := Int.tmod_lt_of_pos _ (by omega)
  rw [Int.neg_tmod] at g2
  omega

theorem nr_shr {m : Int} {x : I64} (h : nr m x) (k : Int) : nr m (ishr x k) := by
  unfold nr at *
  rw [ishr_val]
  generalize min k.toNat IntKind.i64.bits = n
  have hp : (0 : Int) < 2 ^ n := Int.pow_pos (by omega)
  rw [Int.fdiv_eq_ediv_of_nonneg _ (Int.le_of_lt hp)]
  by_cases hv : 0 ≤ x.val
  · have q1 : x.val / 2 ^ n ≤ x.val := Int.ediv_le_self _ hv
    have q2 : 0 ≤ x.val / 2 ^ n := Int.ediv_nonneg hv (Int.le_of_lt hp)
    omega
  · have q1 : x.val ≤ x.val / 2 ^ n := by
      rw [Int.le_ediv_iff_mul_le hp]
      have : x.val * 2 ^ n ≤ x.val * 1 := Int.mul_le_mul_of_nonpos_left (by omega) (by omega)
      omega
    have q2 : x.val / 2 ^ n < 0 := by
      rw [Int.ediv_lt_iff_lt_mul hp]
      omega
    omega

theorem nr_neg {m : Int} {x : I64} (hm : m < 9223372036854775807) (h : nr m x) : nr m (w64 (0 - x.val)) := by
  unfold nr at *
  rw [w64_val]
  omega

theorem nr_list {m : I64} (h1 : 1 ≤ m.val) (i : I64) : nr m.val (listAt [c64 0, c64 1, m, w64 (Int.tdiv m.val 2)] i) := by
  refine listAt_all _ (fun x hx => ?_) (by unfold nr; rw [c64_v]; omega) i
  have hh := m.hi
  simp only [List.mem_cons, List.not_mem_nil, or_false] at hx
  rcases hx with rfl | rfl | rfl | rfl
  · unfold nr; rw [c64_v]; omega
  · unfold nr; rw [c64_v]; omega
  · exact ⟨by omega, Int.le_refl _⟩
  · unfold nr
    rw [Int.tdiv_eq_ediv_of_nonneg (by omega), w64_val]
    omega

theorem number_in (C : Cd) (b : Src) {m : I64} (h1 : 1 ≤ m.val) (h2 : m.val < 9223372036854775807) : nr m.val (F_spec_l05Number__src C b m).1 := by
  unfold F_spec_l05Number__src
  refine bindP_all (p := fun r : I64 × Src => nr m.val r.1) fun r1 => bindP_all (p := fun r : I64 × Src => nr m.val r.1) fun r2 => bindP_all (p := fun r : I64 × Src => nr m.val r.1) fun r3 => bindP_all (p := fun r : I64 × Src => nr m.val r.1) fun r4 => bindP_all (p := fun r : I64 × Src => nr m.val r.1) fun r5 => bindP_all (p := fun r : I64 × Src => nr m.val r.1) fun r6 => bindP_all (p := fun r : I64 × Src => nr m.val r.1) fun r7 => bindP_all (p := fun r : I64 × Src => nr m.val r.1) fun r8 => ?_
  have hx : ∀ x : I64, nr m.val (imod x (w64 (m.val + 1)).val) := nr_mod h1 h2
  refine cond_both (p := fun r : I64 × Src => nr m.val r.1) ?_ (cond_both (p := fun r : I64 × Src => nr m.val r.1) ?_ ?_)
  · refine bindP_all (p := fun r : I64 × Src => nr m.val r.1) fun r9 => bindP_all (p := fun r : I64 × Src => nr m.val r.1) fun r10 => cond_both (p := fun r : I64 × Src => nr m.val r.1) ?_ ?_
    · exact nr_neg h2 (nr_shr (hx _) _)
    · exact nr_shr (hx _) _
  · unfold F_spec_l00Src_among__src__s4
    rw [bindP_e, bindP_e, bindP_e]
    refine cond_both (p := fun r : I64 × Src => nr m.val r.1) ?_ ?_
    · exact nr_neg h2 (nr_list h1 _)
    · exact nr_list h1 _
  · refine bindP_all (p := fun r : I64 × Src => nr m.val r.1) fun r9 => cond_both (p := fun r : I64 × Src => nr m.val r.1) ?_ ?_
    · exact nr_neg h2 (hx _)
    · exact hx _

theorem draw_point (C : Cd) (b : Src) : F_spec_l11Ok (F_spec_l11Draw__src C b).1 = true := by
  unfold F_spec_l11Draw__src
  rw [bindP_e, bindP_e, bindP_e]
  have q1 := number_in C b (m := c64 900000000) (by rw [c64_v]; omega) (by rw [c64_v]; omega)
  generalize F_spec_l05Number__src C b (c64 900000000) = r1 at *
  have q3 := wrap_in64 (F_spec_l05Number__src C r1.2 (c64 1800000000)).1
  generalize F_spec_l11Wrap (F_spec_l05Number__src C r1.2 (c64 1800000000)).1 = r3 at *
  unfold nr at q1
  rw [c64_v] at q1
  refine bindP_all (p := fun r : Pt × Src => F_spec_l11Ok r.1 = true) fun r4 => cond_both (p := fun r : Pt × Src => F_spec_l11Ok r.1 = true) ?_ (cond_both (p := fun r : Pt × Src => F_spec_l11Ok r.1 = true) ?_ ?_)
  · unfold F_spec_l00Src_among__src__s4
    rw [bindP_e, bindP_e]
    have q : nr 900000000 (listAt [c64 900000000, c64 (-900000000), c64 0, c64 1] (F_spec_l00Src_pick__src C r4.2 (c64 4)).1) := by
      refine listAt_all _ (fun x hx => ?_) (by unfold nr; rw [c64_v]; omega) _
      simp only [List.mem_cons, List.not_mem_nil, or_false] at hx
      rcases hx with rfl | rfl | rfl | rfl <;> (unfold nr; rw [c64_v]; omega)
    exact l11_of ⟨q.1, q.2, q3.1, q3.2⟩
  · unfold F_spec_l00Src_among__src__s5
    rw [bindP_e, bindP_e]
    have q : (fun x : I64 => -1800000000 < x.val ∧ x.val ≤ 1800000000) (listAt [c64 1800000000, c64 (-1799999999), c64 0, c64 900000000, c64 (-900000000)] (F_spec_l00Src_pick__src C r4.2 (c64 5)).1) := by
      refine listAt_all (p := fun x : I64 => -1800000000 < x.val ∧ x.val ≤ 1800000000) _ (fun x hx => ?_) (by rw [c64_v]; omega) _
      simp only [List.mem_cons, List.not_mem_nil, or_false] at hx
      rcases hx with rfl | rfl | rfl | rfl | rfl <;> (rw [c64_v]; omega)
    exact l11_of ⟨q1.1, q1.2, q.1, q.2⟩
  · exact l11_of ⟨q1.1, q1.2, q3.1, q3.2⟩

theorem point8 (C : Cd) : F_spec_l11Ok (F_spec_E8Point C) = true := by
  unfold F_spec_E8Point
  rw [bindP_e]
  exact draw_point C _

theorem strip_of {p : Pt} (h : F_spec_l11Ok p = true) : ∃ z : I64, F_impl_zoneOf p = z ∧ 1 ≤ z.val ∧ z.val ≤ 60 ∧ ((p.lon.val = 1800000000 ∧ z.val = 1) ∨ (60000000 * (z.val - 1) ≤ p.lon.val + 1800000000 ∧ p.lon.val + 1800000000 < 60000000 * z.val)) := by
  obtain ⟨_, _, h1, h2⟩ := point_val h
  refine ⟨_, rfl, ?_⟩
  unfold F_impl_zoneOf
  by_cases hq : p.lon.val = 1800000000
  · have e : (p.lon.val == 1800000000) = true := by simp only [beq_iff_eq]; exact hq
    rw [e, cond_t, c64_v]
    omega
  · have e : (p.lon.val == 1800000000) = false := by simp only [beq_eq_false_iff_ne, ne_eq]; exact hq
    have e1 : (w64 (p.lon.val + 1800000000)).val = p.lon.val + 1800000000 := by rw [w64_val]; omega
    rw [e, cond_f, e1, Int.tdiv_eq_ediv_of_nonneg (by omega)]
    have e2 : (w64 ((w64 ((p.lon.val + 1800000000) / 60000000)).val + 1)).val = (p.lon.val + 1800000000) / 60000000 + 1 := by rw [w64_val, w64_val]; omega
    rw [e2]
    omega

theorem strip_mid {z : I64} (h : 1 ≤ z.val ∧ z.val ≤ 60) : ∃ m : I64, F_impl_ZoneMiddle z = (m, c64 0) ∧ m.val = (6 * z.val - 183) * 10000000 := by
  unfold F_impl_ZoneMiddle
  have hw : F_impl_within z (c64 1) (c64 60) = true := by
    rw [sp_within, c64_v, c64_v, decide_eq_true h.1, decide_eq_true h.2]
    rfl
  rw [bindP_e, hw]
  refine ⟨_, rfl, ?_⟩
  have e1 : (w64 (6 * z.val)).val = 6 * z.val := by rw [w64_val]; omega
  have e2 : (w64 (6 * z.val - 183)).val = 6 * z.val - 183 := by rw [w64_val]; omega
  have e3 : -1770000000 ≤ (6 * z.val - 183) * 10000000 ∧ (6 * z.val - 183) * 10000000 ≤ 1770000000 := by omega
  rw [e1, e2, w64_val]
  generalize (6 * z.val - 183) * 10000000 = q at *
  omega

theorem strip_none {z : I64} (h : z.val = 61) : F_impl_ZoneMiddle z = (c64 0, c64 2) := by
  unfold F_impl_ZoneMiddle
  have hw : F_impl_within z (c64 1) (c64 60) = false := by
    rw [sp_within, c64_v, c64_v, h]
    rfl
  rw [bindP_e, hw]
  rfl

theorem strip_near {d : I64} (h : (-30000000 ≤ d.val ∧ d.val ≤ 30000000) ∨ d.val = 3570000000) : decide ((F_laws_d8Size (F_spec_WrapLon d)).val > 30000000) = false := by
  have e : F_spec_WrapLon d = F_spec_l11Wrap d := Eq.trans rfl rfl
  rw [e, ← eq_WrapLon]
  have k : -30000000 ≤ (F_impl_WrapLon d).val ∧ (F_impl_WrapLon d).val ≤ 30000000 := by
    unfold F_impl_WrapLon
    rcases h with h | h
    · have b : (imod d 3600000000).val = d.val := by
        rw [imod_val]
        by_cases hs : 0 ≤ d.val
        · rw [Int.tmod_eq_emod_of_nonneg hs]; omega
        · have : Int.tmod d.val 3600000000 = -((-d.val) % 3600000000) := by
            rw [← Int.tmod_eq_emod_of_nonneg (by omega), Int.neg_tmod, Int.neg_neg]
          rw [this]; omega
      have d1 : decide ((imod d 3600000000).val > 1800000000) = false := decide_eq_false (by rw [b]; omega)
      have d2 : decide ((imod d 3600000000).val ≤ -1800000000) = false := decide_eq_false (by rw [b]; omega)
      rw [d1, d2, cond_f, cond_f, b]
      omega
    · have b : (imod d 3600000000).val = 3570000000 := by
        rw [imod_val, h]
        rfl
      have d1 : decide ((imod d 3600000000).val > 1800000000) = true := decide_eq_true (by rw [b]; omega)
      rw [d1, cond_t, b, w64_val]
      omega
  refine decide_eq_false ?_
  unfold F_laws_d8Size
  by_cases hs : (F_impl_WrapLon d).val < 0
  · rw [decide_eq_true hs, cond_t, w64_val]
    omega
  · rw [decide_eq_false hs, cond_f]
    omega

theorem pure_FnStrips (C : Cd) : F_laws_FnStrips C = true := by
  unfold F_laws_FnStrips
  cases decide (((C.L.length : Nat) : Int) > 1048576) with
  | true => rw [cond_t]
  | false =>
    rw [cond_f, bindP_e]
    have hp := point8 C
    generalize F_spec_E8Point C = p at *
    obtain ⟨z, hz, z1, z2, z3⟩ := strip_of hp
    obtain ⟨m, hm, mv⟩ := strip_mid ⟨z1, z2⟩
    have eZ : F_impl_ZoneOf p = (z, c64 0) := by
      unfold F_impl_ZoneOf
      rw [bindP_e, eq_ValidPoint, hp, Bool.not_true, cond_f, bindP_e, hz]
    have eP : F_impl_ZoneProjection z = (⟨c64 16, c64 0, m, c64 0, c64 0⟩, c64 0) := by
      unfold F_impl_ZoneProjection
      rw [bindP_e, hm]
      rfl
    have hv : F_spec_ValidProjection ⟨c64 16, c64 0, m, c64 0, c64 0⟩ = true := zone_proj (by omega)
    have hd : (w64 (p.lon.val - m.val)).val = p.lon.val - m.val := by
      obtain ⟨_, _, h1, h2⟩ := point_val hp
      rw [w64_val]
      omega
    have hn : decide ((F_laws_d8Size (F_spec_WrapLon (w64 (p.lon.val - m.val)))).val > 30000000) = false := strip_near (by rw [hd]; omega)
    have eF : F_impl_ZoneForward p = (bif ((F_spec_TransverseForward ⟨c64 16, c64 0, m, c64 0, c64 0⟩ p).2.val != 0) then (c64 0, ⟨⟨c64 0, c64 0⟩, ⟨c64 0, c64 0⟩⟩, (F_spec_TransverseForward ⟨c64 16, c64 0, m, c64 0, c64 0⟩ p).2) else (z, (F_spec_TransverseForward ⟨c64 16, c64 0, m, c64 0, c64 0⟩ p).1, c64 0)) := by
      unfold F_impl_ZoneForward
      simp only [bindP_e, eq_ValidPoint, hp, Bool.not_true, cond_f, hz, eP, eq_TransverseForward]
    have b0 : ((c64 0).val != 0) = false := by decide
    have b1 : ((c64 0).val == 0) = true := by decide
    simp only [bindP_e, eZ, hm, eP, b0, cond_f, hn, hv, Bool.not_true, bne_self_eq_false, eF]
    generalize F_spec_TransverseForward ⟨c64 16, c64 0, m, c64 0, c64 0⟩ p = t
    have next : (bif ((F_impl_ZoneMiddle (w64 (z.val + 1))).2.val == 2) then (bif (z.val == 60) then true else (bif ((F_impl_ZoneMiddle (w64 (z.val + 1))).2.val == 0) then ((F_impl_ZoneMiddle (w64 (z.val + 1))).1.val == (w64 (m.val + 60000000)).val) else false)) else (bif ((F_impl_ZoneMiddle (w64 (z.val + 1))).2.val == 0) then ((F_impl_ZoneMiddle (w64 (z.val + 1))).1.val == (w64 (m.val + 60000000)).val) else false)) = true := by
      have ez : (w64 (z.val + 1)).val = z.val + 1 := by rw [w64_val]; omega
      by_cases h60 : z.val = 60
      · rw [strip_none (z := w64 (z.val + 1)) (by omega)]
        have b2 : ((c64 2).val == 2) = true := by decide
        have b3 : (z.val == 60) = true := by simp only [beq_iff_eq]; exact h60
        simp only [b2, b3, cond_t]
      · obtain ⟨m2, hm2, mv2⟩ := strip_mid (z := w64 (z.val + 1)) (by omega)
        rw [hm2]
        have b2 : ((c64 0).val == 2) = false := by decide
        have b4 : (m2.val == (w64 (m.val + 60000000)).val) = true := by
          simp only [beq_iff_eq]
          rw [w64_val, mv2, ez]
          omega
        simp only [b2, b1, b4, cond_t, cond_f]
    by_cases ht : t.2.val = 0
    · have c1 : (t.2.val != 0) = false := by simp [ht]
      have c2 : (t.2.val == 0) = true := by simp [ht]
      have c3 : ((c64 0).val != t.2.val) = false := by rw [ht]; decide
      simp only [c1, c3, cond_f, b1, cond_t, bne_self_eq_false, beq_self_eq_true, Bool.and_true, Bool.not_true, next]
    · have c1 : (t.2.val != 0) = true := by simp [ht]
      have c2 : (t.2.val == 0) = false := by simp [ht]
      simp only [c1, cond_t, bne_self_eq_false, cond_f, c2, next]

end Go.Proofs.YtlgbjanlofomoaaGreat.Abs
