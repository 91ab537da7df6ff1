/- Plain laws of the functions on numbers: what the program computes is what the reference computes. -/
import Derived.Test.YtcdkepbgjgcjfaaGreatReal
import Derived.Test.YtcdkepbgjgcjfaaGreatDsQzgzhzi
import Derived.Test.YtcdkepbgjgcjfaaGreatDsF3
set_option linter.unusedVariables false
set_option linter.unusedSimpArgs false
namespace Go.Proofs.YtcdkepbgjgcjfaaGreat.Abs
open Go

theorem Lat_bound {p : Pt} (h : F_spec_l11Ok p = true) : -900000000 ≤ p.lat.val ∧ p.lat.val ≤ 900000000 ∧ -1800000000 < p.lon.val ∧ p.lon.val ≤ 1800000000 := by
  unfold F_spec_l11Ok at h
  simp only [bindP_e, sp_in, c64_v] at h
  by_cases c : -900000000 ≤ p.lat.val ∧ p.lat.val ≤ 900000000
  · rw [decide_eq_true c.1, decide_eq_true c.2] at h
    simp only [Bool.and_self, cond_t, Bool.and_eq_true, decide_eq_true_eq] at h
    omega
  · exfalso
    have : (decide (-900000000 ≤ p.lat.val) && decide (p.lat.val ≤ 900000000)) = false := by
      simp only [Bool.and_eq_false_iff, decide_eq_false_iff_not]
      omega
    rw [this, cond_f] at h
    cases h

theorem tLatOf {p : Pt} (h : F_spec_l11Ok p = true) : Tr (F_spec_LatOf p) (rad p.lat.val) := by
  unfold F_spec_LatOf
  simp only [bindP_e, h, Bool.not_true, cond_f]
  exact tRadS _

theorem rad_hp {u : Int} (h1 : -900000000 ≤ u) (h2 : u ≤ 900000000) : -Rl.hp ≤ rad u ∧ rad u ≤ Rl.hp := by
  have e : rad 900000000 = Rl.hp := by rw [← Rl.kh_one, ← rad_kh]; rfl
  have e2 : rad (-900000000) = -Rl.hp := by rw [rad_neg, e]
  exact ⟨by rw [← e2]; exact rad_mono h1, by rw [← e]; exact rad_mono h2⟩

theorem cond_or (a b : Bool) : (bif a then true else b) = (a || b) := by cases a <;> rfl

/-- A place whose latitude and longitude, but for whole turns, are those of a point is at the point. -/
theorem tAtPoint {lat lon : Iv} {p : Pt} (h : F_spec_l11Ok p = true) (k : Int) (hk : -9 ≤ k ∧ k ≤ 9) (h1 : Tr lat (rad p.lat.val)) (h2 : p.lat.val = 900000000 ∨ p.lat.val = -900000000 ∨ Tr lon (rad (p.lon.val + 3600000000 * k))) : F_spec_AtPoint lat lon p = true := by
  obtain ⟨b1, b2, b3, b4⟩ := Lat_bound h
  unfold F_spec_AtPoint
  simp only [bindP_e, h, Bool.not_true, cond_f, OverlapI_tr h1 (tLatOf h)]
  by_cases hp : p.lat.val = 900000000 ∨ p.lat.val = -900000000
  · have : F_spec_l11Pole p = true := by
      unfold F_spec_l11Pole
      rw [cond_or, Bool.or_eq_true, beq_iff_eq, beq_iff_eq]
      exact hp
    rw [this, cond_t]
  · have h3 : Tr lon (rad (p.lon.val + 3600000000 * k)) := by
      rcases h2 with h2 | h2 | h2
      · exact absurd (.inl h2) hp
      · exact absurd (.inr h2) hp
      · exact h2
    have w : (w64 (p.lon.val + 3600000000 * k)).val = p.lon.val + 3600000000 * k := by rw [w64_val]; omega
    have ov : F_spec_OverlapI lon (F_spec_RadiansOf (w64 (p.lon.val + 3600000000 * k))) = true := by
      have := tRadS (w64 (p.lon.val + 3600000000 * k))
      rw [w] at this
      exact OverlapI_tr h3 this
    simp only [cond_or, Bool.or_eq_true]
    right
    have hd : k = -9 ∨ k = -8 ∨ k = -7 ∨ k = -6 ∨ k = -5 ∨ k = -4 ∨ k = -3 ∨ k = -2 ∨ k = -1 ∨ k = 0 ∨ k = 1 ∨ k = 2 ∨ k = 3 ∨ k = 4 ∨ k = 5 ∨ k = 6 ∨ k = 7 ∨ k = 8 ∨ k = 9 := by omega
    rcases hd with rfl | rfl | rfl | rfl | rfl | rfl | rfl | rfl | rfl | rfl | rfl | rfl | rfl | rfl | rfl | rfl | rfl | rfl | rfl
    · exact .inl ov
    · exact .inr (.inl ov)
    · exact .inr (.inr (.inl ov))
    · exact .inr (.inr (.inr (.inl ov)))
    · exact .inr (.inr (.inr (.inr (.inl ov))))
    · exact .inr (.inr (.inr (.inr (.inr (.inl ov)))))
    · exact .inr (.inr (.inr (.inr (.inr (.inr (.inl ov))))))
    · exact .inr (.inr (.inr (.inr (.inr (.inr (.inr (.inl ov)))))))
    · exact .inr (.inr (.inr (.inr (.inr (.inr (.inr (.inr (.inl ov))))))))
    · exact .inr (.inr (.inr (.inr (.inr (.inr (.inr (.inr (.inr (.inl ov)))))))))
    · exact .inr (.inr (.inr (.inr (.inr (.inr (.inr (.inr (.inr (.inr (.inl ov))))))))))
    · exact .inr (.inr (.inr (.inr (.inr (.inr (.inr (.inr (.inr (.inr (.inr (.inl ov)))))))))))
    · exact .inr (.inr (.inr (.inr (.inr (.inr (.inr (.inr (.inr (.inr (.inr (.inr (.inl ov))))))))))))
    · exact .inr (.inr (.inr (.inr (.inr (.inr (.inr (.inr (.inr (.inr (.inr (.inr (.inr (.inl ov)))))))))))))
    · exact .inr (.inr (.inr (.inr (.inr (.inr (.inr (.inr (.inr (.inr (.inr (.inr (.inr (.inr (.inl ov))))))))))))))
    · exact .inr (.inr (.inr (.inr (.inr (.inr (.inr (.inr (.inr (.inr (.inr (.inr (.inr (.inr (.inr (.inl ov)))))))))))))))
    · exact .inr (.inr (.inr (.inr (.inr (.inr (.inr (.inr (.inr (.inr (.inr (.inr (.inr (.inr (.inr (.inr (.inl ov))))))))))))))))
    · exact .inr (.inr (.inr (.inr (.inr (.inr (.inr (.inr (.inr (.inr (.inr (.inr (.inr (.inr (.inr (.inr (.inr (.inl ov)))))))))))))))))
    · exact .inr (.inr (.inr (.inr (.inr (.inr (.inr (.inr (.inr (.inr (.inr (.inr (.inr (.inr (.inr (.inr (.inr (.inr (.inl ov))))))))))))))))))

/-- A longitude is wrapped by a whole turn, or not at all. -/
theorem Wrap_turn (a : I64) (h : -3600000000 ≤ a.val ∧ a.val ≤ 3600000000) : ∃ k : Int, -1 ≤ k ∧ k ≤ 1 ∧ (F_spec_l11Wrap a).val = a.val + 3600000000 * k := by
  have b := wrap_in64 a
  have m : (F_spec_l11Wrap a).val % 3600000000 = a.val % 3600000000 := by
    unfold F_spec_l11Wrap
    have hm : (imod a 3600000000).val = Int.tmod a.val 3600000000 := by rw [imod_val]
    have h1 := Int.tmod_add_mul_tdiv a.val 3600000000
    generalize (imod a 3600000000) = r at *
    rw [hm.symm] at h1
    have rb : -3600000000 < r.val ∧ r.val < 3600000000 := by
      rw [hm]
      exact ⟨by have := Int.lt_tmod_of_pos a.val (by decide : (0 : Int) < 3600000000); omega, Int.tmod_lt_of_pos a.val (by decide)⟩
    generalize Int.tdiv a.val 3600000000 = t at *
    cases c1 : decide (r.val > 1800000000) with
    | true =>
      simp only [cond_t]
      cases c2 : decide ((w64 (r.val - 3600000000)).val ≤ -1800000000) with
      | true => simp only [cond_t, w64_val]; omega
      | false => simp only [cond_f, w64_val]; omega
    | false =>
      simp only [cond_f]
      cases c2 : decide (r.val ≤ -1800000000) with
      | true => simp only [cond_t, w64_val]; omega
      | false => simp only [cond_f]; omega
  generalize (F_spec_l11Wrap a).val = w at *
  exact ⟨(w - a.val) / 3600000000, by omega, by omega, by omega⟩

theorem abs_ex (x : Rl.R) : ∃ y, Rl.q 0 ≤ y ∧ (y = x ∨ y = -x) := by
  rcases Rl.le_total (Rl.q 0) x with h | h
  · exact ⟨x, h, .inl rfl⟩
  · exact ⟨-x, Rl.neg_nonneg h, .inr rfl⟩

theorem root_pos {x s : Rl.R} (hx : Rl.q 0 < x) (s0 : Rl.q 0 ≤ s) (e : s * s = x) : Rl.q 0 < s := fun k => by
  have z : s = Rl.q 0 := Rl.le_antisymm k s0
  rw [z, Rl.zero_mul] at e
  rw [← e] at hx
  exact hx (Rl.le_refl _)

theorem div_ex {x y : Rl.R} (h : Rl.q 0 < y) : ∃ z, z * y = x := by
  obtain ⟨i, hi, _⟩ := Rl.inv_ex h
  exact ⟨x * i, by rw [Rl.mul_assoc, Rl.mul_comm i, hi, Rl.mul_one]⟩

end Go.Proofs.YtcdkepbgjgcjfaaGreat.Abs
