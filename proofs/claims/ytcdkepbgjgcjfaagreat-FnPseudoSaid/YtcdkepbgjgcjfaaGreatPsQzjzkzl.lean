/- Plain laws of the functions on numbers: what the program computes is what the reference computes. -/
import Derived.Test.YtcdkepbgjgcjfaaGreatReal
import Derived.Test.YtcdkepbgjgcjfaaGreatPsQzgzhzi
import Derived.Test.YtcdkepbgjgcjfaaGreatPsFx
set_option linter.unusedVariables false
set_option linter.unusedSimpArgs false
namespace Go.Proofs.YtcdkepbgjgcjfaaGreat.Abs
open Go

/-- What is at least as great is not certainly less. -/
theorem LessI_no {a b : Iv} {x y : Rl.R} (ha : Tr a x) (hb : Tr b y) (h : y ≤ x) : ((F_spec_LessI a b).val == 1) = false := by
  unfold F_spec_LessI
  simp only [bindP_e]
  cases h1 : F_spec_l04Ok a with
  | false => simp only [Bool.not_false, cond_t, c64_v]; decide
  | true =>
    cases h2 : F_spec_l04Ok b with
    | false => simp only [Bool.not_false, Bool.not_true, cond_t, cond_f, c64_v]; decide
    | true =>
      simp only [Bool.not_true, cond_f]
      have k := Rl.fx_le.1 (Rl.le_trans (hb h2).1 (Rl.le_trans h (ha h1).2))
      rw [decide_eq_false (show ¬ a.hi.val < b.lo.val by omega), cond_f]
      cases decide (a.lo.val ≥ b.hi.val) <;> simp only [cond_t, cond_f, c64_v] <;> decide

theorem tPiS : Tr F_spec_PiI Rl.pi := by
  have e4 : F_spec_TurnI (c64 2) = F_spec_PiI := by
    unfold F_spec_TurnI F_spec_PiI
    have : F_spec_l00In (c64 2) (c64 (-4096)) (c64 4096) = true := by decide
    simp only [bindP_e, this, Bool.not_true, cond_f]
  have := tTurnS (c64 2)
  rw [c64_v, e4, ← Rl.pi_kh] at this
  exact this

theorem tInt (n : I64) (k : Rat) (h : (n.val : Rat) = k) : Tr (F_spec_Integer n) (Rl.q k) := by
  have := tIntegerS n
  rwa [h] at this

theorem tTwoS : Tr (F_spec_Integer (c64 2)) (Rl.q 2) := tInt _ 2 (by rw [c64_v]; decide)

theorem Lat_bound {p : Pt} (h : F_spec_l11Ok p = true) : -900000000 ≤ p.lat.val ∧ p.lat.val ≤ 900000000 ∧ -1800000000 < p.lon.val ∧ p.lon.val ≤ 1800000000 := by
  unfold F_spec_l11Ok at h
  simp only [bindP_e, sp_in, c64_v] at h
  by_cases c : -900000000 ≤ p.lat.val ∧ p.lat.val ≤ 900000000
  · rw [decide_eq_true c.1, decide_eq_true c.2] at h
    simp only [Bool.and_self, cond_t, Bool.and_eq_true, decide_eq_true_eq] at h
    omega
  · exfalso
    have : (decide (-900000000 ≤ p.lat.val) && decide (p.lat.val ≤ 900000000)) = false := by
      simp only [Bool.and_eq_false_iff, decide_eq_false_iff_not]
      omega
    rw [this, cond_f] at h
    cases h

theorem tLatOf {p : Pt} (h : F_spec_l11Ok p = true) : Tr (F_spec_LatOf p) (rad p.lat.val) := by
  unfold F_spec_LatOf
  simp only [bindP_e, h, Bool.not_true, cond_f]
  exact tRadS _

theorem rad_hp {u : Int} (h1 : -900000000 ≤ u) (h2 : u ≤ 900000000) : -Rl.hp ≤ rad u ∧ rad u ≤ Rl.hp := by
  have e : rad 900000000 = Rl.hp := by rw [← Rl.kh_one, ← rad_kh]; rfl
  have e2 : rad (-900000000) = -Rl.hp := by rw [rad_neg, e]
  exact ⟨by rw [← e2]; exact rad_mono h1, by rw [← e]; exact rad_mono h2⟩

theorem cond_or (a b : Bool) : (bif a then true else b) = (a || b) := by cases a <;> rfl

/-- A place whose latitude and longitude, but for whole turns, are those of a point is at the point. -/
theorem tAtPoint {lat lon : Iv} {p : Pt} (h : F_spec_l11Ok p = true) (k : Int) (hk : -9 ≤ k ∧ k ≤ 9) (h1 : Tr lat (rad p.lat.val)) (h2 : p.lat.val = 900000000 ∨ p.lat.val = -900000000 ∨ Tr lon (rad (p.lon.val + 3600000000 * k))) : F_spec_AtPoint lat lon p = true := by
  obtain ⟨b1, b2, b3, b4⟩ := Lat_bound h
  unfold F_spec_AtPoint
  simp only [bindP_e, h, Bool.not_true, cond_f, OverlapI_tr h1 (tLatOf h)]
  by_cases hp : p.lat.val = 900000000 ∨ p.lat.val = -900000000
  · have : F_spec_l11Pole p = true := by
      unfold F_spec_l11Pole
      rw [cond_or, Bool.or_eq_true, beq_iff_eq, beq_iff_eq]
      exact hp
    rw [this, cond_t]
  · have h3 : Tr lon (rad (p.lon.val + 3600000000 * k)) := by
      rcases h2 with h2 | h2 | h2
      · exact absurd (.inl h2) hp
      · exact absurd (.inr h2) hp
      · exact h2
    have w : (w64 (p.lon.val + 3600000000 * k)).val = p.lon.val + 3600000000 * k := by rw [w64_val]; omega
    have ov : F_spec_OverlapI lon (F_spec_RadiansOf (w64 (p.lon.val + 3600000000 * k))) = true := by
      have := tRadS (w64 (p.lon.val + 3600000000 * k))
      rw [w] at this
      exact OverlapI_tr h3 this
    simp only [cond_or, Bool.or_eq_true]
    right
    have hd : k = -9 ∨ k = -8 ∨ k = -7 ∨ k = -6 ∨ k = -5 ∨ k = -4 ∨ k = -3 ∨ k = -2 ∨ k = -1 ∨ k = 0 ∨ k = 1 ∨ k = 2 ∨ k = 3 ∨ k = 4 ∨ k = 5 ∨ k = 6 ∨ k = 7 ∨ k = 8 ∨ k = 9 := by omega
    rcases hd with rfl | rfl | rfl | rfl | rfl | rfl | rfl | rfl | rfl | rfl | rfl | rfl | rfl | rfl | rfl | rfl | rfl | rfl | rfl
    · exact .inl ov
    · exact .inr (.inl ov)
    · exact .inr (.inr (.inl ov))
    · exact .inr (.inr (.inr (.inl ov)))
    · exact .inr (.inr (.inr (.inr (.inl ov))))
    · exact .inr (.inr (.inr (.inr (.inr (.inl ov)))))
    · exact .inr (.inr (.inr (.inr (.inr (.inr (.inl ov))))))
    · exact .inr (.inr (.inr (.inr (.inr (.inr (.inr (.inl ov)))))))
    · exact .inr (.inr (.inr (.inr (.inr (.inr (.inr (.inr (.inl ov))))))))
    · exact .inr (.inr (.inr (.inr (.inr (.inr (.inr (.inr (.inr (.inl ov)))))))))
    · exact .inr (.inr (.inr (.inr (.inr (.inr (.inr (.inr (.inr (.inr (.inl ov))))))))))
    · exact .inr (.inr (.inr (.inr (.inr (.inr (.inr (.inr (.inr (.inr (.inr (.inl ov)))))))))))
    · exact .inr (.inr (.inr (.inr (.inr (.inr (.inr (.inr (.inr (.inr (.inr (.inr (.inl ov))))))))))))
    · exact .inr (.inr (.inr (.inr (.inr (.inr (.inr (.inr (.inr (.inr (.inr (.inr (.inr (.inl ov)))))))))))))
    · exact .inr (.inr (.inr (.inr (.inr (.inr (.inr (.inr (.inr (.inr (.inr (.inr (.inr (.inr (.inl ov))))))))))))))
    · exact .inr (.inr (.inr (.inr (.inr (.inr (.inr (.inr (.inr (.inr (.inr (.inr (.inr (.inr (.inr (.inl ov)))))))))))))))
    · exact .inr (.inr (.inr (.inr (.inr (.inr (.inr (.inr (.inr (.inr (.inr (.inr (.inr (.inr (.inr (.inr (.inl ov))))))))))))))))
    · exact .inr (.inr (.inr (.inr (.inr (.inr (.inr (.inr (.inr (.inr (.inr (.inr (.inr (.inr (.inr (.inr (.inr (.inl ov)))))))))))))))))
    · exact .inr (.inr (.inr (.inr (.inr (.inr (.inr (.inr (.inr (.inr (.inr (.inr (.inr (.inr (.inr (.inr (.inr (.inr (.inl ov))))))))))))))))))

/-- A longitude is wrapped by a whole turn, or not at all. -/
theorem Wrap_turn (a : I64) (h : -3600000000 ≤ a.val ∧ a.val ≤ 3600000000) : ∃ k : Int, -1 ≤ k ∧ k ≤ 1 ∧ (F_spec_l11Wrap a).val = a.val + 3600000000 * k := by
  have b := wrap_in64 a
  have m : (F_spec_l11Wrap a).val % 3600000000 = a.val % 3600000000 := by
    unfold F_spec_l11Wrap
    have hm : (imod a 3600000000).val = Int.tmod a.val 3600000000 := by rw [imod_val]
    have h1 := Int.tmod_add_mul_tdiv a.val 3600000000
    generalize (imod a 3600000000) = r at *
    rw [hm.symm] at h1
    have rb : -3600000000 < r.val ∧ r.val < 3600000000 := by
      rw [hm]
      exact ⟨by have := Int.lt_tmod_of_pos a.val (by decide : (0 : Int) < 3600000000); omega, Int.tmod_lt_of_pos a.val (by decide)⟩
    generalize Int.tdiv a.val 3600000000 = t at *
    cases c1 : decide (r.val > 1800000000) with
    | true =>
      simp only [cond_t]
      cases c2 : decide ((w64 (r.val - 3600000000)).val ≤ -1800000000) with
      | true => simp only [cond_t, w64_val]; omega
      | false => simp only [cond_f, w64_val]; omega
    | false =>
      simp only [cond_f]
      cases c2 : decide (r.val ≤ -1800000000) with
      | true => simp only [cond_t, w64_val]; omega
      | false => simp only [cond_f]; omega
  generalize (F_spec_l11Wrap a).val = w at *
  exact ⟨(w - a.val) / 3600000000, by omega, by omega, by omega⟩

theorem Asin_ok {a : Iv} (h : (F_spec_MeetI a F_spec_l06Ring).2 = true) : F_spec_l04Ok (F_spec_AsinI a) = true := by
  have quarter : F_spec_l07Quarter = ⟨c64 (-6746518853), c64 6746518853⟩ := by rw [← eq_halfCircle]; exact iv_eq (IK.eq (by decide)) (IK.eq (by decide))
  have meet : ∀ x y : Iv, F_spec_l04Ok y = true → -4294967296000 ≤ y.lo.val → y.hi.val ≤ 4294967296000 → (F_spec_MeetI x y).2 = true → F_spec_l04Ok (F_spec_MeetI x y).1 = true ∧ y.lo.val ≤ (F_spec_MeetI x y).1.lo.val ∧ (F_spec_MeetI x y).1.hi.val ≤ y.hi.val := by
    intro x y o b1 b2 m1
    unfold F_spec_MeetI at m1 ⊢
    simp only [bindP_e, o, Bool.not_true, cond_f] at m1 ⊢
    cases ho : F_spec_l04Ok x with
    | false => simp only [Bool.not_false, cond_t]; exact ⟨o, Int.le_refl _, Int.le_refl _⟩
    | true =>
      rw [ho] at m1
      simp only [Bool.not_true, cond_f] at m1 ⊢
      by_cases c : (F_spec_l00Max x.lo y.lo).val > (F_spec_l00Min x.hi y.hi).val
      · rw [decide_eq_true c, cond_t] at m1; cases m1
      · rw [decide_eq_false c, cond_f]
        have x1 := max_out x.lo y.lo
        have x2 := min_out x.hi y.hi
        have p := Ok4p o
        simp only []
        generalize F_spec_l00Max x.lo y.lo = p at *
        generalize F_spec_l00Min x.hi y.hi = r at *
        refine ⟨Ok4_of ?_, by omega, by omega⟩
        show -1152921504606846976 < p.val ∧ p.val ≤ r.val ∧ r.val < 1152921504606846976
        omega
  have at_ok : ∀ n : I64, -4294967296 ≤ n.val → n.val ≤ 4294967296 → F_spec_l04Ok (F_spec_AsinAt n) = true ∧ -6746518853 ≤ (F_spec_AsinAt n).lo.val ∧ (F_spec_AsinAt n).hi.val ≤ 6746518853 := by
    intro n h1 h2
    unfold F_spec_AsinAt
    have hi : F_spec_l00In n (c64 (-4294967296)) (c64 4294967296) = true := by
      rw [sp_in]
      simp only [Bool.and_eq_true, decide_eq_true_eq, c64_v]
      omega
    simp only [bindP_e, hi, Bool.not_true, cond_f]
    generalize F_spec_DoubleI (F_spec_AtanI (F_spec_DivI (F_spec_l05At n) (F_spec_AddI (F_spec_Integer (c64 1)) (F_spec_CircleAt n)))) = z
    rw [quarter]
    cases hm : (F_spec_MeetI z (⟨c64 (-6746518853), c64 6746518853⟩ : Iv)).2 with
    | true =>
      have := meet z ⟨c64 (-6746518853), c64 6746518853⟩ (by decide) (by decide) (by decide) hm
      rw [c64_v, c64_v] at this
      exact this
    | false =>
      have : (F_spec_MeetI z (⟨c64 (-6746518853), c64 6746518853⟩ : Iv)).1 = ⟨c64 0, c64 0⟩ := by
        unfold F_spec_MeetI at hm ⊢
        have o : F_spec_l04Ok (⟨c64 (-6746518853), c64 6746518853⟩ : Iv) = true := by decide
        simp only [bindP_e, o, Bool.not_true, cond_f] at hm ⊢
        cases ho : F_spec_l04Ok z with
        | false => rw [ho] at hm; simp only [Bool.not_false, cond_t] at hm; cases hm
        | true =>
          rw [ho] at hm
          simp only [Bool.not_true, cond_f] at hm ⊢
          generalize decide ((F_spec_l00Max z.lo (c64 (-6746518853))).val > (F_spec_l00Min z.hi (c64 6746518853)).val) = d at *
          cases d with
          | true => rfl
          | false => rw [cond_f] at hm; cases hm
      rw [this]
      decide
  unfold F_spec_AsinI
  simp only [bindP_e, h, Bool.not_true, cond_f]
  obtain ⟨m1, m2, m3⟩ := meet a F_spec_l06Ring (by decide) (by decide) (by decide) h
  have r1 : F_spec_l06Ring.lo.val = -4294967296 := by decide
  have r2 : F_spec_l06Ring.hi.val = 4294967296 := by decide
  have po := Ok4p m1
  generalize (F_spec_MeetI a F_spec_l06Ring).1 = y at *
  obtain ⟨a1, a2, a3⟩ := at_ok y.lo (by omega) (by omega)
  obtain ⟨b1, b2, b3⟩ := at_ok y.hi (by omega) (by omega)
  unfold F_spec_HullI
  simp only [bindP_e, a1, b1, Bool.not_true, cond_f]
  have pa := Ok4p a1
  have pb := Ok4p b1
  have x1 := min_is (F_spec_AsinAt y.lo).lo (F_spec_AsinAt y.hi).lo
  have x2 := max_is (F_spec_AsinAt y.lo).hi (F_spec_AsinAt y.hi).hi
  have y1 := min_out (F_spec_AsinAt y.lo).lo (F_spec_AsinAt y.hi).lo
  have y2 := max_out (F_spec_AsinAt y.lo).hi (F_spec_AsinAt y.hi).hi
  rw [Make_ok (by omega)]
  exact Ok4_of (by show -1152921504606846976 < (F_spec_l00Min (F_spec_AsinAt y.lo).lo (F_spec_AsinAt y.hi).lo).val ∧ (F_spec_l00Min (F_spec_AsinAt y.lo).lo (F_spec_AsinAt y.hi).lo).val ≤ (F_spec_l00Max (F_spec_AsinAt y.lo).hi (F_spec_AsinAt y.hi).hi).val ∧ (F_spec_l00Max (F_spec_AsinAt y.lo).hi (F_spec_AsinAt y.hi).hi).val < 1152921504606846976
                   omega)

/-- Bounded, or the very enclosure that says nothing. -/
def Gd (z : Iv) : Prop := F_spec_l04Ok z = true ∨ z = F_spec_l04Whole

theorem Gd.whole : Gd F_spec_l04Whole := .inr rfl

theorem Gd.cond (b : Bool) {x y : Iv} (hx : Gd x) (hy : Gd y) : Gd (bif b then x else y) := by cases b <;> assumption

theorem Gd.make (a b : I64) : Gd (F_spec_l04Make a b) := by
  by_cases c : -1152921504606846976 < a.val ∧ a.val ≤ b.val ∧ b.val < 1152921504606846976
  · rw [Make_ok c]; exact .inl (Ok4_of c)
  · exact .inr (Make_bad c)

theorem Gd.bad {z : Iv} (h : Gd z) (k : F_spec_l04Ok z = false) : z = F_spec_l04Whole := by
  rcases h with h | h
  · rw [h] at k; cases k
  · exact h

theorem Add_gd (a b : Iv) : Gd (F_spec_AddI a b) := by
  unfold F_spec_AddI
  simp only [bindP_e]
  repeat' first | with_reducible exact Gd.make _ _ | with_reducible exact Gd.whole | with_reducible apply Gd.cond

theorem Add_bad {a b : Iv} (h : F_spec_l04Ok (F_spec_AddI a b) = false) : F_spec_AddI a b = F_spec_l04Whole := (Add_gd a b).bad h

theorem Mul_gd (a b : Iv) : Gd (F_spec_MulI a b) := by
  unfold F_spec_MulI
  simp only [bindP_e]
  repeat' first | with_reducible exact Gd.make _ _ | with_reducible exact Gd.whole | with_reducible apply Gd.cond

theorem Mul_bad {a b : Iv} (h : F_spec_l04Ok (F_spec_MulI a b) = false) : F_spec_MulI a b = F_spec_l04Whole := (Mul_gd a b).bad h

theorem Left_tr (k n : I64) (hn : 0 ≤ n.val ∧ n.val ≤ 6746518853) : Tr (F_spec_l20Left k n) (Rl.gp (k.val == 14) (Rl.fx n.val)) := by
  unfold F_spec_l20Left
  simp only [bindP_e]
  have w : (w64 (2 * n.val)).val = n.val + n.val := by rw [w64_val]; omega
  cases (k.val == 14) with
  | true =>
    rw [cond_t]
    have := tAddS (tAtS (w64 (2 * n.val))) (tSinS (tAtS (w64 (2 * n.val))))
    rw [w, Rl.fx_add] at this
    exact this
  | false =>
    rw [cond_f]
    exact tAddS (tAtS n) (tSinS (tAtS n))

theorem Left_form (k n : I64) : F_spec_l04Ok (F_spec_l20Left k n) = true ∨ ((F_spec_l20Left k n).lo.val = -1152921504606846976 ∧ (F_spec_l20Left k n).hi.val = 1152921504606846976) := by
  cases h : F_spec_l04Ok (F_spec_l20Left k n) with
  | true => exact .inl rfl
  | false =>
    right
    have e : F_spec_l20Left k n = F_spec_l04Whole := by
      unfold F_spec_l20Left at h ⊢
      simp only [bindP_e] at h ⊢
      cases hk : (k.val == 14) with
      | true => rw [hk, cond_t] at h; rw [cond_t]; exact Add_bad h
      | false => rw [hk, cond_f] at h; rw [cond_f]; exact Add_bad h
    rw [e]
    exact ⟨by decide, by decide⟩

theorem solve1_tr (k n from_ : I64) (hn : 0 ≤ n.val) (t : Rl.R) : ∀ (fu : Nat) (lo hi : I64), 0 ≤ lo.val → lo.val ≤ hi.val → hi.val ≤ 6746518853 → (hi.val - lo.val).toNat < fu →
    (F_spec_l20Solve_L1 fu k n from_ lo hi).lo = from_ ∧ 0 ≤ (F_spec_l20Solve_L1 fu k n from_ lo hi).hi.val ∧ (t ≤ Rl.fx hi.val → Rl.gp (k.val == 14) t ≤ Rl.fx n.val → t ≤ Rl.fx (F_spec_l20Solve_L1 fu k n from_ lo hi).hi.val) := by
  intro fu
  induction fu with
  | zero => intro lo hi _ _ _ h; exact absurd h (Nat.not_lt_zero _)
  | succ fu ih =>
    intro lo hi h0 h1 h2 h3
    unfold F_spec_l20Solve_L1
    have w : (w64 (hi.val - lo.val)).val = hi.val - lo.val := by rw [w64_val]; omega
    by_cases c : (w64 (hi.val - lo.val)).val > 1
    · rw [decide_eq_true c, cond_t, bindP_e]
      have ws : (w64 (lo.val + hi.val)).val = lo.val + hi.val := by rw [w64_val]; omega
      have m : (ishr (w64 (lo.val + hi.val)) 1).val = (lo.val + hi.val) / 2 := by rw [shr1_val, ws]
      generalize ishr (w64 (lo.val + hi.val)) 1 = mid at *
      have lf := Left_form k mid
      have lt := Left_tr k mid (by omega)
      generalize F_spec_l20Left k mid = L at *
      by_cases d : L.lo.val > n.val
      · rw [decide_eq_true d, cond_t]
        obtain ⟨a, b, e⟩ := ih lo mid h0 (by omega) (by omega) (by omega)
        refine ⟨a, b, fun k1 k2 => e ?_ k2⟩
        rcases lf with lf | lf
        · refine Classical.byContradiction fun g => ?_
          have g1 := Rl.gp_mono (k.val == 14) (Rl.le_of_lt (Rl.not_le.1 g))
          have g2 := Rl.le_trans (lt lf).1 (Rl.le_trans g1 k2)
          have := Rl.fx_le.1 g2
          omega
        · omega
      · rw [decide_eq_false d, cond_f]
        exact ih mid hi (by omega) (by omega) h2 (by omega)
    · rw [decide_eq_false c, cond_f]
      exact ⟨rfl, (show 0 ≤ hi.val by omega), fun k1 _ => k1⟩

theorem solve0_tr (k n : I64) (hn : 0 ≤ n.val) (hm : n.val ≤ 1152921504606846976) (r : Iv) (hr : r.hi.val = 6746518853) (t : Rl.R) (t2 : t ≤ Rl.fx 6746518853) : ∀ (fu : Nat) (lo hi : I64), 0 ≤ lo.val → lo.val ≤ hi.val → hi.val ≤ 6746518853 → (hi.val - lo.val).toNat < fu →
    (Rl.fx n.val ≤ Rl.gp (k.val == 14) t → Rl.fx lo.val ≤ t) →
    (Rl.fx n.val ≤ Rl.gp (k.val == 14) t → Rl.fx (F_spec_l20Solve_L0 fu k n r lo hi).lo.val ≤ t) ∧ 0 ≤ (F_spec_l20Solve_L0 fu k n r lo hi).hi.val ∧ (Rl.gp (k.val == 14) t ≤ Rl.fx n.val → t ≤ Rl.fx (F_spec_l20Solve_L0 fu k n r lo hi).hi.val) := by
  intro fu
  induction fu with
  | zero => intro lo hi _ _ _ h; exact absurd h (Nat.not_lt_zero _)
  | succ fu ih =>
    intro lo hi h0 h1 h2 h3 inv
    unfold F_spec_l20Solve_L0
    have w : (w64 (hi.val - lo.val)).val = hi.val - lo.val := by rw [w64_val]; omega
    by_cases c : (w64 (hi.val - lo.val)).val > 1
    · rw [decide_eq_true c, cond_t, bindP_e]
      have ws : (w64 (lo.val + hi.val)).val = lo.val + hi.val := by rw [w64_val]; omega
      have m : (ishr (w64 (lo.val + hi.val)) 1).val = (lo.val + hi.val) / 2 := by rw [shr1_val, ws]
      generalize ishr (w64 (lo.val + hi.val)) 1 = mid at *
      have lf := Left_form k mid
      have lt := Left_tr k mid (by omega)
      generalize F_spec_l20Left k mid = L at *
      by_cases d : L.hi.val < n.val
      · rw [decide_eq_true d, cond_t]
        refine ih mid hi (by omega) (by omega) h2 (by omega) fun k2 => ?_
        rcases lf with lf | lf
        · refine Classical.byContradiction fun g => ?_
          have g1 := Rl.gp_mono (k.val == 14) (Rl.le_of_lt (Rl.not_le.1 g))
          have g2 := Rl.le_trans k2 (Rl.le_trans g1 (lt lf).2)
          have := Rl.fx_le.1 g2
          omega
        · omega
      · rw [decide_eq_false d, cond_f]
        exact ih lo mid h0 (by omega) (by omega) (by omega) inv
    · rw [decide_eq_false c, cond_f]
      obtain ⟨a, b, e⟩ := solve1_tr k n lo hn t ((r.hi.val - lo.val).toNat + 1) lo r.hi h0 (by omega) (by omega) (by omega)
      refine ⟨fun k2 => by rw [a]; exact inv k2, b, fun k2 => e (by rw [hr]; exact t2) k2⟩

theorem Turn1_hi : (F_spec_l05Turn (c64 1)).hi.val = 6746518853 := by rw [← quarter_hi]; decide

theorem hp_end : Rl.hp ≤ Rl.fx 6746518853 := by
  obtain ⟨z, e1, e2, e3, _⟩ := Turn_in (c64 1) (by decide)
  have e4 : F_spec_TurnI (c64 1) = F_spec_l05Turn (c64 1) := by
    unfold F_spec_TurnI
    have : F_spec_l00In (c64 1) (c64 (-4096)) (c64 4096) = true := by decide
    simp only [bindP_e, this, Bool.not_true, cond_f]
  have := e3.2
  rwa [c64_v, Rl.kh_one, ← e1, e4, Turn1_hi] at this

theorem solve_tr (k n : I64) (hn : 0 ≤ n.val) (hm : n.val ≤ 1152921504606846976) (t : Rl.R) (t1 : Rl.q 0 ≤ t) (t2 : t ≤ Rl.hp) :
    (Rl.fx n.val ≤ Rl.gp (k.val == 14) t → Rl.fx (F_spec_l20Solve k n).lo.val ≤ t) ∧ 0 ≤ (F_spec_l20Solve k n).hi.val ∧ (Rl.gp (k.val == 14) t ≤ Rl.fx n.val → t ≤ Rl.fx (F_spec_l20Solve k n).hi.val) := by
  unfold F_spec_l20Solve
  simp only [bindP_e]
  have z : (c64 0).val = 0 := c64_v 0 _
  refine solve0_tr k n hn hm _ Turn1_hi t (Rl.le_trans t2 hp_end) _ (c64 0) _ (by omega) (by rw [Turn1_hi, z]; decide) (by rw [Turn1_hi]; decide) (by rw [Turn1_hi, z]; decide) fun _ => by rw [z, Rl.fx_zero]; exact t1

theorem neg_le_swap {x y : Rl.R} (h : -x ≤ y) : -y ≤ x := by have := Rl.neg_le_neg h; rwa [Rl.neg_neg] at this

theorem At_tr (k n : I64) (t : Rl.R) (t1 : -Rl.hp ≤ t) (t2 : t ≤ Rl.hp) (ho : F_spec_l04Ok (F_spec_l20At k n) = true) :
    (Rl.fx n.val ≤ Rl.gp (k.val == 14) t → Rl.fx (F_spec_l20At k n).lo.val ≤ t) ∧ (Rl.gp (k.val == 14) t ≤ Rl.fx n.val → t ≤ Rl.fx (F_spec_l20At k n).hi.val) := by
  unfold F_spec_l20At at ho ⊢
  have Q := Quarter_tr t1 t2 (by rw [← eq_halfCircle]; decide)
  by_cases h1 : n.val < -1152921504606846976
  · rw [decide_eq_true h1, cond_t, bindP_e]; exact ⟨fun _ => Q.1, fun _ => Q.2⟩
  · rw [decide_eq_false h1, cond_f] at ho ⊢
    by_cases h2 : n.val > 1152921504606846976
    · rw [decide_eq_true h2, cond_t, bindP_e]; exact ⟨fun _ => Q.1, fun _ => Q.2⟩
    · rw [decide_eq_false h2, cond_f] at ho ⊢
      by_cases h3 : n.val < 0
      · rw [decide_eq_true h3, cond_t, bindP_e] at ho ⊢
        rw [bindP_e] at ho ⊢
        have w : (w64 (0 - n.val)).val = -n.val := by rw [w64_val]; omega
        have hz : F_spec_l04Ok (F_spec_l20Solve k (w64 (0 - n.val))) = true := by
          cases hz : F_spec_l04Ok (F_spec_l20Solve k (w64 (0 - n.val))) with
          | true => rfl
          | false =>
            unfold F_spec_NegI at ho
            simp only [bindP_e, hz, Bool.not_false, cond_t] at ho
            exact absurd ho (by decide)
        have S := fun a b => solve_tr k (w64 (0 - n.val)) (by omega) (by omega) (-t) a b
        have H := (solve_tr k (w64 (0 - n.val)) (by omega) (by omega) (Rl.q 0) (Rl.le_refl _) (Rl.le_of_lt Rl.hp_pos)).2.1
        rw [w, Rl.fx_neg, Rl.gp_neg] at S
        generalize F_spec_l20Solve k (w64 (0 - n.val)) = z at *
        have v : (F_spec_NegI z).lo.val = -z.hi.val ∧ (F_spec_NegI z).hi.val = -z.lo.val := by
          have p := Ok4p hz
          unfold F_spec_NegI at ho ⊢
          simp only [bindP_e, hz, Bool.not_true, cond_f] at ho ⊢
          rw [Make_out ho]
          exact ⟨by show (w64 (0 - z.hi.val)).val = _; rw [w64_val]; omega, by show (w64 (0 - z.lo.val)).val = _; rw [w64_val]; omega⟩
        rw [v.1, v.2, Rl.fx_neg, Rl.fx_neg]
        have fn : Rl.fx n.val < Rl.q 0 := by rw [← Rl.fx_zero]; exact fun k => absurd (Rl.fx_le.1 k) (by omega)
        have zh : Rl.q 0 ≤ Rl.fx z.hi.val := by rw [← Rl.fx_zero]; exact Rl.fx_le.2 H
        rcases Rl.lt_total (Rl.q 0) t with tp | tp
        · have gpos := Rl.gp_pos (k.val == 14) tp t2
          exact ⟨fun _ => Rl.le_trans (Rl.neg_nonpos zh) (Rl.le_of_lt tp), fun k2 => absurd (Rl.le_trans (Rl.le_of_lt gpos) k2) fn⟩
        · obtain ⟨s1, _, s2⟩ := S (Rl.neg_nonneg tp) (neg_le_swap t1)
          exact ⟨fun k2 => neg_le_swap (s2 (Rl.neg_le_neg k2)), fun k2 => by have := Rl.neg_le_neg (s1 (Rl.neg_le_neg k2)); rwa [Rl.neg_neg] at this⟩
      · rw [decide_eq_false h3, cond_f, bindP_e] at ho ⊢
        have H := (solve_tr k n (by omega) (by omega) (Rl.q 0) (Rl.le_refl _) (Rl.le_of_lt Rl.hp_pos)).2.1
        have S := solve_tr k n (by omega) (by omega) t
        generalize F_spec_l20Solve k n = z at *
        have zh : Rl.q 0 ≤ Rl.fx z.hi.val := by rw [← Rl.fx_zero]; exact Rl.fx_le.2 H
        have fn : Rl.q 0 ≤ Rl.fx n.val := by rw [← Rl.fx_zero]; exact Rl.fx_le.2 (by omega)
        rcases Rl.lt_total t (Rl.q 0) with tp | tp
        · have tn : Rl.q 0 < -t := by
            have := Rl.neg_lt tp
            rwa [← Rl.q_neg, show -(0 : Rat) = 0 from by decide] at this
          have gpos := Rl.gp_pos (k.val == 14) tn (neg_le_swap t1)
          rw [Rl.gp_neg] at gpos
          refine ⟨fun k2 => absurd (Rl.neg_nonpos (Rl.le_trans fn k2)) gpos, fun _ => Rl.le_trans (Rl.le_of_lt tp) zh⟩
        · obtain ⟨s1, _, s2⟩ := S tp t2
          exact ⟨s1, s2⟩

/-- The parameter for a latitude's sine. -/
theorem Theta_tr {k : I64} {L : Iv} {l t : Rl.R} (hk : k.val = 14 ∨ k.val = 15) (hL : Tr L l) (t1 : -Rl.hp ≤ t) (t2 : t ≤ Rl.hp) (e : Rl.gp (k.val == 14) t = Rl.gpR (k.val == 14) * Rl.sn l) : Tr (F_spec_ThetaOf k L) t := by
  have R : Tr (F_spec_l20Right k) (Rl.gpR (k.val == 14)) := by
    unfold F_spec_l20Right
    simp only [bindP_e]
    cases (k.val == 14) with
    | true => rw [cond_t]; exact tPiS
    | false =>
      rw [cond_f]
      have := tAddS tOneS (tTurnS (c64 1))
      rwa [c64_v, Rl.kh_one] at this
  have Y := tMulS R (tSinS hL)
  rw [← e] at Y
  have yb : Rl.fx (F_spec_MulI (F_spec_l20Right k) (F_spec_SinI L)).lo.val ≤ Rl.gp (k.val == 14) t ∧ Rl.gp (k.val == 14) t ≤ Rl.fx (F_spec_MulI (F_spec_l20Right k) (F_spec_SinI L)).hi.val := by
    cases ho : F_spec_l04Ok (F_spec_MulI (F_spec_l20Right k) (F_spec_SinI L)) with
    | true => exact Y ho
    | false =>
      have eW : F_spec_MulI (F_spec_l20Right k) (F_spec_SinI L) = F_spec_l04Whole := Mul_bad ho
      rw [eW]
      have b1 := Rl.gp_mono (k.val == 14) t1
      have b2 := Rl.gp_mono (k.val == 14) t2
      rw [Rl.gp_neg, Rl.gp_hp] at b1
      rw [Rl.gp_hp] at b2
      have b3 : Rl.gpR (k.val == 14) ≤ Rl.q 4 := by
        cases (k.val == 14) with
        | true =>
          show Rl.hp + Rl.hp ≤ _
          refine Rl.le_trans (Rl.add_le_add Rl.hp_2 Rl.hp_2) ?_
          rw [← Rl.q_add]; exact Rl.q_le.2 (by decide +kernel)
        | false =>
          show Rl.q 1 + Rl.hp ≤ _
          refine Rl.le_trans (Rl.add_le_add (Rl.le_refl _) Rl.hp_2) ?_
          rw [← Rl.q_add]; exact Rl.q_le.2 (by decide +kernel)
      constructor
      · refine Rl.le_trans ?_ b1
        refine Rl.le_trans ?_ (Rl.neg_le_neg b3)
        rw [← Rl.q_neg]
        exact Rl.q_le.2 (by decide +kernel)
      · refine Rl.le_trans b2 (Rl.le_trans b3 ?_)
        exact Rl.q_le.2 (by decide +kernel)
  have main : Tr (F_spec_HullI (F_spec_l20At k (F_spec_MulI (F_spec_l20Right k) (F_spec_SinI L)).lo) (F_spec_l20At k (F_spec_MulI (F_spec_l20Right k) (F_spec_SinI L)).hi)) t := fun h => by
    obtain ⟨k1, k2, k3, k4, k5, k6⟩ := HullI_out h
    have A := (At_tr k _ t t1 t2 k1).1 yb.1
    have B := (At_tr k _ t t1 t2 k2).2 yb.2
    exact ⟨Rl.le_trans (Rl.fx_le.2 k3) A, Rl.le_trans B (Rl.fx_le.2 k6)⟩
  unfold F_spec_ThetaOf
  simp only [bindP_e]
  rcases hk with hk | hk
  · have d1 : (k.val == 13) = false := by rw [hk]; decide
    have d2 : (k.val == 14) = true := by rw [hk]; decide
    simp only [d1, d2, cond_f, cond_t]
    exact main
  · have d1 : (k.val == 13) = false := by rw [hk]; decide
    have d2 : (k.val == 14) = false := by rw [hk]; decide
    have d3 : (k.val == 15) = true := by rw [hk]; decide
    simp only [d1, d2, d3, cond_f, cond_t]
    exact main

theorem abs_ex (x : Rl.R) : ∃ y, Rl.q 0 ≤ y ∧ (y = x ∨ y = -x) := by
  rcases Rl.le_total (Rl.q 0) x with h | h
  · exact ⟨x, h, .inl rfl⟩
  · exact ⟨-x, Rl.neg_nonneg h, .inr rfl⟩

theorem abs_le {x y b : Rl.R} (h : y = x ∨ y = -x) (h1 : x ≤ b) (h2 : -b ≤ x) : y ≤ b := by
  rcases h with h | h
  · rw [h]; exact h1
  · rw [h]; exact neg_le_swap h2

theorem Asin_known {a : Iv} {t : Rl.R} (ha : Tr a (Rl.sn t)) : F_spec_l04Ok (F_spec_AsinI a) = true := Asin_ok (MeetI_tr ha (tRing (Rl.sn_le t))).1

theorem root_two : ∃ s, Rl.q 0 < s ∧ s * s = Rl.q 2 := by
  obtain ⟨s, s0, e⟩ := Rl.sqrt_ex (x := Rl.q 2) (Rl.q_le.2 (by decide))
  refine ⟨s, ?_, e⟩
  refine Rl.lt_of_le_of_lt (Rl.le_refl _) fun k => ?_
  have z : s = Rl.q 0 := Rl.le_antisymm k s0
  rw [z, Rl.zero_mul] at e
  exact absurd (Rl.q_le.1 (show Rl.q 2 ≤ Rl.q 0 by rw [e]; exact Rl.le_refl _)) (by decide)

theorem root_pos {x s : Rl.R} (hx : Rl.q 0 < x) (s0 : Rl.q 0 ≤ s) (e : s * s = x) : Rl.q 0 < s := fun k => by
  have z : s = Rl.q 0 := Rl.le_antisymm k s0
  rw [z, Rl.zero_mul] at e
  rw [← e] at hx
  exact hx (Rl.le_refl _)

theorem div_ex {x y : Rl.R} (h : Rl.q 0 < y) : ∃ z, z * y = x := by
  obtain ⟨i, hi, _⟩ := Rl.inv_ex h
  exact ⟨x * i, by rw [Rl.mul_assoc, Rl.mul_comm i, hi, Rl.mul_one]⟩

theorem nn_of_mul {z y x : Rl.R} (e : z * y = x) (hy : Rl.q 0 < y) (hx : Rl.q 0 ≤ x) : Rl.q 0 ≤ z := by
  refine Rl.le_of_mul (z := y) ?_ hy
  rw [Rl.zero_mul, e]; exact hx

/-- What a pseudocylindrical projection makes of a latitude. -/
theorem Pseudo_core {k : I64} (hk : k.val = 13 ∨ k.val = 14 ∨ k.val = 15) {l : Rl.R} (l1 : -Rl.hp ≤ l) (l2 : l ≤ Rl.hp) : ∃ t len h H : Rl.R,
    (∀ L, Tr L l → Tr (F_spec_ThetaOf k L) t) ∧ (∀ T, Tr T t → Tr (F_spec_l20Parallel k T).1 len ∧ Tr (F_spec_l20Parallel k T).2 h) ∧
    (∀ Y, Tr Y h → Tr (F_spec_l20Back k Y) t) ∧ Tr (F_spec_l20High k) H ∧ h ≤ H ∧ -H ≤ h ∧
    (∀ T, Tr T t → Tr (F_spec_l20Lat k T) l ∧ (F_spec_l04Ok (F_spec_l20Lat k T) = true ∨ k.val = 13)) ∧ Rl.q 0 ≤ len ∧
    (k.val = 13 → t = l) ∧ (k.val = 14 → t + t + Rl.sn (t + t) = Rl.pi * Rl.sn l) ∧ (k.val = 15 → t + Rl.sn t = (Rl.q 1 + Rl.hp) * Rl.sn l) := by
  rcases hk with hk | hk | hk
  · have d : (k.val == 13) = true := by rw [hk]; decide
    refine ⟨l, Rl.cn l, l, Rl.hp, fun L h => ?_, fun T h => ?_, fun Y h => ?_, ?_, l2, l1, fun T h => ?_, Rl.cn_nn l1 l2, fun _ => rfl, fun h => absurd h (by omega), fun h => absurd h (by omega)⟩
    · unfold F_spec_ThetaOf; rw [d, cond_t]; exact h
    · unfold F_spec_l20Parallel; simp only [d, cond_t, bindP_e]; exact ⟨tCosS h, h⟩
    · unfold F_spec_l20Back; rw [d, cond_t]; exact h
    · unfold F_spec_l20High; simp only [d, cond_t, bindP_e]
      have := tTurnS (c64 1)
      rwa [c64_v, Rl.kh_one] at this
    · unfold F_spec_l20Lat; rw [d, cond_t]; exact ⟨h, .inr hk⟩
  · have d : (k.val == 13) = false := by rw [hk]; decide
    have d4 : (k.val == 14) = true := by rw [hk]; decide
    obtain ⟨s, s0, es⟩ := root_two
    have pn := Rl.le_of_lt Rl.pi_pos
    have b := Rl.sn_le l
    obtain ⟨t, t1, t2, et⟩ := Rl.gp_ex true (y := Rl.pi * Rl.sn l) (by
      show -Rl.pi ≤ _
      have := Rl.mul_le_mul_l b.1 pn
      rwa [Rl.mul_neg, Rl.mul_one] at this) (by
      show _ ≤ Rl.pi
      have := Rl.mul_le_mul_l b.2 pn
      rwa [Rl.mul_one] at this)
    have R : Tr (F_spec_l20Root k) s := by
      unfold F_spec_l20Root
      simp only [d4, cond_t, bindP_e]
      exact tSqrtS tTwoS (Rl.le_of_lt s0) es
    have st := Rl.sn_le t
    obtain ⟨len, el⟩ := div_ex (x := Rl.q 2 * s * Rl.cn t) Rl.pi_pos
    refine ⟨t, len, s * Rl.sn t, s, fun L h => ?_, fun T h => ?_, fun Y h => ?_, ?_, ?_, ?_, fun T h => ?_, ?_, fun h => absurd h (by omega), fun _ => et, fun h => absurd h (by omega)⟩
    · exact Theta_tr (.inl hk) h t1 t2 (by rw [d4]; exact et)
    · unfold F_spec_l20Parallel; simp only [d, d4, cond_t, cond_f, bindP_e]
      exact ⟨tDivS (tMulS (tMulS tTwoS R) (tCosS h)) tPiS el, tMulS R (tSinS h)⟩
    · unfold F_spec_l20Back; simp only [d, d4, cond_t, cond_f, bindP_e]
      exact tAsinS (tDivS h R (Rl.mul_comm _ _)) t1 t2
    · unfold F_spec_l20High; simp only [d, d4, cond_t, cond_f, bindP_e]; exact R
    · have := Rl.mul_le_mul_l st.2 (Rl.le_of_lt s0)
      rwa [Rl.mul_one] at this
    · have := Rl.mul_le_mul_l st.1 (Rl.le_of_lt s0)
      rwa [Rl.mul_neg, Rl.mul_one] at this
    · unfold F_spec_l20Lat F_spec_l20Right; simp only [d, d4, cond_t, cond_f, bindP_e]
      have Q : Tr (F_spec_DivI (F_spec_AddI (F_spec_DoubleI T) (F_spec_SinI (F_spec_DoubleI T))) F_spec_PiI) (Rl.sn l) := tDivS (tAddS (tDoubleS h) (tSinS (tDoubleS h))) tPiS (by rw [Rl.mul_comm]; exact et.symm)
      exact ⟨tAsinS Q l1 l2, .inl (Asin_known Q)⟩
    · exact nn_of_mul el Rl.pi_pos (Rl.mul_nonneg (Rl.mul_nonneg (Rl.q_le.2 (by decide)) (Rl.le_of_lt s0)) (Rl.cn_nn t1 t2))
  · have d : (k.val == 13) = false := by rw [hk]; decide
    have d4 : (k.val == 14) = false := by rw [hk]; decide
    have pp : Rl.q 0 < Rl.q 2 + Rl.pi := Rl.add_pos (Rl.q_lt.2 (by decide)) (Rl.le_of_lt Rl.pi_pos)
    obtain ⟨s, s0', es⟩ := Rl.sqrt_ex (Rl.le_of_lt pp)
    have s0 := root_pos pp s0' es
    have hp1 : Rl.q 0 < Rl.q 1 + Rl.hp := Rl.add_pos (Rl.q_lt.2 (by decide)) (Rl.le_of_lt Rl.hp_pos)
    have b := Rl.sn_le l
    obtain ⟨t, t1, t2, et⟩ := Rl.gp_ex false (y := (Rl.q 1 + Rl.hp) * Rl.sn l) (by
      show -(Rl.q 1 + Rl.hp) ≤ _
      have := Rl.mul_le_mul_l b.1 (Rl.le_of_lt hp1)
      rwa [Rl.mul_neg, Rl.mul_one] at this) (by
      show _ ≤ Rl.q 1 + Rl.hp
      have := Rl.mul_le_mul_l b.2 (Rl.le_of_lt hp1)
      rwa [Rl.mul_one] at this)
    have R : Tr (F_spec_l20Root k) s := by
      unfold F_spec_l20Root
      simp only [d4, cond_f, bindP_e]
      exact tSqrtS (tAddS tTwoS tPiS) s0' es
    obtain ⟨len, el⟩ := div_ex (x := Rl.q 1 + Rl.cn t) s0
    obtain ⟨h, eh⟩ := div_ex (x := Rl.q 2 * t) s0
    obtain ⟨H, eH⟩ := div_ex (x := Rl.pi) s0
    have cb := Rl.cn_nn t1 t2
    refine ⟨t, len, h, H, fun L hh => ?_, fun T hh => ?_, fun Y hh => ?_, ?_, ?_, ?_, fun T hh => ?_, ?_, fun h => absurd h (by omega), fun h => absurd h (by omega), fun _ => et⟩
    · exact Theta_tr (.inr hk) hh t1 t2 (by rw [d4]; exact et)
    · unfold F_spec_l20Parallel; simp only [d, d4, cond_f, bindP_e]
      exact ⟨tDivS (tAddS tOneS (tCosS hh)) R el, tDivS (tMulS tTwoS hh) R eh⟩
    · unfold F_spec_l20Back; simp only [d, d4, cond_f, bindP_e]
      refine tHalfS (tMulS hh R) ?_
      rw [eh, Rl.two_mul]
    · unfold F_spec_l20High; simp only [d, d4, cond_f, bindP_e]; exact tDivS tPiS R eH
    · refine Rl.le_of_mul (z := s) ?_ s0
      rw [eh, eH, Rl.two_mul]
      exact Rl.add_le_add t2 t2
    · refine Rl.le_of_mul (z := s) ?_ s0
      rw [Rl.neg_mul, eh, eH, Rl.two_mul]
      have := Rl.add_le_add t1 t1
      rwa [Rl.add_neg, ← Rl.neg_add] at this
    · unfold F_spec_l20Lat F_spec_l20Right; simp only [d, d4, cond_f, bindP_e]
      have one := tTurnS (c64 1)
      rw [c64_v, Rl.kh_one] at one
      have Q : Tr (F_spec_DivI (F_spec_AddI T (F_spec_SinI T)) (F_spec_AddI (F_spec_Integer (c64 1)) (F_spec_TurnI (c64 1)))) (Rl.sn l) := tDivS (tAddS hh (tSinS hh)) (tAddS tOneS one) (by rw [Rl.mul_comm]; exact et.symm)
      exact ⟨tAsinS Q l1 l2, .inl (Asin_known Q)⟩
    · refine nn_of_mul el s0 (Rl.add_nonneg (Rl.q_le.2 (by decide)) cb)

theorem rad_pi {u : Int} (h1 : -1800000000 ≤ u) (h2 : u ≤ 1800000000) : -Rl.pi ≤ rad u ∧ rad u ≤ Rl.pi := by
  have e : rad 1800000000 = Rl.pi := by rw [Rl.pi_kh, ← rad_kh]; rfl
  have e2 : rad (-1800000000) = -Rl.pi := by rw [rad_neg, e]
  exact ⟨by rw [← e2]; exact rad_mono h1, by rw [← e]; exact rad_mono h2⟩

theorem Valid_bound {p : Pj} (h : F_spec_ValidProjection p = true) : -1800000000 < p.lon0.val ∧ p.lon0.val ≤ 1800000000 ∧ -900000000 ≤ p.lat0.val ∧ p.lat0.val ≤ 900000000 := by
  unfold F_spec_ValidProjection F_spec_l17Ok at h
  simp only [bindP_e] at h
  cases h1 : F_spec_l11Ok (⟨p.lat0, p.lon0⟩ : Pt) with
  | false => rw [h1] at h; simp only [Bool.not_false, cond_t] at h; cases h
  | true =>
    have := Lat_bound h1
    exact ⟨this.2.2.1, this.2.2.2, this.1, this.2.1⟩

theorem Pseudo_ok {p : Pj} {q : Pt} (h : (F_spec_PseudoForward p q).2.val = 0) : (p.kind.val = 13 ∨ p.kind.val = 14 ∨ p.kind.val = 15) ∧ F_spec_l20Ok__pPj p = true ∧ F_spec_ValidProjection p = true ∧ F_spec_l11Ok q = true ∧
    F_spec_l04Ok (F_spec_PseudoForward p q).1.x = true ∧ F_spec_l04Ok (F_spec_PseudoForward p q).1.y = true ∧
    (F_spec_PseudoForward p q).1.x = F_spec_MulI (F_spec_RadiansOf (F_spec_l11Wrap (w64 (q.lon.val - p.lon0.val)))) (F_spec_ParallelOf p.kind (F_spec_RadiansOf q.lat)).1 ∧ (F_spec_PseudoForward p q).1.y = (F_spec_ParallelOf p.kind (F_spec_RadiansOf q.lat)).2 := by
  unfold F_spec_PseudoForward F_spec_IsWhole at h ⊢
  simp only [bindP_e] at h ⊢
  cases h1 : F_spec_l20Ok__pPj p with
  | false => rw [h1] at h; simp only [Bool.not_false, cond_t, c64_v] at h; exact absurd h (by decide)
  | true =>
    rw [h1] at h
    simp only [Bool.not_true, cond_f] at h ⊢
    cases h2 : F_spec_l11Ok q with
    | false => rw [h2] at h; simp only [Bool.not_false, cond_t, c64_v] at h; exact absurd h (by decide)
    | true =>
      rw [h2] at h
      simp only [Bool.not_true, cond_f] at h ⊢
      generalize F_spec_MulI (F_spec_RadiansOf (F_spec_l11Wrap (w64 (q.lon.val - p.lon0.val)))) (F_spec_ParallelOf p.kind (F_spec_RadiansOf q.lat)).1 = X at *
      generalize (F_spec_ParallelOf p.kind (F_spec_RadiansOf q.lat)).2 = Y at *
      cases h3 : F_spec_l04Ok X with
      | false => rw [h3] at h; simp only [Bool.not_false, cond_t, c64_v] at h; exact absurd h (by decide)
      | true =>
        rw [h3] at h
        simp only [Bool.not_true, cond_f] at h ⊢
        cases h4 : F_spec_l04Ok Y with
        | false => rw [h4] at h; simp only [Bool.not_false, cond_t, c64_v] at h; exact absurd h (by decide)
        | true =>
          simp only [Bool.not_true, cond_f]
          have hk : F_spec_l20Kind p.kind = true ∧ F_spec_ValidProjection p = true := by
            unfold F_spec_l20Ok__pPj at h1
            simp only [bindP_e] at h1
            cases hk : F_spec_l20Kind p.kind with
            | false => rw [hk, cond_f] at h1; cases h1
            | true => rw [hk, cond_t] at h1; exact ⟨rfl, h1⟩
          refine ⟨?_, trivial, hk.2, trivial, h3, h4, trivial, trivial⟩
          have := hk.1
          unfold F_spec_l20Kind at this
          simp only [bindP_e, sp_in, c64_v, Bool.and_eq_true, decide_eq_true_eq] at this
          omega

theorem pure_FnPseudo (code more : Cd) : F_laws_FnPseudo code more = true := by
  unfold F_laws_FnPseudo
  rw [bindP_e]
  cases F_laws_d8Long code more with
  | true => rfl
  | false =>
    rw [cond_f, bindP_e, bindP_e]
    generalize F_spec_E8Pseudo code = p
    generalize F_spec_E8Point more = q
    simp only [bindP_e, eq_PseudoForward, eq_PseudoInverse, eq_OnMap, eq_ThetaOf]
    by_cases hc : (F_spec_PseudoForward p q).2.val = 0
    · have c0 : ((F_spec_PseudoForward p q).2.val != 0) = false := by rw [hc]; decide
      rw [c0, cond_f]
      obtain ⟨hk, hv, hp, hq, okx, oky, ex, ey⟩ := Pseudo_ok hc
      generalize F_spec_PseudoForward p q = xy at *
      obtain ⟨b1, b2, b3, b4⟩ := Lat_bound hq
      obtain ⟨v1, v2, _, _⟩ := Valid_bound hp
      obtain ⟨l1, l2⟩ := rad_hp b1 b2
      obtain ⟨t, len, h, H, cT, cP, cB, cH, hH1, hH2, cL, len0, g13, g14, g15⟩ := Pseudo_core hk l1 l2
      have wd : (w64 (q.lon.val - p.lon0.val)).val = q.lon.val - p.lon0.val := by rw [w64_val]; omega
      obtain ⟨j, j1, j2, ej⟩ := Wrap_turn (w64 (q.lon.val - p.lon0.val)) (by omega)
      have wb := wrap_in64 (w64 (q.lon.val - p.lon0.val))
      rw [wd] at ej
      generalize F_spec_l11Wrap (w64 (q.lon.val - p.lon0.val)) = w at *
      obtain ⟨w1, w2⟩ := rad_pi (u := w.val) (by omega) (by omega)
      have par := cP _ (cT _ (tRadS q.lat))
      have eP : F_spec_ParallelOf p.kind (F_spec_RadiansOf q.lat) = F_spec_l20Parallel p.kind (F_spec_ThetaOf p.kind (F_spec_RadiansOf q.lat)) := by
        have kk : F_spec_l20Kind p.kind = true := by
          unfold F_spec_l20Kind
          rw [bindP_e, sp_in, c64_v, c64_v]
          simp only [Bool.and_eq_true, decide_eq_true_eq]
          omega
        unfold F_spec_ParallelOf
        simp only [bindP_e, kk, Bool.not_true, cond_f]
      rw [← eP] at par
      have X : Tr xy.1.x (rad w.val * len) := by rw [ex]; exact tMulS (tRadS w) par.1
      have Y : Tr xy.1.y h := by rw [ey]; exact par.2
      obtain ⟨ah, ah0, eah⟩ := abs_ex h
      have L1 : ((F_spec_LessI (F_spec_l20High p.kind) (F_spec_AbsI xy.1.y)).val == 1) = false := LessI_no cH (tAbsS Y ah0 eah) (abs_le eah hH1 hH2)
      have T := cB _ Y
      have P := (cP _ T).1
      obtain ⟨al, al0, eal⟩ := abs_ex (rad w.val)
      have D : Tr (F_spec_DivI xy.1.x (F_spec_l20Parallel p.kind (F_spec_l20Back p.kind xy.1.y)).1) (rad w.val) := tDivS X P rfl
      have L2 : ((F_spec_LessI F_spec_PiI (F_spec_AbsI (F_spec_DivI xy.1.x (F_spec_l20Parallel p.kind (F_spec_l20Back p.kind xy.1.y)).1))).val == 1) = false := LessI_no tPiS (tAbsS D al0 eal) (abs_le eal w2 w1)
      obtain ⟨tl, okl⟩ := cL _ T
      have okl : F_spec_l04Ok (F_spec_l20Lat p.kind (F_spec_l20Back p.kind xy.1.y)) = true := by
        rcases okl with okl | k13
        · exact okl
        · have d : (p.kind.val == 13) = true := by rw [k13]; decide
          unfold F_spec_l20Lat F_spec_l20Back
          rw [d, cond_t, cond_t]; exact oky
      have inv : F_spec_PseudoInverse p xy.1 = (F_spec_l20Lat p.kind (F_spec_l20Back p.kind xy.1.y), F_spec_AddI (F_spec_RadiansOf p.lon0) (F_spec_DivI xy.1.x (F_spec_l20Parallel p.kind (F_spec_l20Back p.kind xy.1.y)).1), c64 0) := by
        unfold F_spec_PseudoInverse F_spec_IsWhole
        simp only [bindP_e, hv, Bool.not_true, cond_f, L1, L2, okl]
      obtain ⟨aw, aw0, eaw⟩ := abs_ex (rad w.val * len)
      have L3 : ((F_spec_LessI (F_spec_MulI F_spec_PiI (F_spec_l20Parallel p.kind (F_spec_l20Back p.kind xy.1.y)).1) (F_spec_AbsI xy.1.x)).val == 1) = false := LessI_no (tMulS tPiS P) (tAbsS X aw0 eaw) (abs_le eaw (Rl.mul_le_mul_r w2 len0) (by have := Rl.mul_le_mul_r w1 len0; rwa [Rl.neg_mul] at this))
      have on : (F_spec_OnMap p xy.1).2.val = 0 ∧ ((F_spec_OnMap p xy.1).1.val = 1 ∨ (F_spec_OnMap p xy.1).1.val = 2) := by
        unfold F_spec_OnMap
        simp only [bindP_e, hv, Bool.not_true, cond_f, L1, L3]
        cases ((F_spec_LessI (F_spec_MulI F_spec_PiI (F_spec_l20Parallel p.kind (F_spec_l20Back p.kind xy.1.y)).1) (F_spec_AbsI xy.1.x)).val == 0) with
        | false => rw [cond_f]; exact ⟨c64_v _ _, .inr (c64_v _ _)⟩
        | true =>
          rw [cond_t]
          cases ((F_spec_LessI (F_spec_l20High p.kind) (F_spec_AbsI xy.1.y)).val == 0) with
          | false => rw [cond_f]; exact ⟨c64_v _ _, .inr (c64_v _ _)⟩
          | true => rw [cond_t]; exact ⟨c64_v _ _, .inl (c64_v _ _)⟩
      have at_ : F_spec_AtPoint (F_spec_PseudoInverse p xy.1).1 (F_spec_PseudoInverse p xy.1).2.1 q = true := by
        rw [inv]
        refine tAtPoint hq j (by omega) tl (.inr (.inr ?_))
        have A := tAddS (tRadS p.lon0) D
        rw [← rad_add, show p.lon0.val + w.val = q.lon.val + 3600000000 * j from by omega] at A
        exact A
      have i0 : ((F_spec_PseudoInverse p xy.1).2.2.val != 0) = false := by rw [inv]; show ((c64 0).val != 0) = false; rw [c64_v]; decide
      have o0 : ((F_spec_OnMap p xy.1).2.val != 0) = false := by rw [on.1]; decide
      have o1 : ((F_spec_OnMap p xy.1).1.val == 0) = false := by rcases on.2 with e | e <;> rw [e] <;> decide
      rw [i0, cond_f, o0, cond_f, o1, cond_f, at_, Bool.not_true, cond_f]
      have LT := tLatOf hq
      have TT := cT _ LT
      rcases hk with hk | hk | hk
      · have d4 : (p.kind.val == 14) = false := by rw [hk]; decide
        have d5 : (p.kind.val == 15) = false := by rw [hk]; decide
        rw [d4, d5, cond_f, cond_f]
        rw [g13 hk] at TT
        exact OverlapI_tr TT LT
      · have d4 : (p.kind.val == 14) = true := by rw [hk]; decide
        rw [d4, cond_t]
        have A := tAddS (tDoubleS TT) (tSinS (tDoubleS TT))
        rw [g14 hk] at A
        exact OverlapI_tr A (tMulS tPiS (tSinS LT))
      · have d4 : (p.kind.val == 14) = false := by rw [hk]; decide
        have d5 : (p.kind.val == 15) = true := by rw [hk]; decide
        rw [d4, d5, cond_f, cond_t]
        have A := tAddS TT (tSinS TT)
        rw [g15 hk] at A
        have one := tTurnS (c64 1)
        rw [c64_v, Rl.kh_one] at one
        exact OverlapI_tr A (tMulS (tAddS tOneS one) (tSinS LT))
    · have c0 : ((F_spec_PseudoForward p q).2.val != 0) = true := by simp only [bne_iff_ne, ne_eq]; exact hc
      rw [c0, cond_t]
      exact beq_self_eq_true _

end Go.Proofs.YtcdkepbgjgcjfaaGreat.Abs
