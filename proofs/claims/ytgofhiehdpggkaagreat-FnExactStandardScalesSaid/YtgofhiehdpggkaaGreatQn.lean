/- Plain laws of the functions on numbers: what the program computes is what the reference computes. -/
import Derived.Test.YtgofhiehdpggkaaGreatQm
import Derived.Test.YtgofhiehdpggkaaGreatF5
set_option linter.unusedVariables false
set_option linter.unusedSimpArgs false
namespace Go.Proofs.YtgofhiehdpggkaaGreat.Abs
open Go

/-- The same test of a conic's standard parallels. -/
theorem eq_sumCheck (x y : I64) (hx : -890000000 ≤ x.val ∧ x.val ≤ 890000000) (hy : -890000000 ≤ y.val ∧ y.val ≤ 890000000) : decide ((F_impl_abs (w64 (x.val + y.val))).val ≥ 10000000) = (bif decide ((w64 (x.val + y.val)).val ≥ 10000000) then true else decide ((w64 (x.val + y.val)).val ≤ -10000000)) := by
  have e : (w64 (x.val + y.val)).val = x.val + y.val := by rw [w64_val]; omega
  generalize w64 (x.val + y.val) = s at *
  unfold F_impl_abs
  have en : (w64 (0 - s.val)).val = -s.val := by rw [w64_val]; omega
  have m := mx_spec s (w64 (0 - s.val))
  rw [en] at m
  generalize mx s (w64 (0 - s.val)) = a at *
  by_cases h : s.val ≥ 10000000
  · rw [decide_eq_true h, cond_t]
    exact decide_eq_true (by omega)
  · rw [decide_eq_false h, cond_f]
    rw [Bool.eq_iff_iff]
    simp only [decide_eq_true_eq]
    omega

theorem eq_isStandard (a : I64) : F_impl_isStandard a = F_spec_l17Standard a := rfl

theorem std_val {a : I64} (h : F_spec_l17Standard a = true) : -890000000 ≤ a.val ∧ a.val ≤ 890000000 := by
  unfold F_spec_l17Standard at h
  rw [bindP_e, sp_in] at h
  simp only [Bool.and_eq_true, decide_eq_true_eq, c64_v] at h
  exact h

theorem eq_l17Ok (p : Pj) : F_impl_ValidProjection p = F_spec_l17Ok p := by
  unfold F_impl_ValidProjection F_spec_l17Ok
  simp only [bindP_e, eq_ValidPoint, eq_isStandard]
  cases h1 : F_spec_l11Ok ⟨p.lat0, p.lon0⟩ with
  | false => simp only [Bool.not_false, cond_t]; cases F_impl_within p.kind (c64 1) (c64 16) <;> simp only [Bool.not_false, Bool.not_true, cond_t, cond_f]
  | true =>
    cases h2 : F_spec_l17Standard p.lat1 with
    | false => simp only [Bool.not_false, Bool.not_true, cond_t, cond_f]; cases F_impl_within p.kind (c64 1) (c64 16) <;> simp only [Bool.not_false, Bool.not_true, cond_t, cond_f]
    | true =>
      cases h3 : F_spec_l17Standard p.lat2 with
      | false => simp only [Bool.not_false, Bool.not_true, cond_t, cond_f]; cases F_impl_within p.kind (c64 1) (c64 16) <;> simp only [Bool.not_false, Bool.not_true, cond_t, cond_f]
      | true =>
        simp only [Bool.not_true, cond_f, eq_sumCheck p.lat1 p.lat2 (std_val h2) (std_val h3)]
        unfold F_impl_isAzimuthal F_impl_isConic
        simp only [bindP_e, sp_within, c64_v]
        generalize p.kind.val = k
        by_cases hk : 1 ≤ k ∧ k ≤ 16
        · obtain rfl | rfl | rfl | rfl | rfl | rfl | rfl | rfl | rfl | rfl | rfl | rfl | rfl | rfl | rfl | rfl : k = 1 ∨ k = 2 ∨ k = 3 ∨ k = 4 ∨ k = 5 ∨ k = 6 ∨ k = 7 ∨ k = 8 ∨ k = 9 ∨ k = 10 ∨ k = 11 ∨ k = 12 ∨ k = 13 ∨ k = 14 ∨ k = 15 ∨ k = 16 := by omega
          all_goals simp [bne]
          all_goals grind
        · have e0 : (decide (1 ≤ k) && decide (k ≤ 16)) = false := by
            rw [Bool.and_eq_false_iff]
            simp only [decide_eq_false_iff_not]
            omega
          have ne : ∀ n : Int, 1 ≤ n → n ≤ 16 → (k == n) = false := fun n a b => by
            simp only [beq_eq_false_iff_ne, ne_eq]
            omega
          simp only [e0, Bool.not_false, cond_t, ne 1 (by decide) (by decide), ne 2 (by decide) (by decide), ne 3 (by decide) (by decide), ne 4 (by decide) (by decide), ne 5 (by decide) (by decide), ne 6 (by decide) (by decide), ne 7 (by decide) (by decide), ne 8 (by decide) (by decide), ne 9 (by decide) (by decide), ne 10 (by decide) (by decide), ne 11 (by decide) (by decide), ne 12 (by decide) (by decide), ne 13 (by decide) (by decide), ne 14 (by decide) (by decide), ne 15 (by decide) (by decide), ne 16 (by decide) (by decide), cond_f]

theorem eq_ValidProjection (p : Pj) : F_impl_ValidProjection p = F_spec_ValidProjection p := by
  unfold F_spec_ValidProjection
  rw [bindP_e, eq_l17Ok]

theorem eq_WrapLon (a : I64) : F_impl_WrapLon a = F_spec_l11Wrap a := by
  unfold F_impl_WrapLon F_spec_l11Wrap
  have b : -3600000000 < (imod a 3600000000).val ∧ (imod a 3600000000).val < 3600000000 := by
    rw [imod_val]
    by_cases hs : 0 ≤ a.val
    · rw [Int.tmod_eq_emod_of_nonneg hs]; omega
    · have : Int.tmod a.val 3600000000 = -((-a.val) % 3600000000) := by
        rw [← Int.tmod_eq_emod_of_nonneg (by omega), Int.neg_tmod, Int.neg_neg]
      rw [this]; omega
  generalize imod a 3600000000 = m at *
  by_cases h : m.val > 1800000000
  · have e : decide ((w64 (m.val - 3600000000)).val ≤ -1800000000) = false := decide_eq_false (by rw [w64_val]; omega)
    simp only [h, decide_true, cond_t, e, cond_f]
  · simp only [h, decide_false, cond_f]

theorem wrap_in64 (a : I64) : -1800000000 < (F_spec_l11Wrap a).val ∧ (F_spec_l11Wrap a).val ≤ 1800000000 := by
  rw [← eq_WrapLon]
  unfold F_impl_WrapLon
  have b : -3600000000 < (imod a 3600000000).val ∧ (imod a 3600000000).val < 3600000000 := by
    rw [imod_val]
    by_cases hs : 0 ≤ a.val
    · rw [Int.tmod_eq_emod_of_nonneg hs]; omega
    · have : Int.tmod a.val 3600000000 = -((-a.val) % 3600000000) := by
        rw [← Int.tmod_eq_emod_of_nonneg (by omega), Int.neg_tmod, Int.neg_neg]
      rw [this]; omega
  generalize imod a 3600000000 = m at *
  by_cases h : m.val > 1800000000
  · simp only [h, decide_true, cond_t, w64_val]; omega
  · simp only [h, decide_false, cond_f]
    by_cases h2 : m.val ≤ -1800000000
    · simp only [h2, decide_true, cond_t, w64_val]; omega
    · simp only [h2, decide_false, cond_f]; omega

theorem abs_is (a : I64) (n : Int) (hn : 0 < n) (ha : -9223372036854775808 < a.val) : ((F_impl_abs a).val == n) = (bif (a.val == n) then true else (a.val == -n)) := by
  unfold F_impl_abs
  have hi := a.hi
  have en : (w64 (0 - a.val)).val = -a.val := by rw [w64_val]; omega
  have m := mx_spec a (w64 (0 - a.val))
  rw [en] at m
  generalize mx a (w64 (0 - a.val)) = x at *
  by_cases h : a.val = n
  · have e : (a.val == n) = true := by simp only [beq_iff_eq]; exact h
    rw [e, cond_t]
    simp only [beq_iff_eq]
    omega
  · have e : (a.val == n) = false := by simp only [beq_eq_false_iff_ne, ne_eq]; exact h
    rw [e, cond_f, Bool.eq_iff_iff]
    simp only [beq_iff_eq]
    omega

theorem eq_LatOf {p : Pt} (h : F_spec_l11Ok p = true) : F_impl_LatOf p = F_spec_RadiansOf p.lat := by
  unfold F_impl_LatOf
  simp only [bindP_e, eq_ValidPoint, h, Bool.not_true, cond_f, eq_RadiansOf]

theorem eq_LonFrom {p : Pj} {q : Pt} (hp : F_spec_ValidProjection p = true) (h : F_spec_l11Ok q = true) : F_impl_LonFrom p q = F_spec_RadiansOf (F_spec_l11Wrap (w64 (q.lon.val - p.lon0.val))) := by
  unfold F_impl_LonFrom
  simp only [bindP_e, eq_ValidProjection, hp, eq_ValidPoint, h, Bool.not_true, cond_f, eq_WrapLon, eq_RadiansOf]

theorem eq_edge (p : Pj) (q : Pt) : (bif (q.lat.val == 0) then ((F_impl_abs (F_spec_l11Wrap (w64 (q.lon.val - p.lon0.val)))).val == 900000000) else false) = F_spec_l21Edge__pPj p q := by
  unfold F_spec_l21Edge__pPj
  have w := wrap_in64 (w64 (q.lon.val - p.lon0.val))
  rw [bindP_e, abs_is _ _ (by decide) (by omega)]

theorem eq_isTransverse (p : Pj) : F_impl_isTransverse p = F_spec_l21Ok__pPj p := by
  unfold F_impl_isTransverse F_spec_l21Ok__pPj
  simp only [bindP_e, eq_ValidProjection]
  cases F_spec_ValidProjection p <;> cases (p.kind.val == 16) <;> rfl

theorem ok_proj {p : Pj} (h : F_spec_l21Ok__pPj p = true) : F_spec_ValidProjection p = true := by
  unfold F_spec_l21Ok__pPj at h
  rw [bindP_e] at h
  cases hk : (p.kind.val == 16) with
  | false => rw [hk, cond_f] at h; cases h
  | true => rw [hk, cond_t] at h; exact h

theorem eq_transverse (p : Pj) (q : Pt) : F_impl_transverse p q = (bif (!(F_spec_l21Ok__pPj p)) then ((⟨(c64 0), (c64 0)⟩ : Iv), (⟨(c64 0), (c64 0)⟩ : Iv), (⟨(c64 0), (c64 0)⟩ : Iv), (c64 1)) else (bif (!(F_spec_l11Ok q)) then ((⟨(c64 0), (c64 0)⟩ : Iv), (⟨(c64 0), (c64 0)⟩ : Iv), (⟨(c64 0), (c64 0)⟩ : Iv), (c64 1)) else
    (bif F_spec_l21Edge__pPj p q then ((⟨(c64 0), (c64 0)⟩ : Iv), (⟨(c64 0), (c64 0)⟩ : Iv), (⟨(c64 0), (c64 0)⟩ : Iv), (c64 8)) else (F_spec_RadiansOf q.lat, F_spec_l21Turn__pPj p q, F_spec_MulI (F_spec_CosI (F_spec_RadiansOf q.lat)) (F_spec_SinI (F_spec_l21Turn__pPj p q)), (c64 0))))) := by
  unfold F_impl_transverse
  simp only [bindP_e, eq_isTransverse, eq_ValidPoint]
  cases h1 : F_spec_l21Ok__pPj p with
  | false => simp only [Bool.not_false, cond_t]
  | true =>
    cases h2 : F_spec_l11Ok q with
    | false => simp only [Bool.not_false, Bool.not_true, cond_t, cond_f]
    | true =>
      unfold F_spec_l21Turn__pPj
      simp only [Bool.not_true, cond_f, ← eq_edge, eq_WrapLon, eq_LatOf h2, eq_LonFrom (ok_proj h1) h2, bindP_e, eq_CosI, eq_SinI, eq_MulI]
      cases (q.lat.val == 0) with
      | false => simp only [cond_f]
      | true =>
        simp only [cond_t]

theorem eq_times (k : I64) (x : Iv) : F_impl_times k x = F_spec_MulI (F_spec_Integer k) x := by
  unfold F_impl_times
  simp only [bindP_e, eq_Integer, eq_MulI]

theorem eq_planar (x y : Iv) : F_impl_planar x y = (bif F_spec_IsWhole x then ((⟨(⟨(c64 0), (c64 0)⟩ : Iv), (⟨(c64 0), (c64 0)⟩ : Iv)⟩ : Pn), (c64 9)) else (bif F_spec_IsWhole y then ((⟨(⟨(c64 0), (c64 0)⟩ : Iv), (⟨(c64 0), (c64 0)⟩ : Iv)⟩ : Pn), (c64 9)) else ((⟨x, y⟩ : Pn), (c64 0)))) := by
  unfold F_impl_planar F_spec_IsWhole
  simp only [bindP_e, eq_areBounded]
  cases F_spec_l04Ok x <;> cases F_spec_l04Ok y <;> rfl

theorem rf_Planar (a : Pn) : F_laws_eqPlanar a a = true := by
  unfold F_laws_eqPlanar
  simp only [bindP_e, rf_Interval, Bool.not_true, cond_f]

end Go.Proofs.YtgofhiehdpggkaaGreat.Abs
