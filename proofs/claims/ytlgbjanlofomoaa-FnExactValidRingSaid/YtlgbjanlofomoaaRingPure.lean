/- The plain law of ValidRing: the program's loop over the corners and the reference's answer alike. -/
import Derived.Test.YtlgbjanlofomoaaPFnExactValidRingx
namespace Go.Proofs.Ytlgbjanlofomoaa.Ring
open Go.RowKit Go.Proofs.Ytlgbjanlofomoaa.PFnExactValidRing Go.Proofs.YtlgbjanlofomoaaW.PrintWords Go.Proofs.YtlgbjanlofomoaaW.PrintLast Go.Proofs.YtlgbjanlofomoaaW.PrintMore

def conv (p : S32) : S30 := ⟨p.f0, p.f1⟩

theorem wrap_id {n : Int} (h : -9223372036854775808 ≤ n ∧ n ≤ 9223372036854775807) : wrap64 n = n := by
  unfold wrap64
  omega

theorem toPointS_l (l0 : List S32) (hn : l0.length < 1152921504606846976) : ∀ (d k : Nat) (i : Nat) (x : List S30), l0.length = i + d → d < k → x.length = l0.length → (∀ j, j < i → x[j]? = (l0.map conv)[j]?) → laws_toPointS.l0 k l0 x (i : Int) = some (l0.map conv) := by
  intro d
  induction d with
  | zero =>
    intro k i x hi hk hx hj
    obtain ⟨k, rfl⟩ : ∃ m, k = m + 1 := ⟨k - 1, by omega⟩
    simp only [laws_toPointS.l0]
    rw [if_neg (by omega)]
    congr 1
    refine List.ext_getElem? fun j => ?_
    by_cases h : j < i
    · exact hj j h
    · rw [List.getElem?_eq_none (by omega), List.getElem?_eq_none (by simp; omega)]
  | succ d ih =>
    intro k i x hi hk hx hj
    obtain ⟨k, rfl⟩ : ∃ m, k = m + 1 := ⟨k - 1, by omega⟩
    simp only [laws_toPointS.l0, laws_toPoint.f]
    rw [if_pos (by omega), if_pos (by omega)]
    simp only [Option.bind_some]
    rw [if_pos (by omega), wrap_id (by omega)]
    rw [show ((i : Int) + 1) = ((i + 1 : Nat) : Int) by omega]
    refine ih k (i + 1) _ (by omega) (by omega) (by simp [hx]) fun j h => ?_
    have hlt : i < l0.length := by omega
    by_cases e : i = j
    · subst e
      simp only [Int.toNat_natCast]
      rw [List.getElem?_set_self (by omega)]
      simp only [rd_T32, Int.toNat_natCast]
      rw [List.getElem?_map, List.getElem?_eq_getElem hlt]
      simp [List.getD, List.getElem?_eq_getElem hlt, conv]
    · simp only [Int.toNat_natCast]
      rw [List.getElem?_set_ne e]
      exact hj j (by omega)

theorem toPointS (l0 : List S32) (hn : l0.length ≤ 17592186044416) (k : Nat) (hk : l0.length < k) : laws_toPointS.f k l0 = some (l0.map conv) := by
  unfold laws_toPointS.f
  rw [if_pos (by omega), if_pos (by omega)]
  have := toPointS_l l0 (by omega) l0.length k 0 (List.replicate l0.length z30) (by omega) hk (by simp) (fun j h => absurd h (Nat.not_lt_zero _))
  simpa using this

theorem wrapLon (a : Int) : impl_WrapLon.f a = spec_l11Wrap.f a := by
  unfold impl_WrapLon.f spec_l11Wrap.f
  have h1 : Int.tmod a 3600000000 < 3600000000 := Int.tmod_lt_of_pos _ (by omega)
  have h2 : -3600000000 < Int.tmod a 3600000000 := by
    have := Int.tmod_lt_of_pos (-a) (b := 3600000000) (by omega)
    rw [Int.neg_tmod] at this
    omega
  generalize Int.tmod a 3600000000 = r at *
  by_cases h : r > 1800000000
  · rw [if_pos h, if_pos h, if_neg (by unfold wrap64; omega)]
  · rw [if_neg h, if_neg h]

theorem wrapLon_some (a : Int) : ∃ r, spec_l11Wrap.f a = some r := by
  unfold spec_l11Wrap.f
  split
  · split <;> exact ⟨_, rfl⟩
  · split <;> exact ⟨_, rfl⟩

theorem ok_eq (a b : Int) : impl_ValidPoint.f a b = spec_l11Ok.f a b := by
  unfold impl_ValidPoint.f spec_l11Ok.f impl_within.f spec_l00In.f
  by_cases h1 : a ≥ -900000000
  · rw [if_pos h1]
    simp only [Option.bind_some]
    by_cases h2 : a ≤ 900000000
    · rw [decide_eq_true h2, if_pos rfl, if_pos rfl]
      by_cases h3 : b > -1800000000
      · rw [if_pos h3, if_pos (by omega)]; rfl
      · rw [if_neg h3, if_neg (by omega)]; rfl
    · rw [decide_eq_false h2, if_neg (by simp), if_neg (by simp)]
  · rw [if_neg h1]
    simp

theorem ok_some (a b : Int) : ∃ r, spec_l11Ok.f a b = some r ∧ (r = true → -900000000 ≤ a ∧ a ≤ 900000000) := by
  unfold spec_l11Ok.f spec_l00In.f
  by_cases h1 : a ≥ -900000000
  · rw [if_pos h1]
    simp only [Option.bind_some]
    by_cases h2 : a ≤ 900000000
    · rw [decide_eq_true h2, if_pos rfl]
      by_cases h3 : b ≥ -1799999999
      · rw [if_pos h3]; exact ⟨_, rfl, fun _ => ⟨by omega, h2⟩⟩
      · rw [if_neg h3]; exact ⟨_, rfl, fun _ => ⟨by omega, h2⟩⟩
    · rw [decide_eq_false h2, if_neg (by simp)]; exact ⟨_, rfl, fun h => by cases h⟩
  · rw [if_neg h1]
    simp

theorem pole_eq (a : Int) (b : Int) (h : -900000000 ≤ a ∧ a ≤ 900000000) : impl_isPole.f a b = spec_l11Pole.f a b := by
  unfold impl_isPole.f impl_abs.f spec_l11Pole.f
  simp only [Option.bind_some]
  have e : wrap64 (-a) = -a := wrap_id (by omega)
  rw [e]
  by_cases h1 : a = 900000000
  · rw [if_pos h1, h1]; rfl
  · rw [if_neg h1]
    congr 1
    unfold mx
    by_cases h2 : a = -900000000
    · rw [h2]; rfl
    · rw [beq_eq_false_iff_ne.2 h2]
      refine beq_eq_false_iff_ne.2 ?_
      split <;> omega

theorem pole_some (a b : Int) : ∃ r, spec_l11Pole.f a b = some r := by
  unfold spec_l11Pole.f
  split <;> exact ⟨_, rfl⟩

theorem edge_eq (a b c d : Int) : ∃ r, spec_l24Edge.f a b c d = some r ∧ impl_isEdge.f a b c d = some r := by
  unfold spec_l24Edge.f impl_isEdge.f impl_areValid.f
  rw [ok_eq, ok_eq]
  obtain ⟨r1, h1, k1⟩ := ok_some a b
  obtain ⟨r2, h2, k2⟩ := ok_some c d
  rw [h1, h2]
  simp only [Option.bind_some]
  cases r1 with
  | false => simp
  | true =>
    simp only [if_true, Option.bind_some]
    cases r2 with
    | false => simp
    | true =>
      simp only [if_true]
      rw [pole_eq a b (k1 rfl), pole_eq c d (k2 rfl), wrapLon]
      obtain ⟨r3, h3⟩ := pole_some a b
      obtain ⟨r4, h4⟩ := pole_some c d
      obtain ⟨r5, h5⟩ := wrapLon_some (wrap64 (d - b))
      rw [h3, h4, h5]
      simp only [Option.bind_some]
      cases r3 <;> cases r4 <;> simp

theorem next_some (l : List S30) (i : Nat) (hi : i < l.length) (hn : l.length < 1152921504606846976) : ∃ r, spec_l24Next.f l (i : Int) = some r := by
  unfold spec_l24Next.f
  rw [if_neg (by omega), wrap_id (by omega)]
  have h1 : 0 ≤ Int.tmod ((i : Int) + 1) (l.length : Int) := Int.tmod_nonneg _ (by omega)
  have h2 : Int.tmod ((i : Int) + 1) (l.length : Int) < (l.length : Int) := Int.tmod_lt_of_pos _ (by omega)
  rw [if_pos h1, if_pos h2]
  exact ⟨_, rfl⟩

theorem next_eq (l : List S30) (i : Int) : impl_follower.f l i = spec_l24Next.f l i := rfl

def inr (n : Nat) : Bool := decide (3 ≤ n) && decide (n ≤ 24)

theorem loop_eq (l : List S30) (hn : l.length < 1152921504606846976) : ∀ (d k i : Nat), l.length = i + d → d < k → ∃ r, spec_l24Ok.l0 k l (i : Int) = some r ∧ impl_ValidRing.l0 k l l (l.length : Int) (i : Int) = some (r && inr l.length) := by
  intro d
  induction d with
  | zero =>
    intro k i hi hk
    obtain ⟨k, rfl⟩ : ∃ m, k = m + 1 := ⟨k - 1, by omega⟩
    simp only [spec_l24Ok.l0, impl_ValidRing.l0, impl_Point.f, impl_within.f, Option.bind_some]
    rw [if_neg (by omega), if_neg (by omega)]
    refine ⟨true, rfl, ?_⟩
    unfold inr
    by_cases h : (l.length : Int) ≥ 3
    · rw [if_pos h, decide_eq_true (show 3 ≤ l.length by omega)]
      simp only [Option.bind_some, Bool.true_and]
      congr 1
      by_cases h2 : l.length ≤ 24
      · rw [decide_eq_true h2, decide_eq_true (by omega)]
      · rw [decide_eq_false h2, decide_eq_false (by omega)]
    · rw [if_neg h, decide_eq_false (show ¬ 3 ≤ l.length by omega)]
      rfl
  | succ d ih =>
    intro k i hi hk
    obtain ⟨k, rfl⟩ : ∃ m, k = m + 1 := ⟨k - 1, by omega⟩
    simp only [spec_l24Ok.l0, impl_ValidRing.l0, next_eq]
    rw [if_pos (by omega), if_pos (by omega), if_pos (by omega), if_pos (by omega)]
    obtain ⟨q, hq⟩ := next_some l i (by omega) hn
    rw [hq]
    simp only [Option.bind_some]
    obtain ⟨e, h1, h2⟩ := edge_eq (rd_T30 l (i : Int)).f0 (rd_T30 l (i : Int)).f1 q.1 q.2
    rw [h1, h2]
    simp only [Option.bind_some]
    rw [if_pos (show (0 : Int) ≤ (i : Int) by omega)]
    cases e with
    | false => exact ⟨false, rfl, rfl⟩
    | true =>
      simp only [if_true]
      by_cases h3 : ((rd_T30 l (i : Int)).f0 == q.1 && (rd_T30 l (i : Int)).f1 == q.2) = true
      · rw [if_pos h3, if_pos h3]
        exact ⟨false, rfl, rfl⟩
      · rw [if_neg h3, if_neg h3, wrap_id (by omega), show ((i : Int) + 1) = ((i + 1 : Nat) : Int) by omega]
        exact ih k (i + 1) (by omega) (by omega)

theorem eqS (l : List S30) (hn : l.length < 1152921504606846976) : ∀ (d k i : Nat), l.length = i + d → d < k → laws_eqPointS.l0 k l l (i : Int) = some true := by
  intro d
  induction d with
  | zero =>
    intro k i hi hk
    obtain ⟨k, rfl⟩ : ∃ m, k = m + 1 := ⟨k - 1, by omega⟩
    simp only [laws_eqPointS.l0]
    rw [if_neg (by omega)]
  | succ d ih =>
    intro k i hi hk
    obtain ⟨k, rfl⟩ : ∃ m, k = m + 1 := ⟨k - 1, by omega⟩
    simp only [laws_eqPointS.l0, laws_eqPoint.f]
    rw [if_pos (by omega), if_pos (by omega)]
    simp only [if_true, Option.bind_some]
    rw [wrap_id (by omega), show ((i : Int) + 1) = ((i + 1 : Nat) : Int) by omega]
    first
      | exact ih k (i + 1) (by omega) (by omega)
      | (rw [if_pos (by omega)]; exact ih k (i + 1) (by omega) (by omega))

theorem pure (l0 : List S32) (hn : l0.length * 16 ≤ 140737488351232) : ∃ k, laws_FnExactValidRing.f k l0 = some true := by
  refine ⟨l0.length + 1, ?_⟩
  unfold laws_FnExactValidRing.f
  have hs : ∃ t, laws_szPointS.f l0 1048576 = some t := by
    unfold laws_szPointS.f
    split <;> exact ⟨_, rfl⟩
  obtain ⟨t, ht⟩ := hs
  rw [ht]
  simp only [Option.bind_some]
  split
  · rfl
  rw [toPointS l0 (by omega) _ (Nat.lt_succ_self _)]
  simp only [Option.bind_some]
  have hl : (l0.map conv).length = l0.length := List.length_map _
  have hlt : (l0.map conv).length < 1152921504606846976 := by omega
  obtain ⟨r, h1, h2⟩ := loop_eq (l0.map conv) hlt (l0.map conv).length (l0.length + 1) 0 (by omega) (by omega)
  have hS : spec_ValidRing.f (l0.length + 1) (l0.map conv) = some (r && inr (l0.map conv).length) := by
    unfold spec_ValidRing.f spec_l24Ok.f spec_l00In.f
    unfold inr
    by_cases h : ((l0.map conv).length : Int) ≥ 3
    · rw [if_pos h, decide_eq_true (show 3 ≤ (l0.map conv).length by omega)]
      simp only [Option.bind_some, Bool.true_and]
      by_cases h3 : (l0.map conv).length ≤ 24
      · rw [decide_eq_true h3, decide_eq_true (show ((l0.map conv).length : Int) ≤ 24 by omega), if_pos rfl]
        have h1' : spec_l24Ok.l0 (l0.length + 1) (l0.map conv) 0 = some r := h1
        rw [h1']
        simp
      · rw [decide_eq_false h3, decide_eq_false (show ¬ ((l0.map conv).length : Int) ≤ 24 by omega), if_neg (by simp)]
        simp
    · rw [if_neg h, decide_eq_false (show ¬ 3 ≤ (l0.map conv).length by omega)]
      simp
  have hI : impl_ValidRing.f (l0.length + 1) (l0.map conv) = some (r && inr (l0.map conv).length) := h2
  rw [hS, hI]
  simp only [Option.bind_some]
  rw [if_neg (by simp)]
  have hE : laws_eqPointS.f (l0.length + 1) (l0.map conv) (l0.map conv) = some true := by
    unfold laws_eqPointS.f
    rw [if_pos rfl]
    exact eqS (l0.map conv) hlt (l0.map conv).length (l0.length + 1) 0 (by omega) (by omega)
  rw [hE]
  rfl

end Go.Proofs.Ytlgbjanlofomoaa.Ring
